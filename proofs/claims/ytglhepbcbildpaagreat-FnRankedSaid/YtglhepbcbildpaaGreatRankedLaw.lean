/- The law of ranks: its walk. -/
import Derived.Test.YtglhepbcbildpaaGreatR8Room
import Derived.Test.YtglhepbcbildpaaGreatR8B
import Derived.Test.YtglhepbcbildpaaGreatRankedPlain
import Derived.Test.YtglhepbcbildpaaGreatJoin2
import Derived.Deep.Cut
import Derived.Deep.CutRange
namespace Go.Proofs.YtglhepbcbildpaaGreat
open Go Go.RowKit Go.BigFrame
set_option linter.unusedVariables false
set_option linter.unusedSimpArgs false
set_option maxRecDepth 100000
set_option maxHeartbeats 32000000 in
theorem fnRanked_c (code more : List UInt8) (v u : Value) (w : World) (hc : SliceK srcD w v code) (hm : SliceK srcD w u more) :
    Calls Tryz.prog 4 #[v, u] w fun e w' => e = .returned (.bool true) ∧ Below w.heap.size w w' := by
  obtain ⟨A, c, rfl⟩ := hc.shape
  obtain ⟨B, d, rfl⟩ := hm.shape
  have HC := hide hc
  have HM := hide hm
  clear hc hm
  go_enter Tryz.func4, Tryz.ntmps4
  go_wp2_with fail
  refine (r8Long_c _ _ _ _ _ _ _).mono ?_
  rintro e w' ⟨rfl, rfl⟩
  cases hlong : (decide (48 < code.length) || decide (48 < more.length)) with
  | true =>
    clear hlong
    go_wp2_with fail
    go_ret
    exact ⟨rfl, Below.refl _ _⟩
  | false =>
    clear hlong
    go_wp2_with fail
    refine (r8Room_c code A c _ HC.out).mono ?_
    rintro e w1 ⟨r, v1, v2, v3, F, rfl, hD, hS1⟩
    obtain ⟨g1, g2, g3⟩ := room_MK hS1.head
    obtain ⟨A1, c1, rfl⟩ := g1.shape
    obtain ⟨A2, c2, rfl⟩ := g2.shape
    obtain ⟨A3, c3, rfl⟩ := g3.shape
    have HD := hide hD
    have HS1 := hide hS1
    clear hD hS1 g1 g2 g3
    go_wp2_with fail
    obtain ⟨W2, hW2⟩ : ∃ V, V = w1.alloc (.cells #[.bool r.open_, .slice A1 r.members.length c1, .slice A2 r.invites.length c2, .slice A3 r.bans.length c3] 28) := ⟨_, rfl⟩
    rw [← hW2]
    have HS2 := hide (show St w W2 (blk w1.heap.size #[.bool r.open_, .slice A1 r.members.length c1, .slice A2 r.invites.length c2, .slice A3 r.bans.length c3] 28 :: [ownD roomD r [.bool r.open_, .slice A1 r.members.length c1, .slice A2 r.invites.length c2, .slice A3 r.bans.length c3] F]) by rw [hW2]; (repeat (first | (with_reducible exact HS1.out) | (with_reducible apply St.alloc) | (with_reducible apply St.set0) | (with_reducible apply St.set1) | (with_reducible apply St.set2) | (with_reducible apply St.set3) | (with_reducible apply St.drew) | (with_reducible apply St.drewN))); all_goals (try (first | rfl | (simp; done))))
    clear hW2
    go_wp2_with fail
    refine (r8At_c more B d 0 6 _ (HM.out.below HS2.out.below) (by omega) (by omega)).mono ?_
    rintro e w' ⟨q, rfl, q0, q1, rfl⟩
    go_wp2_with fail
    obtain ⟨n, hn⟩ : ∃ n, n = 1 + q := ⟨_, rfl⟩
    rw [← hn]
    have n0 : 1 ≤ n := by omega
    have n1 : n ≤ 6 := by omega
    clear hn q0 q1
    refine (r8At_c more B d 1 7 _ (HM.out.below HS2.out.below) (by omega) (by omega)).mono ?_
    rintro e w' ⟨p, rfl, p0, p1, rfl⟩
    go_wp2_with fail
    obtain ⟨id, hid⟩ : ∃ id, id = 1 + p := ⟨_, rfl⟩
    rw [← hid]
    have i0 : 1 ≤ id := by omega
    have i1 : id ≤ 7 := by omega
    clear hid p0 p1
    refine (r8At_c more B d 2 40 _ (HM.out.below HS2.out.below) (by omega) (by omega)).mono ?_
    rintro e w' ⟨a, rfl, a0, a1, rfl⟩
    go_wp2_with fail
    refine (r8At_c more B d 3 4 _ (HM.out.below HS2.out.below) (by omega) (by omega)).mono ?_
    rintro e w' ⟨u, rfl, u0, u1, rfl⟩
    (try clear x0 x1 x2 x3 xz)
    obtain ⟨x0, x1, x2, x3⟩ := (HS2.out.at0).c4
    have xz := (HS2.out.at0).lt
    have hvr := HD.out.v
    have HRN := hide (ro_ok hvr n)
    have HRI := hide (ro_ok hvr id)
    have hi : inB id 1 1000 = true := inB_of i0 (by omega)
    have HMU := hide (muteOk_eq (n := n) (a := a) (u := a + 5) hvr hi (inB_of (by omega) (by omega)))
    have HGI := hide (giveOk_eq (n := n) (a := a) (u := u) hvr hi (inB_of (by omega) (by omega)))
    have HBA := hide (banishOk_eq (n := n) (a := a) (u := a + 5) hvr (by have := HD.out.len; omega) hi (inB_of (by omega) (by omega)) (by omega))
    clear hvr hi
    go_wp2_with fail
    refine (roleOf_c r n _ _ _ _ (room_MK HS2.out.drop.head).1 (room_MK HS2.out.drop.head).2.1 (room_MK HS2.out.drop.head).2.2).mono ?_
    rintro e w3 ⟨rfl, hb⟩
    rw [HRN.out]
    have HS3 := hide (HS2.out.by hb)
    clear hb
    (try clear x0 x1 x2 x3 xz)
    obtain ⟨x0, x1, x2, x3⟩ := (HS3.out.at0).c4
    have xz := (HS3.out.at0).lt
    go_wp2_with fail
    refine (roleOf_c r id _ _ _ _ (room_MK HS3.out.drop.head).1 (room_MK HS3.out.drop.head).2.1 (room_MK HS3.out.drop.head).2.2).mono ?_
    rintro e w4 ⟨rfl, hb⟩
    rw [HRI.out]
    have HS4 := hide (HS3.out.by hb)
    clear hb
    (try clear x0 x1 x2 x3 xz)
    obtain ⟨x0, x1, x2, x3⟩ := (HS4.out.at0).c4
    have xz := (HS4.out.at0).lt
    go_wp2_with fail
    refine (specRoleOf_c r n _ _ _ _ (room_MK HS4.out.drop.head).1 (room_MK HS4.out.drop.head).2.1 (room_MK HS4.out.drop.head).2.2).mono ?_
    rintro e w5 ⟨rfl, hb⟩
    rw [HRN.out]
    have HS5 := hide (HS4.out.by hb)
    clear hb
    (try clear x0 x1 x2 x3 xz)
    obtain ⟨x0, x1, x2, x3⟩ := (HS5.out.at0).c4
    have xz := (HS5.out.at0).lt
    go_upto_region 13 with fail
    go_cut [11, 13, 15, 16] from 50 to 90 (fun s11 s13 s15 s16 w' => s11 = .bool (hasId r n) ∧ s13 = .bool (hasId r id) ∧ s15 = .bool (hasId r n) ∧ s16 = .bool (aboveV r n id) ∧ w5 = w')
    case first =>
      cases h1 : hasId r n with
      | false =>
        go_wp2_with fail
        go_meet
        case rel => exact ⟨by rw [h1], rfl, by rw [h1], by simp [aboveV, h1], rfl⟩
      | true =>
        by_cases h2 : n = id
        · subst h2
          go_wp2_with fail
          go_meet
          case rel => exact ⟨by rw [h1], by rw [h1], by rw [h1], by simp [aboveV], rfl⟩
        · have h2b : (n != id) = true := by simpa using h2
          cases h3 : hasId r id with
          | false =>
            go_wp2_with fail
            go_meet
            case rel => exact ⟨by rw [h1], by rw [h3], by rw [h1], by simp [aboveV, h1, h2, h3], rfl⟩
          | true =>
            by_cases h4 : roV r id < roV r n
            · go_wp2_with fail
              go_meet
              case rel => exact ⟨by rw [h1], by rw [h3], by rw [h1], by simp [aboveV, h1, h2, h3, h4], rfl⟩
            · go_wp2_with fail
              go_meet
              case rel => exact ⟨by rw [h1], by rw [h3], by rw [h1], by simp [aboveV, h1, h2, h3, h4], rfl⟩
    case rest =>
      obtain ⟨rfl, rfl, rfl, rfl, rfl⟩ := hcut
      go_wp2_with fail
      refine (muteMember_c r n id (a + 5) a _ _ _ _ (room_MK HS5.out.drop.head).1 (room_MK HS5.out.drop.head).2.1 (room_MK HS5.out.drop.head).2.2).mono ?_
      rintro e w6 hr
      obtain ⟨cs, FM, rfl, hK, hb, hS⟩ := HS5.out.elem2 hr
      obtain ⟨u1, u2, u3, rfl, h1, h2, h3⟩ := room_K hK
      obtain ⟨M1, m1, rfl⟩ := h1.shape
      obtain ⟨M2, m2, rfl⟩ := h2.shape
      obtain ⟨M3, m3, rfl⟩ := h3.shape
      have HS6 := hide hS
      clear hr hK hb hS h1 h2 h3
      (try clear x0 x1 x2 x3 xz)
      obtain ⟨x0, x1, x2, x3⟩ := (HS6.out.at1).c4
      have xz := (HS6.out.at1).lt
      go_wp2_with fail
      obtain ⟨W7, hW⟩ : ∃ V, V = w6.alloc (.cells #[.bool (muteV r n id (a + 5) a).open_, .slice M1 (muteV r n id (a + 5) a).members.length m1, .slice M2 (muteV r n id (a + 5) a).invites.length m2, .slice M3 (muteV r n id (a + 5) a).bans.length m3] 28) := ⟨_, rfl⟩
      rw [← hW]
      have HS7 := hide (show St w W7 (blk w6.heap.size #[.bool (muteV r n id (a + 5) a).open_, .slice M1 (muteV r n id (a + 5) a).members.length m1, .slice M2 (muteV r n id (a + 5) a).invites.length m2, .slice M3 (muteV r n id (a + 5) a).bans.length m3] 28 :: ownD roomD (muteV r n id (a + 5) a) [.bool (muteV r n id (a + 5) a).open_, .slice M1 (muteV r n id (a + 5) a).members.length m1, .slice M2 (muteV r n id (a + 5) a).invites.length m2, .slice M3 (muteV r n id (a + 5) a).bans.length m3] FM :: blk w1.heap.size #[.bool r.open_, .slice A1 r.members.length c1, .slice A2 r.invites.length c2, .slice A3 r.bans.length c3] 28 :: [ownD roomD r [.bool r.open_, .slice A1 r.members.length c1, .slice A2 r.invites.length c2, .slice A3 r.bans.length c3] F]) by rw [hW]; (repeat (first | (with_reducible exact HS6.out) | (with_reducible apply St.alloc) | (with_reducible apply St.set0) | (with_reducible apply St.set1) | (with_reducible apply St.set2) | (with_reducible apply St.set3) | (with_reducible apply St.drew) | (with_reducible apply St.drewN))); all_goals (try (first | rfl | (simp; done))))
      clear hW
      refine (giveRole_c r n id u a _ _ _ _ (room_MK HS7.out.drop.drop.drop.head).1 (room_MK HS7.out.drop.drop.drop.head).2.1 (room_MK HS7.out.drop.drop.drop.head).2.2).mono ?_
      rintro e w8 hr
      obtain ⟨cs, FG, rfl, hK, hb, hS⟩ := HS7.out.elem2 hr
      obtain ⟨u1, u2, u3, rfl, h1, h2, h3⟩ := room_K hK
      obtain ⟨G1, g1, rfl⟩ := h1.shape
      obtain ⟨G2, g2, rfl⟩ := h2.shape
      obtain ⟨G3, g3, rfl⟩ := h3.shape
      have HS8 := hide hS
      clear hr hK hb hS h1 h2 h3
      (try clear x0 x1 x2 x3 xz)
      obtain ⟨x0, x1, x2, x3⟩ := (HS8.out.at3).c4
      have xz := (HS8.out.at3).lt
      go_wp2_with fail
      obtain ⟨W9, hW⟩ : ∃ V, V = w8.alloc (.cells #[.bool (giveV r n id u a).open_, .slice G1 (giveV r n id u a).members.length g1, .slice G2 (giveV r n id u a).invites.length g2, .slice G3 (giveV r n id u a).bans.length g3] 28) := ⟨_, rfl⟩
      rw [← hW]
      have HS9 := hide (show St w W9 (blk w8.heap.size #[.bool (giveV r n id u a).open_, .slice G1 (giveV r n id u a).members.length g1, .slice G2 (giveV r n id u a).invites.length g2, .slice G3 (giveV r n id u a).bans.length g3] 28 :: ownD roomD (giveV r n id u a) [.bool (giveV r n id u a).open_, .slice G1 (giveV r n id u a).members.length g1, .slice G2 (giveV r n id u a).invites.length g2, .slice G3 (giveV r n id u a).bans.length g3] FG :: blk w6.heap.size #[.bool (muteV r n id (a + 5) a).open_, .slice M1 (muteV r n id (a + 5) a).members.length m1, .slice M2 (muteV r n id (a + 5) a).invites.length m2, .slice M3 (muteV r n id (a + 5) a).bans.length m3] 28 :: ownD roomD (muteV r n id (a + 5) a) [.bool (muteV r n id (a + 5) a).open_, .slice M1 (muteV r n id (a + 5) a).members.length m1, .slice M2 (muteV r n id (a + 5) a).invites.length m2, .slice M3 (muteV r n id (a + 5) a).bans.length m3] FM :: blk w1.heap.size #[.bool r.open_, .slice A1 r.members.length c1, .slice A2 r.invites.length c2, .slice A3 r.bans.length c3] 28 :: [ownD roomD r [.bool r.open_, .slice A1 r.members.length c1, .slice A2 r.invites.length c2, .slice A3 r.bans.length c3] F]) by rw [hW]; (repeat (first | (with_reducible exact HS8.out) | (with_reducible apply St.alloc) | (with_reducible apply St.set0) | (with_reducible apply St.set1) | (with_reducible apply St.set2) | (with_reducible apply St.set3) | (with_reducible apply St.drew) | (with_reducible apply St.drewN))); all_goals (try (first | rfl | (simp; done))))
      clear hW
      refine (banMember_c r n id (a + 5) a _ _ _ _ (room_MK HS9.out.drop.drop.drop.drop.drop.head).1 (room_MK HS9.out.drop.drop.drop.drop.drop.head).2.1 (room_MK HS9.out.drop.drop.drop.drop.drop.head).2.2).mono ?_
      rintro e wA hr
      obtain ⟨cs, FB, rfl, hK, hb, hS⟩ := HS9.out.elem2 hr
      obtain ⟨u1, u2, u3, rfl, h1, h2, h3⟩ := room_K hK
      obtain ⟨B1, b1, rfl⟩ := h1.shape
      obtain ⟨B2, b2, rfl⟩ := h2.shape
      obtain ⟨B3, b3, rfl⟩ := h3.shape
      have HSA := hide hS
      clear hr hK hb hS h1 h2 h3
      (try clear x0 x1 x2 x3 xz)
      obtain ⟨x0, x1, x2, x3⟩ := (HSA.out.drop.drop.at3).c4
      have xz := (HSA.out.drop.drop.at3).lt
      go_upto_region 17 with fail
      obtain ⟨WB, hW⟩ : ∃ V, V = wA.alloc (.cells #[.bool (banishV r n id (a + 5) a).open_, .slice B1 (banishV r n id (a + 5) a).members.length b1, .slice B2 (banishV r n id (a + 5) a).invites.length b2, .slice B3 (banishV r n id (a + 5) a).bans.length b3] 28) := ⟨_, rfl⟩
      rw [← hW]
      have HSB := hide (show St w WB (blk wA.heap.size #[.bool (banishV r n id (a + 5) a).open_, .slice B1 (banishV r n id (a + 5) a).members.length b1, .slice B2 (banishV r n id (a + 5) a).invites.length b2, .slice B3 (banishV r n id (a + 5) a).bans.length b3] 28 :: ownD roomD (banishV r n id (a + 5) a) [.bool (banishV r n id (a + 5) a).open_, .slice B1 (banishV r n id (a + 5) a).members.length b1, .slice B2 (banishV r n id (a + 5) a).invites.length b2, .slice B3 (banishV r n id (a + 5) a).bans.length b3] FB :: blk w8.heap.size #[.bool (giveV r n id u a).open_, .slice G1 (giveV r n id u a).members.length g1, .slice G2 (giveV r n id u a).invites.length g2, .slice G3 (giveV r n id u a).bans.length g3] 28 :: ownD roomD (giveV r n id u a) [.bool (giveV r n id u a).open_, .slice G1 (giveV r n id u a).members.length g1, .slice G2 (giveV r n id u a).invites.length g2, .slice G3 (giveV r n id u a).bans.length g3] FG :: blk w6.heap.size #[.bool (muteV r n id (a + 5) a).open_, .slice M1 (muteV r n id (a + 5) a).members.length m1, .slice M2 (muteV r n id (a + 5) a).invites.length m2, .slice M3 (muteV r n id (a + 5) a).bans.length m3] 28 :: ownD roomD (muteV r n id (a + 5) a) [.bool (muteV r n id (a + 5) a).open_, .slice M1 (muteV r n id (a + 5) a).members.length m1, .slice M2 (muteV r n id (a + 5) a).invites.length m2, .slice M3 (muteV r n id (a + 5) a).bans.length m3] FM :: blk w1.heap.size #[.bool r.open_, .slice A1 r.members.length c1, .slice A2 r.invites.length c2, .slice A3 r.bans.length c3] 28 :: [ownD roomD r [.bool r.open_, .slice A1 r.members.length c1, .slice A2 r.invites.length c2, .slice A3 r.bans.length c3] F]) by rw [hW]; (repeat (first | (with_reducible exact HSA.out) | (with_reducible apply St.alloc) | (with_reducible apply St.set0) | (with_reducible apply St.set1) | (with_reducible apply St.set2) | (with_reducible apply St.set3) | (with_reducible apply St.drew) | (with_reducible apply St.drewN))); all_goals (try (first | rfl | (simp; done))))
      clear hW
      (try clear x0 x1 x2 x3 xz)
      obtain ⟨x0, x1, x2, x3⟩ := (HSB.out.drop.drop.drop.at3).c4
      have xz := (HSB.out.drop.drop.drop.at3).lt
      go_cut [11, 13, 15, 16, 18, 20, 22, 156] from 91 to 156 (fun s11 s13 s15 s16 s18 s20 s22 s156 w' => s11 = .bool (hasId r n) ∧ s13 = .bool (hasId r id) ∧ s15 = .bool (hasId r n) ∧ s16 = .bool (aboveV r n id) ∧ s18 = .bool (muteOk r n id (a + 5) a) ∧ s20 = .bool (giveOk r n id u a) ∧ s22 = .bool (banishOk r n id (a + 5) a) ∧ s156 = .bool false ∧ Hid (St w w' (blk wA.heap.size #[.bool (banishV r n id (a + 5) a).open_, .slice B1 (banishV r n id (a + 5) a).members.length b1, .slice B2 (banishV r n id (a + 5) a).invites.length b2, .slice B3 (banishV r n id (a + 5) a).bans.length b3] 28 :: ownD roomD (banishV r n id (a + 5) a) [.bool (banishV r n id (a + 5) a).open_, .slice B1 (banishV r n id (a + 5) a).members.length b1, .slice B2 (banishV r n id (a + 5) a).invites.length b2, .slice B3 (banishV r n id (a + 5) a).bans.length b3] FB :: blk w8.heap.size #[.bool (giveV r n id u a).open_, .slice G1 (giveV r n id u a).members.length g1, .slice G2 (giveV r n id u a).invites.length g2, .slice G3 (giveV r n id u a).bans.length g3] 28 :: ownD roomD (giveV r n id u a) [.bool (giveV r n id u a).open_, .slice G1 (giveV r n id u a).members.length g1, .slice G2 (giveV r n id u a).invites.length g2, .slice G3 (giveV r n id u a).bans.length g3] FG :: blk w6.heap.size #[.bool (muteV r n id (a + 5) a).open_, .slice M1 (muteV r n id (a + 5) a).members.length m1, .slice M2 (muteV r n id (a + 5) a).invites.length m2, .slice M3 (muteV r n id (a + 5) a).bans.length m3] 28 :: ownD roomD (muteV r n id (a + 5) a) [.bool (muteV r n id (a + 5) a).open_, .slice M1 (muteV r n id (a + 5) a).members.length m1, .slice M2 (muteV r n id (a + 5) a).invites.length m2, .slice M3 (muteV r n id (a + 5) a).bans.length m3] FM :: blk w1.heap.size #[.bool r.open_, .slice A1 r.members.length c1, .slice A2 r.invites.length c2, .slice A3 r.bans.length c3] 28 :: [ownD roomD r [.bool r.open_, .slice A1 r.members.length c1, .slice A2 r.invites.length c2, .slice A3 r.bans.length c3] F])))
      case first =>
        cases ha : aboveV r n id with
        | false =>
          have e1 : muteOk r n id (a + 5) a = false := by rw [HMU.out, ha]; rfl
          have e2 : giveOk r n id u a = false := by rw [HGI.out, ha]; rfl
          have e3 : banishOk r n id (a + 5) a = false := by rw [HBA.out, ha]; rfl
          go_wp2_with fail
          go_meet
          case rel => exact ⟨rfl, rfl, rfl, by rw [ha], by rw [e1], by rw [e2], by rw [e3], rfl, HSB⟩
        | true =>
          have e3 : banishOk r n id (a + 5) a = isAllowed r n 6 a := by rw [HBA.out, ha]; rfl
          cases hd : hasId r id with
          | false =>
            have e1 : muteOk r n id (a + 5) a = false := by rw [HMU.out, ha, hd]; rfl
            have e2 : giveOk r n id u a = false := by rw [HGI.out, ha, hd]; rfl
            go_wp2_with fail
            refine (isAllowed_c r _ _ _ n 6 a _ (room_MK HSB.out.drop.drop.drop.drop.drop.drop.drop.head).1 (room_MK HSB.out.drop.drop.drop.drop.drop.drop.drop.head).2.1 (room_MK HSB.out.drop.drop.drop.drop.drop.drop.drop.head).2.2).mono ?_
            rintro e wC ⟨rfl, hb⟩
            have HSC := hide (HSB.out.by hb)
            clear hb
            (try clear x0 x1 x2 x3 xz)
            obtain ⟨x0, x1, x2, x3⟩ := (HSC.out.drop.drop.drop.at3).c4
            have xz := (HSC.out.drop.drop.drop.at3).lt
            go_wp2_with fail
            go_meet
            case rel => exact ⟨rfl, by rw [hd], rfl, by rw [ha], by rw [e1], by rw [e2], by rw [e3], rfl, HSC⟩
          | true =>
            have e1 : muteOk r n id (a + 5) a = isAllowed r n 4 a := by rw [HMU.out, ha, hd]; rfl
            have e2 : giveOk r n id u a = isAllowed r n 7 a := by rw [HGI.out, ha, hd]; rfl
            go_wp2_with fail
            refine (isAllowed_c r _ _ _ n 4 a _ (room_MK HSB.out.drop.drop.drop.drop.drop.drop.drop.head).1 (room_MK HSB.out.drop.drop.drop.drop.drop.drop.drop.head).2.1 (room_MK HSB.out.drop.drop.drop.drop.drop.drop.drop.head).2.2).mono ?_
            rintro e wC ⟨rfl, hb⟩
            have HSC := hide (HSB.out.by hb)
            clear hb
            (try clear x0 x1 x2 x3 xz)
            obtain ⟨x0, x1, x2, x3⟩ := (HSC.out.drop.drop.drop.at3).c4
            have xz := (HSC.out.drop.drop.drop.at3).lt
            go_wp2_with fail
            refine (isAllowed_c r _ _ _ n 7 a _ (room_MK HSC.out.drop.drop.drop.drop.drop.drop.drop.head).1 (room_MK HSC.out.drop.drop.drop.drop.drop.drop.drop.head).2.1 (room_MK HSC.out.drop.drop.drop.drop.drop.drop.drop.head).2.2).mono ?_
            rintro e wD ⟨rfl, hb⟩
            have HSD := hide (HSC.out.by hb)
            clear hb
            (try clear x0 x1 x2 x3 xz)
            obtain ⟨x0, x1, x2, x3⟩ := (HSD.out.drop.drop.drop.at3).c4
            have xz := (HSD.out.drop.drop.drop.at3).lt
            go_wp2_with fail
            refine (isAllowed_c r _ _ _ n 6 a _ (room_MK HSD.out.drop.drop.drop.drop.drop.drop.drop.head).1 (room_MK HSD.out.drop.drop.drop.drop.drop.drop.drop.head).2.1 (room_MK HSD.out.drop.drop.drop.drop.drop.drop.drop.head).2.2).mono ?_
            rintro e wE ⟨rfl, hb⟩
            have HSE := hide (HSD.out.by hb)
            clear hb
            (try clear x0 x1 x2 x3 xz)
            obtain ⟨x0, x1, x2, x3⟩ := (HSE.out.drop.drop.drop.at3).c4
            have xz := (HSE.out.drop.drop.drop.at3).lt
            go_wp2_with fail
            go_meet
            case rel => exact ⟨rfl, by rw [hd], rfl, by rw [ha], by rw [e1], by rw [e2], by rw [e3], rfl, HSE⟩
      case rest =>
        obtain ⟨rfl, rfl, rfl, rfl, rfl, rfl, rfl, rfl, HX⟩ := hcut
        clear HSB
        go_upto_region 19 with fail
        (try clear y0 y1 y2 y3 yz)
        obtain ⟨y0, y1, y2, y3⟩ := (HX.out.drop.at3).c4
        have yz := (HX.out.drop.at3).lt
        go_cut [18, 169] from 157 to 169 (fun s18 s169 w' => s18 = .bool (muteOk r n id (a + 5) a) ∧ s169 = .bool false ∧ Hid (St w w' (blk wA.heap.size #[.bool (banishV r n id (a + 5) a).open_, .slice B1 (banishV r n id (a + 5) a).members.length b1, .slice B2 (banishV r n id (a + 5) a).invites.length b2, .slice B3 (banishV r n id (a + 5) a).bans.length b3] 28 :: ownD roomD (banishV r n id (a + 5) a) [.bool (banishV r n id (a + 5) a).open_, .slice B1 (banishV r n id (a + 5) a).members.length b1, .slice B2 (banishV r n id (a + 5) a).invites.length b2, .slice B3 (banishV r n id (a + 5) a).bans.length b3] FB :: blk w8.heap.size #[.bool (giveV r n id u a).open_, .slice G1 (giveV r n id u a).members.length g1, .slice G2 (giveV r n id u a).invites.length g2, .slice G3 (giveV r n id u a).bans.length g3] 28 :: ownD roomD (giveV r n id u a) [.bool (giveV r n id u a).open_, .slice G1 (giveV r n id u a).members.length g1, .slice G2 (giveV r n id u a).invites.length g2, .slice G3 (giveV r n id u a).bans.length g3] FG :: blk w6.heap.size #[.bool (muteV r n id (a + 5) a).open_, .slice M1 (muteV r n id (a + 5) a).members.length m1, .slice M2 (muteV r n id (a + 5) a).invites.length m2, .slice M3 (muteV r n id (a + 5) a).bans.length m3] 28 :: ownD roomD (muteV r n id (a + 5) a) [.bool (muteV r n id (a + 5) a).open_, .slice M1 (muteV r n id (a + 5) a).members.length m1, .slice M2 (muteV r n id (a + 5) a).invites.length m2, .slice M3 (muteV r n id (a + 5) a).bans.length m3] FM :: blk w1.heap.size #[.bool r.open_, .slice A1 r.members.length c1, .slice A2 r.invites.length c2, .slice A3 r.bans.length c3] 28 :: [ownD roomD r [.bool r.open_, .slice A1 r.members.length c1, .slice A2 r.invites.length c2, .slice A3 r.bans.length c3] F])))
        case first =>
          cases h3 : muteOk r n id (a + 5) a with
          | false =>
            go_wp2_with fail
            go_meet
            case rel => exact ⟨by rw [h3], rfl, HX⟩
          | true =>
            obtain ⟨q1, q2⟩ := muted_parts HD.out.v h3
            have Q := hide (And.intro q1 q2)
            clear q1 q2
            go_wp2_with fail
            refine (isAllowed_c (muteV r n id (a + 5) a) _ _ _ id 1 (a + 4) _ (room_MK HX.out.drop.drop.drop.drop.drop.head).1 (room_MK HX.out.drop.drop.drop.drop.drop.head).2.1 (room_MK HX.out.drop.drop.drop.drop.drop.head).2.2).mono ?_
            rintro e wC ⟨rfl, hb⟩
            rw [Q.out.2 (a + 4) (by omega)]
            have HSC := hide (HX.out.by hb)
            clear hb
            (try clear y0 y1 y2 y3 yz)
            obtain ⟨y0, y1, y2, y3⟩ := (HSC.out.drop.at3).c4
            have yz := (HSC.out.drop.at3).lt
            go_wp2_with fail
            refine (validRoom_c (muteV r n id (a + 5) a) _ _ _ _ (room_MK HSC.out.drop.drop.drop.drop.drop.head).1 (room_MK HSC.out.drop.drop.drop.drop.drop.head).2.1 (room_MK HSC.out.drop.drop.drop.drop.drop.head).2.2).mono ?_
            rintro e wD ⟨rfl, hb⟩
            rw [Q.out.1]
            have HSD := hide (HSC.out.by hb)
            clear hb
            go_wp2_with fail
            go_meet
            case rel => exact ⟨by rw [h3], rfl, HSD⟩
        case rest =>
          obtain ⟨rfl, rfl, HY⟩ := hcut
          clear HX
          (try clear y0 y1 y2 y3 yz)
          obtain ⟨y0, y1, y2, y3⟩ := (HY.out.at2).c4
          have yz := (HY.out.at2).lt
          go_wp2_with fail
          refine (roleOf_c (giveV r n id u a) id _ _ _ _ (room_MK HY.out.drop.drop.drop.head).1 (room_MK HY.out.drop.drop.drop.head).2.1 (room_MK HY.out.drop.drop.drop.head).2.2).mono ?_
          rintro e wC ⟨rfl, hb⟩
          have HSC := hide (HY.out.by hb)
          clear hb HY
          go_upto_region 22 with fail
          (try clear y0 y1 y2 y3 yz)
          obtain ⟨y0, y1, y2, y3⟩ := (HSC.out.at2).c4
          have yz := (HSC.out.at2).lt
          go_cut [20, 23, 24, 190] from 170 to 190 (fun s20 s23 s24 s190 w' => s20 = .bool (giveOk r n id u a) ∧ s190 = .bool false ∧ Hid (St w w' (blk wA.heap.size #[.bool (banishV r n id (a + 5) a).open_, .slice B1 (banishV r n id (a + 5) a).members.length b1, .slice B2 (banishV r n id (a + 5) a).invites.length b2, .slice B3 (banishV r n id (a + 5) a).bans.length b3] 28 :: ownD roomD (banishV r n id (a + 5) a) [.bool (banishV r n id (a + 5) a).open_, .slice B1 (banishV r n id (a + 5) a).members.length b1, .slice B2 (banishV r n id (a + 5) a).invites.length b2, .slice B3 (banishV r n id (a + 5) a).bans.length b3] FB :: blk w8.heap.size #[.bool (giveV r n id u a).open_, .slice G1 (giveV r n id u a).members.length g1, .slice G2 (giveV r n id u a).invites.length g2, .slice G3 (giveV r n id u a).bans.length g3] 28 :: ownD roomD (giveV r n id u a) [.bool (giveV r n id u a).open_, .slice G1 (giveV r n id u a).members.length g1, .slice G2 (giveV r n id u a).invites.length g2, .slice G3 (giveV r n id u a).bans.length g3] FG :: blk w6.heap.size #[.bool (muteV r n id (a + 5) a).open_, .slice M1 (muteV r n id (a + 5) a).members.length m1, .slice M2 (muteV r n id (a + 5) a).invites.length m2, .slice M3 (muteV r n id (a + 5) a).bans.length m3] 28 :: ownD roomD (muteV r n id (a + 5) a) [.bool (muteV r n id (a + 5) a).open_, .slice M1 (muteV r n id (a + 5) a).members.length m1, .slice M2 (muteV r n id (a + 5) a).invites.length m2, .slice M3 (muteV r n id (a + 5) a).bans.length m3] FM :: blk w1.heap.size #[.bool r.open_, .slice A1 r.members.length c1, .slice A2 r.invites.length c2, .slice A3 r.bans.length c3] 28 :: [ownD roomD r [.bool r.open_, .slice A1 r.members.length c1, .slice A2 r.invites.length c2, .slice A3 r.bans.length c3] F])))
          case first =>
            cases h4 : giveOk r n id u a with
            | false =>
              go_wp2_with fail
              go_meet
              case rel => exact ⟨by rw [h4], rfl, HSC⟩
            | true =>
              obtain ⟨q1, q2, q3⟩ := given_parts HD.out.v h4
              have Q := hide q1
              clear q1
              go_wp2_with fail
              refine (validRoom_c (giveV r n id u a) _ _ _ _ (room_MK HSC.out.drop.drop.drop.head).1 (room_MK HSC.out.drop.drop.drop.head).2.1 (room_MK HSC.out.drop.drop.drop.head).2.2).mono ?_
              rintro e wD ⟨rfl, hb⟩
              rw [Q.out]
              have HSD := hide (HSC.out.by hb)
              clear hb
              go_wp2_with fail
              go_meet
              case rel => exact ⟨by rw [h4], rfl, HSD⟩
          case rest =>
            obtain ⟨rfl, rfl, HZ⟩ := hcut
            clear HSC
            cases h5 : banishOk r n id (a + 5) a with
            | false =>
              clear h5
              go_wp2_with fail
              go_ret
              exact ⟨rfl, HZ.out.below⟩
            | true =>
              have Q := hide (banned_parts HD.out.v (by have := HD.out.len; omega) (by have := HD.out.len; omega) i0 (by omega) (inB_of (by omega) (by omega)) (by omega) a0 (by omega) h5)
              clear h5
              (try clear y0 y1 y2 y3 yz)
              obtain ⟨y0, y1, y2, y3⟩ := (HZ.out.at0).c4
              have yz := (HZ.out.at0).lt
              (try clear x0 x1 x2 x3 xz)
              obtain ⟨x0, x1, x2, x3⟩ := (HZ.out.drop.drop.drop.at3).c4
              have xz := (HZ.out.drop.drop.drop.at3).lt
              go_wp2_with fail
              refine (joinRoom_c (banishV r n id (a + 5) a) id (a + 9) _ _ _ _ (room_MK HZ.out.drop.head).1 (room_MK HZ.out.drop.head).2.1 (room_MK HZ.out.drop.head).2.2).mono ?_
              rintro e wD hr
              obtain ⟨cs, FJ, rfl, hK, hb, hS⟩ := HZ.out.elem2 hr
              obtain ⟨u1, u2, u3, rfl, h1, h2, h3⟩ := room_K hK
              obtain ⟨J1, j1, rfl⟩ := h1.shape
              obtain ⟨J2, j2, rfl⟩ := h2.shape
              obtain ⟨J3, j3, rfl⟩ := h3.shape
              have HSD := hide hS
              clear hr hK hb hS h1 h2 h3
              rw [Q.out.2.1 (a + 9)]
              (try clear y0 y1 y2 y3 yz)
              obtain ⟨y0, y1, y2, y3⟩ := (HSD.out.at1).c4
              have yz := (HSD.out.at1).lt
              (try clear x0 x1 x2 x3 xz)
              obtain ⟨x0, x1, x2, x3⟩ := (HSD.out.drop.drop.drop.drop.at3).c4
              have xz := (HSD.out.drop.drop.drop.drop.at3).lt
              go_wp2_with fail
              obtain ⟨WE, hW⟩ : ∃ V, V = wD.alloc (.cells #[.bool (joinV (banishV r n id (a + 5) a) id (a + 9)).open_, .slice J1 (joinV (banishV r n id (a + 5) a) id (a + 9)).members.length j1, .slice J2 (joinV (banishV r n id (a + 5) a) id (a + 9)).invites.length j2, .slice J3 (joinV (banishV r n id (a + 5) a) id (a + 9)).bans.length j3] 28) := ⟨_, rfl⟩
              rw [← hW]
              have HSE := hide (St.drop (St.drop (show St w WE (blk wD.heap.size #[.bool (joinV (banishV r n id (a + 5) a) id (a + 9)).open_, .slice J1 (joinV (banishV r n id (a + 5) a) id (a + 9)).members.length j1, .slice J2 (joinV (banishV r n id (a + 5) a) id (a + 9)).invites.length j2, .slice J3 (joinV (banishV r n id (a + 5) a) id (a + 9)).bans.length j3] 28 :: ownD roomD (joinV (banishV r n id (a + 5) a) id (a + 9)) [.bool (joinV (banishV r n id (a + 5) a) id (a + 9)).open_, .slice J1 (joinV (banishV r n id (a + 5) a) id (a + 9)).members.length j1, .slice J2 (joinV (banishV r n id (a + 5) a) id (a + 9)).invites.length j2, .slice J3 (joinV (banishV r n id (a + 5) a) id (a + 9)).bans.length j3] FJ :: blk wA.heap.size #[.bool (banishV r n id (a + 5) a).open_, .slice B1 (banishV r n id (a + 5) a).members.length b1, .slice B2 (banishV r n id (a + 5) a).invites.length b2, .slice B3 (banishV r n id (a + 5) a).bans.length b3] 28 :: ownD roomD (banishV r n id (a + 5) a) [.bool (banishV r n id (a + 5) a).open_, .slice B1 (banishV r n id (a + 5) a).members.length b1, .slice B2 (banishV r n id (a + 5) a).invites.length b2, .slice B3 (banishV r n id (a + 5) a).bans.length b3] FB :: blk w8.heap.size #[.bool (giveV r n id u a).open_, .slice G1 (giveV r n id u a).members.length g1, .slice G2 (giveV r n id u a).invites.length g2, .slice G3 (giveV r n id u a).bans.length g3] 28 :: ownD roomD (giveV r n id u a) [.bool (giveV r n id u a).open_, .slice G1 (giveV r n id u a).members.length g1, .slice G2 (giveV r n id u a).invites.length g2, .slice G3 (giveV r n id u a).bans.length g3] FG :: blk w6.heap.size #[.bool (muteV r n id (a + 5) a).open_, .slice M1 (muteV r n id (a + 5) a).members.length m1, .slice M2 (muteV r n id (a + 5) a).invites.length m2, .slice M3 (muteV r n id (a + 5) a).bans.length m3] 28 :: ownD roomD (muteV r n id (a + 5) a) [.bool (muteV r n id (a + 5) a).open_, .slice M1 (muteV r n id (a + 5) a).members.length m1, .slice M2 (muteV r n id (a + 5) a).invites.length m2, .slice M3 (muteV r n id (a + 5) a).bans.length m3] FM :: blk w1.heap.size #[.bool r.open_, .slice A1 r.members.length c1, .slice A2 r.invites.length c2, .slice A3 r.bans.length c3] 28 :: [ownD roomD r [.bool r.open_, .slice A1 r.members.length c1, .slice A2 r.invites.length c2, .slice A3 r.bans.length c3] F]) by rw [hW]; (repeat (first | (with_reducible exact HSD.out) | (with_reducible apply St.alloc) | (with_reducible apply St.set0) | (with_reducible apply St.set1) | (with_reducible apply St.set2) | (with_reducible apply St.set3) | (with_reducible apply St.drew) | (with_reducible apply St.drewN))); all_goals (try (first | rfl | (simp; done))))))
              clear hW
              refine (roleOf_c (banishV r n id (a + 5) a) id _ _ _ _ (room_MK HSE.out.drop.head).1 (room_MK HSE.out.drop.head).2.1 (room_MK HSE.out.drop.head).2.2).mono ?_
              rintro e wF ⟨rfl, hb⟩
              rw [Q.out.2.2.1]
              have HSF := hide (HSE.out.by hb)
              clear hb
              (try clear y0 y1 y2 y3 yz)
              obtain ⟨y0, y1, y2, y3⟩ := (HSF.out.at0).c4
              have yz := (HSF.out.at0).lt
              (try clear x0 x1 x2 x3 xz)
              obtain ⟨x0, x1, x2, x3⟩ := (HSF.out.drop.drop.drop.at3).c4
              have xz := (HSF.out.drop.drop.drop.at3).lt
              go_wp2_with fail
              refine (liftBan_c (banishV r n id (a + 5) a) n id a _ _ _ _ (room_MK HSF.out.drop.head).1 (room_MK HSF.out.drop.head).2.1 (room_MK HSF.out.drop.head).2.2).mono ?_
              rintro e wG hr
              obtain ⟨cs, FK, rfl, hK, hb, hS⟩ := HSF.out.elem2 hr
              obtain ⟨u1, u2, u3, rfl, h1, h2, h3⟩ := room_K hK
              obtain ⟨K1, k1, rfl⟩ := h1.shape
              obtain ⟨K2, k2, rfl⟩ := h2.shape
              obtain ⟨K3, k3, rfl⟩ := h3.shape
              have HSG := hide hS
              clear hr hK hb hS h1 h2 h3
              rw [Q.out.2.2.2.1]
              (try clear y0 y1 y2 y3 yz)
              obtain ⟨y0, y1, y2, y3⟩ := (HSG.out.at1).c4
              have yz := (HSG.out.at1).lt
              (try clear x0 x1 x2 x3 xz)
              obtain ⟨x0, x1, x2, x3⟩ := (HSG.out.drop.drop.drop.drop.at3).c4
              have xz := (HSG.out.drop.drop.drop.drop.at3).lt
              go_wp2_with fail
              obtain ⟨WH, hW⟩ : ∃ V, V = wG.alloc (.cells #[.bool (liftV (banishV r n id (a + 5) a) n id a).open_, .slice K1 (liftV (banishV r n id (a + 5) a) n id a).members.length k1, .slice K2 (liftV (banishV r n id (a + 5) a) n id a).invites.length k2, .slice K3 (liftV (banishV r n id (a + 5) a) n id a).bans.length k3] 28) := ⟨_, rfl⟩
              rw [← hW]
              have HSH := hide (show St w WH (blk wG.heap.size #[.bool (liftV (banishV r n id (a + 5) a) n id a).open_, .slice K1 (liftV (banishV r n id (a + 5) a) n id a).members.length k1, .slice K2 (liftV (banishV r n id (a + 5) a) n id a).invites.length k2, .slice K3 (liftV (banishV r n id (a + 5) a) n id a).bans.length k3] 28 :: ownD roomD (liftV (banishV r n id (a + 5) a) n id a) [.bool (liftV (banishV r n id (a + 5) a) n id a).open_, .slice K1 (liftV (banishV r n id (a + 5) a) n id a).members.length k1, .slice K2 (liftV (banishV r n id (a + 5) a) n id a).invites.length k2, .slice K3 (liftV (banishV r n id (a + 5) a) n id a).bans.length k3] FK :: blk wA.heap.size #[.bool (banishV r n id (a + 5) a).open_, .slice B1 (banishV r n id (a + 5) a).members.length b1, .slice B2 (banishV r n id (a + 5) a).invites.length b2, .slice B3 (banishV r n id (a + 5) a).bans.length b3] 28 :: ownD roomD (banishV r n id (a + 5) a) [.bool (banishV r n id (a + 5) a).open_, .slice B1 (banishV r n id (a + 5) a).members.length b1, .slice B2 (banishV r n id (a + 5) a).invites.length b2, .slice B3 (banishV r n id (a + 5) a).bans.length b3] FB :: blk w8.heap.size #[.bool (giveV r n id u a).open_, .slice G1 (giveV r n id u a).members.length g1, .slice G2 (giveV r n id u a).invites.length g2, .slice G3 (giveV r n id u a).bans.length g3] 28 :: ownD roomD (giveV r n id u a) [.bool (giveV r n id u a).open_, .slice G1 (giveV r n id u a).members.length g1, .slice G2 (giveV r n id u a).invites.length g2, .slice G3 (giveV r n id u a).bans.length g3] FG :: blk w6.heap.size #[.bool (muteV r n id (a + 5) a).open_, .slice M1 (muteV r n id (a + 5) a).members.length m1, .slice M2 (muteV r n id (a + 5) a).invites.length m2, .slice M3 (muteV r n id (a + 5) a).bans.length m3] 28 :: ownD roomD (muteV r n id (a + 5) a) [.bool (muteV r n id (a + 5) a).open_, .slice M1 (muteV r n id (a + 5) a).members.length m1, .slice M2 (muteV r n id (a + 5) a).invites.length m2, .slice M3 (muteV r n id (a + 5) a).bans.length m3] FM :: blk w1.heap.size #[.bool r.open_, .slice A1 r.members.length c1, .slice A2 r.invites.length c2, .slice A3 r.bans.length c3] 28 :: [ownD roomD r [.bool r.open_, .slice A1 r.members.length c1, .slice A2 r.invites.length c2, .slice A3 r.bans.length c3] F]) by rw [hW]; (repeat (first | (with_reducible exact HSG.out) | (with_reducible apply St.alloc) | (with_reducible apply St.set0) | (with_reducible apply St.set1) | (with_reducible apply St.set2) | (with_reducible apply St.set3) | (with_reducible apply St.drew) | (with_reducible apply St.drewN))); all_goals (try (first | rfl | (simp; done))))
              clear hW
              refine (joinRoom_c (liftV (banishV r n id (a + 5) a) n id a) id a _ _ _ _ (room_MK HSH.out.drop.head).1 (room_MK HSH.out.drop.head).2.1 (room_MK HSH.out.drop.head).2.2).mono ?_
              rintro e wI hr
              obtain ⟨cs, FN, rfl, hK, hb, hS⟩ := HSH.out.elem2 hr
              obtain ⟨u1, u2, u3, rfl, h1, h2, h3⟩ := room_K hK
              obtain ⟨N1, t1, rfl⟩ := h1.shape
              obtain ⟨N2, t2, rfl⟩ := h2.shape
              obtain ⟨N3, t3, rfl⟩ := h3.shape
              have HSI := hide hS
              clear hr hK hb hS h1 h2 h3
              rw [Q.out.2.2.2.2.1]
              (try clear y0 y1 y2 y3 yz)
              obtain ⟨y0, y1, y2, y3⟩ := (HSI.out.at3).c4
              have yz := (HSI.out.at3).lt
              (try clear x0 x1 x2 x3 xz)
              obtain ⟨x0, x1, x2, x3⟩ := (HSI.out.drop.drop.drop.drop.drop.drop.at3).c4
              have xz := (HSI.out.drop.drop.drop.drop.drop.drop.at3).lt
              go_wp2_with fail
              obtain ⟨WJ, hW⟩ : ∃ V, V = wI.alloc (.cells #[.bool (joinV (liftV (banishV r n id (a + 5) a) n id a) id a).open_, .slice N1 (joinV (liftV (banishV r n id (a + 5) a) n id a) id a).members.length t1, .slice N2 (joinV (liftV (banishV r n id (a + 5) a) n id a) id a).invites.length t2, .slice N3 (joinV (liftV (banishV r n id (a + 5) a) n id a) id a).bans.length t3] 28) := ⟨_, rfl⟩
              rw [← hW]
              have HSJ := hide (St.drop (St.drop (show St w WJ (blk wI.heap.size #[.bool (joinV (liftV (banishV r n id (a + 5) a) n id a) id a).open_, .slice N1 (joinV (liftV (banishV r n id (a + 5) a) n id a) id a).members.length t1, .slice N2 (joinV (liftV (banishV r n id (a + 5) a) n id a) id a).invites.length t2, .slice N3 (joinV (liftV (banishV r n id (a + 5) a) n id a) id a).bans.length t3] 28 :: ownD roomD (joinV (liftV (banishV r n id (a + 5) a) n id a) id a) [.bool (joinV (liftV (banishV r n id (a + 5) a) n id a) id a).open_, .slice N1 (joinV (liftV (banishV r n id (a + 5) a) n id a) id a).members.length t1, .slice N2 (joinV (liftV (banishV r n id (a + 5) a) n id a) id a).invites.length t2, .slice N3 (joinV (liftV (banishV r n id (a + 5) a) n id a) id a).bans.length t3] FN :: blk wG.heap.size #[.bool (liftV (banishV r n id (a + 5) a) n id a).open_, .slice K1 (liftV (banishV r n id (a + 5) a) n id a).members.length k1, .slice K2 (liftV (banishV r n id (a + 5) a) n id a).invites.length k2, .slice K3 (liftV (banishV r n id (a + 5) a) n id a).bans.length k3] 28 :: ownD roomD (liftV (banishV r n id (a + 5) a) n id a) [.bool (liftV (banishV r n id (a + 5) a) n id a).open_, .slice K1 (liftV (banishV r n id (a + 5) a) n id a).members.length k1, .slice K2 (liftV (banishV r n id (a + 5) a) n id a).invites.length k2, .slice K3 (liftV (banishV r n id (a + 5) a) n id a).bans.length k3] FK :: blk wA.heap.size #[.bool (banishV r n id (a + 5) a).open_, .slice B1 (banishV r n id (a + 5) a).members.length b1, .slice B2 (banishV r n id (a + 5) a).invites.length b2, .slice B3 (banishV r n id (a + 5) a).bans.length b3] 28 :: ownD roomD (banishV r n id (a + 5) a) [.bool (banishV r n id (a + 5) a).open_, .slice B1 (banishV r n id (a + 5) a).members.length b1, .slice B2 (banishV r n id (a + 5) a).invites.length b2, .slice B3 (banishV r n id (a + 5) a).bans.length b3] FB :: blk w8.heap.size #[.bool (giveV r n id u a).open_, .slice G1 (giveV r n id u a).members.length g1, .slice G2 (giveV r n id u a).invites.length g2, .slice G3 (giveV r n id u a).bans.length g3] 28 :: ownD roomD (giveV r n id u a) [.bool (giveV r n id u a).open_, .slice G1 (giveV r n id u a).members.length g1, .slice G2 (giveV r n id u a).invites.length g2, .slice G3 (giveV r n id u a).bans.length g3] FG :: blk w6.heap.size #[.bool (muteV r n id (a + 5) a).open_, .slice M1 (muteV r n id (a + 5) a).members.length m1, .slice M2 (muteV r n id (a + 5) a).invites.length m2, .slice M3 (muteV r n id (a + 5) a).bans.length m3] 28 :: ownD roomD (muteV r n id (a + 5) a) [.bool (muteV r n id (a + 5) a).open_, .slice M1 (muteV r n id (a + 5) a).members.length m1, .slice M2 (muteV r n id (a + 5) a).invites.length m2, .slice M3 (muteV r n id (a + 5) a).bans.length m3] FM :: blk w1.heap.size #[.bool r.open_, .slice A1 r.members.length c1, .slice A2 r.invites.length c2, .slice A3 r.bans.length c3] 28 :: [ownD roomD r [.bool r.open_, .slice A1 r.members.length c1, .slice A2 r.invites.length c2, .slice A3 r.bans.length c3] F]) by rw [hW]; (repeat (first | (with_reducible exact HSI.out) | (with_reducible apply St.alloc) | (with_reducible apply St.set0) | (with_reducible apply St.set1) | (with_reducible apply St.set2) | (with_reducible apply St.set3) | (with_reducible apply St.drew) | (with_reducible apply St.drewN))); all_goals (try (first | rfl | (simp; done))))))
              clear hW
              refine (inviteTo_c (banishV r n id (a + 5) a) n id a a _ _ _ _ (room_MK HSJ.out.drop.drop.drop.head).1 (room_MK HSJ.out.drop.drop.drop.head).2.1 (room_MK HSJ.out.drop.drop.drop.head).2.2).mono ?_
              rintro e wK hr
              obtain ⟨cs, FP, rfl, hK, hb, hS⟩ := HSJ.out.elem2 hr
              obtain ⟨u1, u2, u3, rfl, h1, h2, h3⟩ := room_K hK
              obtain ⟨P1, s1, rfl⟩ := h1.shape
              obtain ⟨P2, s2, rfl⟩ := h2.shape
              obtain ⟨P3, s3, rfl⟩ := h3.shape
              have HSK := hide hS
              clear hr hK hb hS h1 h2 h3
              rw [Q.out.2.2.2.2.2 a a]
              (try clear y0 y1 y2 y3 yz)
              obtain ⟨y0, y1, y2, y3⟩ := (HSK.out.at3).c4
              have yz := (HSK.out.at3).lt
              (try clear x0 x1 x2 x3 xz)
              obtain ⟨x0, x1, x2, x3⟩ := (HSK.out.drop.drop.drop.drop.drop.drop.at3).c4
              have xz := (HSK.out.drop.drop.drop.drop.drop.drop.at3).lt
              go_wp2_with fail
              obtain ⟨WL, hW⟩ : ∃ V, V = wK.alloc (.cells #[.bool (inviteV (banishV r n id (a + 5) a) n id a a).open_, .slice P1 (inviteV (banishV r n id (a + 5) a) n id a a).members.length s1, .slice P2 (inviteV (banishV r n id (a + 5) a) n id a a).invites.length s2, .slice P3 (inviteV (banishV r n id (a + 5) a) n id a a).bans.length s3] 28) := ⟨_, rfl⟩
              rw [← hW]
              have HSL := hide (St.drop (St.drop (show St w WL (blk wK.heap.size #[.bool (inviteV (banishV r n id (a + 5) a) n id a a).open_, .slice P1 (inviteV (banishV r n id (a + 5) a) n id a a).members.length s1, .slice P2 (inviteV (banishV r n id (a + 5) a) n id a a).invites.length s2, .slice P3 (inviteV (banishV r n id (a + 5) a) n id a a).bans.length s3] 28 :: ownD roomD (inviteV (banishV r n id (a + 5) a) n id a a) [.bool (inviteV (banishV r n id (a + 5) a) n id a a).open_, .slice P1 (inviteV (banishV r n id (a + 5) a) n id a a).members.length s1, .slice P2 (inviteV (banishV r n id (a + 5) a) n id a a).invites.length s2, .slice P3 (inviteV (banishV r n id (a + 5) a) n id a a).bans.length s3] FP :: blk wG.heap.size #[.bool (liftV (banishV r n id (a + 5) a) n id a).open_, .slice K1 (liftV (banishV r n id (a + 5) a) n id a).members.length k1, .slice K2 (liftV (banishV r n id (a + 5) a) n id a).invites.length k2, .slice K3 (liftV (banishV r n id (a + 5) a) n id a).bans.length k3] 28 :: ownD roomD (liftV (banishV r n id (a + 5) a) n id a) [.bool (liftV (banishV r n id (a + 5) a) n id a).open_, .slice K1 (liftV (banishV r n id (a + 5) a) n id a).members.length k1, .slice K2 (liftV (banishV r n id (a + 5) a) n id a).invites.length k2, .slice K3 (liftV (banishV r n id (a + 5) a) n id a).bans.length k3] FK :: blk wA.heap.size #[.bool (banishV r n id (a + 5) a).open_, .slice B1 (banishV r n id (a + 5) a).members.length b1, .slice B2 (banishV r n id (a + 5) a).invites.length b2, .slice B3 (banishV r n id (a + 5) a).bans.length b3] 28 :: ownD roomD (banishV r n id (a + 5) a) [.bool (banishV r n id (a + 5) a).open_, .slice B1 (banishV r n id (a + 5) a).members.length b1, .slice B2 (banishV r n id (a + 5) a).invites.length b2, .slice B3 (banishV r n id (a + 5) a).bans.length b3] FB :: blk w8.heap.size #[.bool (giveV r n id u a).open_, .slice G1 (giveV r n id u a).members.length g1, .slice G2 (giveV r n id u a).invites.length g2, .slice G3 (giveV r n id u a).bans.length g3] 28 :: ownD roomD (giveV r n id u a) [.bool (giveV r n id u a).open_, .slice G1 (giveV r n id u a).members.length g1, .slice G2 (giveV r n id u a).invites.length g2, .slice G3 (giveV r n id u a).bans.length g3] FG :: blk w6.heap.size #[.bool (muteV r n id (a + 5) a).open_, .slice M1 (muteV r n id (a + 5) a).members.length m1, .slice M2 (muteV r n id (a + 5) a).invites.length m2, .slice M3 (muteV r n id (a + 5) a).bans.length m3] 28 :: ownD roomD (muteV r n id (a + 5) a) [.bool (muteV r n id (a + 5) a).open_, .slice M1 (muteV r n id (a + 5) a).members.length m1, .slice M2 (muteV r n id (a + 5) a).invites.length m2, .slice M3 (muteV r n id (a + 5) a).bans.length m3] FM :: blk w1.heap.size #[.bool r.open_, .slice A1 r.members.length c1, .slice A2 r.invites.length c2, .slice A3 r.bans.length c3] 28 :: [ownD roomD r [.bool r.open_, .slice A1 r.members.length c1, .slice A2 r.invites.length c2, .slice A3 r.bans.length c3] F]) by rw [hW]; (repeat (first | (with_reducible exact HSK.out) | (with_reducible apply St.alloc) | (with_reducible apply St.set0) | (with_reducible apply St.set1) | (with_reducible apply St.set2) | (with_reducible apply St.set3) | (with_reducible apply St.drew) | (with_reducible apply St.drewN))); all_goals (try (first | rfl | (simp; done))))))
              clear hW
              refine (validRoom_c (banishV r n id (a + 5) a) _ _ _ _ (room_MK HSL.out.drop.drop.drop.head).1 (room_MK HSL.out.drop.drop.drop.head).2.1 (room_MK HSL.out.drop.drop.drop.head).2.2).mono ?_
              rintro e wM ⟨rfl, hb⟩
              rw [Q.out.1]
              have HSM := hide (HSL.out.by hb)
              clear hb
              (try clear x0 x1 x2 x3 xz)
              obtain ⟨x0, x1, x2, x3⟩ := (HSM.out.drop.drop.drop.drop.drop.at3).c4
              have xz := (HSM.out.drop.drop.drop.drop.drop.at3).lt
              go_wp2_with fail
              go_ret
              exact ⟨rfl, HSM.out.below⟩
end Go.Proofs.YtglhepbcbildpaaGreat
