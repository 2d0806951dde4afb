/- Somebody joins: the program. -/
import Derived.Test.YtglhepbcbildpaaGreatJoin
import Derived.Deep.RegionLaw
import Derived.Deep.DrawnRows
namespace Go.Proofs.YtglhepbcbildpaaGreat
open Go Go.RowKit Go.BigFrame
set_option linter.unusedVariables false
set_option linter.unusedSimpArgs false
attribute [local go_sem ↓] Go.wp_at_zero Go.wp_at_succ
set_option maxHeartbeats 2000000 in
theorem joined1_c (m : Invite) (b1 b2 : Nat) (id a : Int) (W : World) (h1 : W.cell? ⟨b1, 0, none⟩ = some (.int .i64 id)) (h2 : W.cell? ⟨b2, 0, none⟩ = some (.int .i64 a)) :
    Calls Tryz.prog 25 (#[.agg #[.int .i64 m.id, .int .i64 m.by_, .int .i64 m.until_]] ++ #[.pointer (some ⟨b1, 0, none⟩), .pointer (some ⟨b2, 0, none⟩)]) W fun e W' => e = .returned (.bool (decide (m.id = id) && decide (a ≤ m.until_))) ∧ Below W.heap.size W W' := by
  show Calls Tryz.prog 25 #[.agg #[.int .i64 m.id, .int .i64 m.by_, .int .i64 m.until_], .pointer (some ⟨b1, 0, none⟩), .pointer (some ⟨b2, 0, none⟩)] W _
  have hlt : b1 < W.heap.size := World.block_lt_of_cell? W _ h1
  have hltb : b2 < W.heap.size := World.block_lt_of_cell? W _ h2
  have hlt2 : b1 < W.heap.size + 1 := by omega
  have hlt3 : b2 < W.heap.size + 1 := by omega
  have hne : ¬ b1 = W.heap.size := by omega
  have hne2 : ¬ b2 = W.heap.size := by omega
  have HB := hide ((Below.refl W.heap.size W).alloc (Nat.le_refl _) (.cells #[.int .i64 m.id, .int .i64 m.by_, .int .i64 m.until_] 36))
  by_cases hi : m.id = id
  · have hi2 : (m.id == id) = true := by simp [hi]
    have HI := hide hi
    clear hi
    go_enter Tryz.func25, Tryz.ntmps25
    go_wp2_with fail
    all_goals try go_quiet (fail)
    all_goals go_wp2
    all_goals go_ret
    all_goals exact ⟨by simp [HI.out], by first | exact HB.out | exact below_drewN HB.out _ | exact HB.out.drew⟩
  · have hi2 : (m.id == id) = false := by simp [hi]
    have HI := hide hi
    clear hi
    go_enter Tryz.func25, Tryz.ntmps25
    go_wp2_with fail
    all_goals try go_quiet (fail)
    all_goals go_wp2
    all_goals go_ret
    all_goals exact ⟨by simp [HI.out], by first | exact HB.out | exact below_drewN HB.out _ | exact HB.out.drew⟩
set_option maxHeartbeats 16000000 in
set_option maxRecDepth 100000 in
theorem joinRoom1_c (id a : Int) (w : World) {b1 b2 : Nat} (h1 : w.cell? ⟨b1, 0, none⟩ = some (.int .i64 id)) (h2 : w.cell? ⟨b2, 0, none⟩ = some (.int .i64 a)) :
    TurnsS Tryz.prog roomD 28 23 #[.pointer (some ⟨b1, 0, none⟩), .pointer (some ⟨b2, 0, none⟩)] (fun r => validRoomB r = true) (joinF id a) w := by
  intro x b F W L hS hv
  show Calls Tryz.prog 23 #[.pointer (some ⟨b, 0, none⟩), .pointer (some ⟨b1, 0, none⟩), .pointer (some ⟨b2, 0, none⟩)] W _
  have k1 := cell_below hS.below h1
  have kz1 := World.block_lt_of_cell? w _ h1
  have k2 := cell_below hS.below h2
  have kz2 := World.block_lt_of_cell? w _ h2
  have hge := hS.headG b hS.head.mem
  have HE := hide (show w.cell? ⟨b1, 0, none⟩ = some (.int .i64 id) ∧ w.cell? ⟨b2, 0, none⟩ = some (.int .i64 a) from ⟨h1, h2⟩)
  have HS := hide hS
  have HV := hide hv
  have HFE := hide (fewR_of hv)
  have HFW := hide (few_without hv id)
  have eg1 := enters_of Tryz.func25 (by kernel_rfl) rfl
  obtain ⟨p1, p2, p3, r1, r2, r3, bz0, b0_0, b0_1, b0_2, b0_3⟩ := room_at hS.boxRow (Below.refl _ _) (j := 0) rfl
  simp only [Nat.zero_mul, Nat.add_zero, Nat.zero_add] at b0_0 b0_1 b0_2 b0_3
  obtain ⟨a2, t2, rfl⟩ := r2.shape
  have K2 := hide r2
  clear r1 r2 r3
  clear hS hv h1 h2
  by_cases c0 : hasId x id = false
  · have HH := hide c0
    clear c0
    by_cases c1 : bannB x id = false
    · have HBN := hide c1
      clear c1
      by_cases ho : x.open_ = true
      · have HOP := hide (show (x.open_ || invitedB x id a) = true by simp [ho])
        have HOK := hide (show (joinF id a x).2 = true by simp [joinF, HH.out, HBN.out, HOP.out])
        go_enter Tryz.func23, Tryz.ntmps23
        go_wp2_with (first
          | (go_at_call 24
             refine (containsInvite_c _ _ (fun v : Invite => decide (v.id = id) && decide (a ≤ v.until_)) x.invites _ _ K2.out eg1 (fun m W' hb' => joined1_c m _ _ id a W' (cell_below hb' k1) (cell_below hb' k2))).mono ?_
             rintro e w1 ⟨rfl, hb⟩
             rw [show decide (0 ≤ idxP (fun v : Invite => decide (v.id = id) && decide (a ≤ v.until_)) x.invites) = invitedB x id a from rfl]
             have HS1 := hide (HS.out.by hb)
             have j1 := cell_below hb k1
             have j2 := cell_below hb k2
             clear hb)
          | (go_at_call 26
             refine (roomHas_c x b 0 id _ HS1.out.boxRow).mono ?_
             rintro e w2 ⟨rfl, hb⟩
             rw [HH.out]
             have HS2 := hide (HS1.out.by hb)
             have i1 := cell_below hb j1
             have i2 := cell_below hb j2
             clear hb)
          | (go_at_call 27
             refine (roomBan_c x b 0 id _ HS2.out.boxRow).mono ?_
             rintro e w3 ⟨rfl, hb⟩
             rw [show decide (0 ≤ idxP (banIs id) x.bans) = _ from HBN.out]
             have HS3 := hide (HS2.out.by hb)
             have g1 := cell_below hb i1
             have g2 := cell_below hb i2
             obtain ⟨q1, q2, q3, m1, m2, m3, bz3, b3_0, b3_1, b3_2, b3_3⟩ := room_at HS3.out.boxRow (Below.refl _ _) (j := 0) rfl
             simp only [Nat.zero_mul, Nat.add_zero] at b3_0
             clear b3_1 b3_2 b3_3
             clear hb m1 m2 m3)
          | (go_at_call 28
             refine (without_c x id b F w _ L HS3.out HFE.out).mono ?_
             rintro e w8 ⟨rfl, F8, hS⟩
             obtain ⟨A1, c1, A2, c2, A3, c3, G1, G2, G3, hO⟩ := hS.roomOpen
             have HO := hide hO
             obtain ⟨x0, x1, x2, x3⟩ := hO.at0.c4
             have xf := hO.at0.frozen
             have xz := hO.at0.lt
             have n1 := cell_below HO.out.below HE.out.1
             have n2 := cell_below HO.out.below HE.out.2
             clear hS hO))
        have hne : ∀ q, q < w.heap.size → ¬ q = b ∧ ¬ b = q := fun q hq => by omega
        obtain ⟨ne1, nf1⟩ := hne b1 kz1
        obtain ⟨ne2, nf2⟩ := hne b2 kz2
        have hl1 : (withoutR x id).members.length ≤ 32 := by have := HFW.out; show (dropP _ _).length ≤ 32; omega
        go_region_law (
          refine step_app_st (d := memberD) (w0 := w) rfl rfl (.tmp 38) (.tmp 42) 24 rfl (.agg #[.int .i64 0, .int .i64 0, .int .i64 0, .int .i64 0]) 32 Tryz.underlying24 infoMember rfl (by omega) (by omega) (.slice A1 (withoutR x id).members.length c1) (withoutR x id).members G1 (by simp [Act.eval, Act.put]) w8.heap.size #[.int .i64 id, .int .i64 1, .int .i64 a, .int .i64 0] (by (repeat (first | (with_reducible exact HO.out.pull1) | (with_reducible apply St.alloc) | (with_reducible apply St.set0) | (with_reducible apply St.set1) | (with_reducible apply St.set2) | (with_reducible apply St.set3) | (with_reducible apply St.drew) | (with_reducible apply St.drewN))); all_goals (try (first | rfl | (simp; done)))) 1 (by simp [Act.eval, Act.put]) (newM id a) rfl (by omega) ?_
          intro g cap w9 F9 hS
          have HS9 := hide hS
          obtain ⟨z0, z1, z2, z3⟩ := hS.at1.c4
          have zf := hS.at1.frozen
          have zz := hS.at1.lt
          clear hS)
        all_goals
          go_wp2_with (
            go_at_call 29
            refine (roomSort_c { withoutR x id with members := (withoutR x id).members ++ [newM id a] } b _ w _ L (St.roomShut (x := { withoutR x id with members := (withoutR x id).members ++ [newM id a] }) (St.push1 (show St w _ (own memberD 55 (.slice (some ⟨g, 0, none⟩) ((withoutR x id).members.length + 1) cap) ((withoutR x id).members ++ [newM id a]) F9 :: _) from by (repeat (first | (with_reducible exact HS9.out) | (with_reducible apply St.alloc) | (with_reducible apply St.set0) | (with_reducible apply St.set1) | (with_reducible apply St.set2) | (with_reducible apply St.set3) | (with_reducible apply St.drew) | (with_reducible apply St.drewN))); all_goals (try (first | rfl | (simp; done)))))) ?hf1).mono ?_
            case hf1 =>
              have := HFW.out
              simp only [withoutR, List.length_append, List.length_cons, List.length_nil]
              omega
            rintro e wA ⟨rfl, s1, s2, s3, FA, p1, o1, p2, o2, p3, o3, hS⟩
            have HSA := hide hS
            have HPA := hide (And.intro p1 (And.intro o1 (And.intro p2 (And.intro o2 (And.intro p3 o3)))))
            clear hS p1 o1 p2 o2 p3 o3)
          go_ret
          obtain ⟨p1, o1, p2, o2, p3, o3⟩ := HPA.out
          have hV := valid_iff.1 HV.out
          have e1 : s1 = insK Member.id (newM id a) x.members := ins_uniq (key := Member.id) (m := newM id a) hV.mp (fun y hy => mem_ne HH.out y hy) (by have h := p1; rwa [show (withoutR x id).members = x.members from members_of HH.out] at h) o1
          have e2 : s2 = dropP (invIs id) x.invites := sort_same (hV.ip.filter _) p2 o2
          have e3 : s3 = x.bans := sort_same hV.bp (by have h := p3; rwa [show (withoutR x id).bans = x.bans from bans_of HBN.out] at h) o3
          exact ⟨by rw [HOK.out]; rfl, _, HSA.out, fun _ => ⟨_, congrArg (fun y => boxP roomD 28 b y _) (show _ = (joinF id a x).1 by rw [e1, e2, e3]; rfl)⟩⟩
      · have ho1 : x.open_ = false := by simpa using ho
        clear ho
        by_cases hi : invitedB x id a = true
        · have HOP := hide (show (x.open_ || invitedB x id a) = true by simp [hi])
          have HOK := hide (show (joinF id a x).2 = true by simp [joinF, HH.out, HBN.out, HOP.out])
          go_enter Tryz.func23, Tryz.ntmps23
          go_wp2_with (first
            | (go_at_call 24
               refine (containsInvite_c _ _ (fun v : Invite => decide (v.id = id) && decide (a ≤ v.until_)) x.invites _ _ K2.out eg1 (fun m W' hb' => joined1_c m _ _ id a W' (cell_below hb' k1) (cell_below hb' k2))).mono ?_
               rintro e w1 ⟨rfl, hb⟩
               rw [show decide (0 ≤ idxP (fun v : Invite => decide (v.id = id) && decide (a ≤ v.until_)) x.invites) = invitedB x id a from rfl]
               have HS1 := hide (HS.out.by hb)
               have j1 := cell_below hb k1
               have j2 := cell_below hb k2
               clear hb)
            | (go_at_call 26
               refine (roomHas_c x b 0 id _ HS1.out.boxRow).mono ?_
               rintro e w2 ⟨rfl, hb⟩
               rw [HH.out]
               have HS2 := hide (HS1.out.by hb)
               have i1 := cell_below hb j1
               have i2 := cell_below hb j2
               clear hb)
            | (go_at_call 27
               refine (roomBan_c x b 0 id _ HS2.out.boxRow).mono ?_
               rintro e w3 ⟨rfl, hb⟩
               rw [show decide (0 ≤ idxP (banIs id) x.bans) = _ from HBN.out]
               have HS3 := hide (HS2.out.by hb)
               have g1 := cell_below hb i1
               have g2 := cell_below hb i2
               obtain ⟨q1, q2, q3, m1, m2, m3, bz3, b3_0, b3_1, b3_2, b3_3⟩ := room_at HS3.out.boxRow (Below.refl _ _) (j := 0) rfl
               simp only [Nat.zero_mul, Nat.add_zero] at b3_0
               clear b3_1 b3_2 b3_3
               clear hb m1 m2 m3)
            | (go_at_call 28
               refine (without_c x id b F w _ L HS3.out HFE.out).mono ?_
               rintro e w8 ⟨rfl, F8, hS⟩
               obtain ⟨A1, c1, A2, c2, A3, c3, G1, G2, G3, hO⟩ := hS.roomOpen
               have HO := hide hO
               obtain ⟨x0, x1, x2, x3⟩ := hO.at0.c4
               have xf := hO.at0.frozen
               have xz := hO.at0.lt
               have n1 := cell_below HO.out.below HE.out.1
               have n2 := cell_below HO.out.below HE.out.2
               clear hS hO))
          have hne : ∀ q, q < w.heap.size → ¬ q = b ∧ ¬ b = q := fun q hq => by omega
          obtain ⟨ne1, nf1⟩ := hne b1 kz1
          obtain ⟨ne2, nf2⟩ := hne b2 kz2
          have hl1 : (withoutR x id).members.length ≤ 32 := by have := HFW.out; show (dropP _ _).length ≤ 32; omega
          go_region_law (
            refine step_app_st (d := memberD) (w0 := w) rfl rfl (.tmp 38) (.tmp 42) 24 rfl (.agg #[.int .i64 0, .int .i64 0, .int .i64 0, .int .i64 0]) 32 Tryz.underlying24 infoMember rfl (by omega) (by omega) (.slice A1 (withoutR x id).members.length c1) (withoutR x id).members G1 (by simp [Act.eval, Act.put]) w8.heap.size #[.int .i64 id, .int .i64 1, .int .i64 a, .int .i64 0] (by (repeat (first | (with_reducible exact HO.out.pull1) | (with_reducible apply St.alloc) | (with_reducible apply St.set0) | (with_reducible apply St.set1) | (with_reducible apply St.set2) | (with_reducible apply St.set3) | (with_reducible apply St.drew) | (with_reducible apply St.drewN))); all_goals (try (first | rfl | (simp; done)))) 1 (by simp [Act.eval, Act.put]) (newM id a) rfl (by omega) ?_
            intro g cap w9 F9 hS
            have HS9 := hide hS
            obtain ⟨z0, z1, z2, z3⟩ := hS.at1.c4
            have zf := hS.at1.frozen
            have zz := hS.at1.lt
            clear hS)
          all_goals
            go_wp2_with (
              go_at_call 29
              refine (roomSort_c { withoutR x id with members := (withoutR x id).members ++ [newM id a] } b _ w _ L (St.roomShut (x := { withoutR x id with members := (withoutR x id).members ++ [newM id a] }) (St.push1 (show St w _ (own memberD 55 (.slice (some ⟨g, 0, none⟩) ((withoutR x id).members.length + 1) cap) ((withoutR x id).members ++ [newM id a]) F9 :: _) from by (repeat (first | (with_reducible exact HS9.out) | (with_reducible apply St.alloc) | (with_reducible apply St.set0) | (with_reducible apply St.set1) | (with_reducible apply St.set2) | (with_reducible apply St.set3) | (with_reducible apply St.drew) | (with_reducible apply St.drewN))); all_goals (try (first | rfl | (simp; done)))))) ?hf1).mono ?_
              case hf1 =>
                have := HFW.out
                simp only [withoutR, List.length_append, List.length_cons, List.length_nil]
                omega
              rintro e wA ⟨rfl, s1, s2, s3, FA, p1, o1, p2, o2, p3, o3, hS⟩
              have HSA := hide hS
              have HPA := hide (And.intro p1 (And.intro o1 (And.intro p2 (And.intro o2 (And.intro p3 o3)))))
              clear hS p1 o1 p2 o2 p3 o3)
            go_ret
            obtain ⟨p1, o1, p2, o2, p3, o3⟩ := HPA.out
            have hV := valid_iff.1 HV.out
            have e1 : s1 = insK Member.id (newM id a) x.members := ins_uniq (key := Member.id) (m := newM id a) hV.mp (fun y hy => mem_ne HH.out y hy) (by have h := p1; rwa [show (withoutR x id).members = x.members from members_of HH.out] at h) o1
            have e2 : s2 = dropP (invIs id) x.invites := sort_same (hV.ip.filter _) p2 o2
            have e3 : s3 = x.bans := sort_same hV.bp (by have h := p3; rwa [show (withoutR x id).bans = x.bans from bans_of HBN.out] at h) o3
            exact ⟨by rw [HOK.out]; rfl, _, HSA.out, fun _ => ⟨_, congrArg (fun y => boxP roomD 28 b y _) (show _ = (joinF id a x).1 by rw [e1, e2, e3]; rfl)⟩⟩
        · have hi1 : invitedB x id a = false := by simpa using hi
          have HOK := hide (show (joinF id a x).2 = false by simp [joinF, ho1, hi1])
          clear hi
          go_enter Tryz.func23, Tryz.ntmps23
          go_wp2_with (first
            | (go_at_call 24
               refine (containsInvite_c _ _ (fun v : Invite => decide (v.id = id) && decide (a ≤ v.until_)) x.invites _ _ K2.out eg1 (fun m W' hb' => joined1_c m _ _ id a W' (cell_below hb' k1) (cell_below hb' k2))).mono ?_
               rintro e w1 ⟨rfl, hb⟩
               rw [show decide (0 ≤ idxP (fun v : Invite => decide (v.id = id) && decide (a ≤ v.until_)) x.invites) = invitedB x id a from rfl]
               have HS1 := hide (HS.out.by hb)
               have j1 := cell_below hb k1
               have j2 := cell_below hb k2
               clear hb)
            | (go_at_call 26
               refine (roomHas_c x b 0 id _ HS1.out.boxRow).mono ?_
               rintro e w2 ⟨rfl, hb⟩
               rw [HH.out]
               have HS2 := hide (HS1.out.by hb)
               have i1 := cell_below hb j1
               have i2 := cell_below hb j2
               clear hb)
            | (go_at_call 27
               refine (roomBan_c x b 0 id _ HS2.out.boxRow).mono ?_
               rintro e w3 ⟨rfl, hb⟩
               rw [show decide (0 ≤ idxP (banIs id) x.bans) = _ from HBN.out]
               have HS3 := hide (HS2.out.by hb)
               have g1 := cell_below hb i1
               have g2 := cell_below hb i2
               obtain ⟨q1, q2, q3, m1, m2, m3, bz3, b3_0, b3_1, b3_2, b3_3⟩ := room_at HS3.out.boxRow (Below.refl _ _) (j := 0) rfl
               simp only [Nat.zero_mul, Nat.add_zero] at b3_0
               clear b3_1 b3_2 b3_3
               clear hb m1 m2 m3))
          go_ret
          exact ⟨by rw [HOK.out]; rfl, _, HS3.out, fun h => by rw [HOK.out] at h; cases h⟩
    · have HBN := hide (show bannB x id = true by simpa using c1)
      have HOK := hide (show (joinF id a x).2 = false by simp [joinF, HBN.out])
      clear c1
      go_enter Tryz.func23, Tryz.ntmps23
      go_wp2_with (first
        | (go_at_call 24
           refine (containsInvite_c _ _ (fun v : Invite => decide (v.id = id) && decide (a ≤ v.until_)) x.invites _ _ K2.out eg1 (fun m W' hb' => joined1_c m _ _ id a W' (cell_below hb' k1) (cell_below hb' k2))).mono ?_
           rintro e w1 ⟨rfl, hb⟩
           rw [show decide (0 ≤ idxP (fun v : Invite => decide (v.id = id) && decide (a ≤ v.until_)) x.invites) = invitedB x id a from rfl]
           have HS1 := hide (HS.out.by hb)
           have j1 := cell_below hb k1
           have j2 := cell_below hb k2
           clear hb)
        | (go_at_call 26
           refine (roomHas_c x b 0 id _ HS1.out.boxRow).mono ?_
           rintro e w2 ⟨rfl, hb⟩
           rw [HH.out]
           have HS2 := hide (HS1.out.by hb)
           have i1 := cell_below hb j1
           have i2 := cell_below hb j2
           clear hb)
        | (go_at_call 27
           refine (roomBan_c x b 0 id _ HS2.out.boxRow).mono ?_
           rintro e w3 ⟨rfl, hb⟩
           rw [show decide (0 ≤ idxP (banIs id) x.bans) = _ from HBN.out]
           have HS3 := hide (HS2.out.by hb)
           have g1 := cell_below hb i1
           have g2 := cell_below hb i2
           obtain ⟨q1, q2, q3, m1, m2, m3, bz3, b3_0, b3_1, b3_2, b3_3⟩ := room_at HS3.out.boxRow (Below.refl _ _) (j := 0) rfl
           simp only [Nat.zero_mul, Nat.add_zero] at b3_0
           clear b3_1 b3_2 b3_3
           clear hb m1 m2 m3))
      go_ret
      exact ⟨by rw [HOK.out]; rfl, _, HS3.out, fun h => by rw [HOK.out] at h; cases h⟩
  · have HH := hide (show hasId x id = true by simpa using c0)
    have HOK := hide (show (joinF id a x).2 = false by simp [joinF, HH.out])
    clear c0
    go_enter Tryz.func23, Tryz.ntmps23
    go_wp2_with (first
      | (go_at_call 24
         refine (containsInvite_c _ _ (fun v : Invite => decide (v.id = id) && decide (a ≤ v.until_)) x.invites _ _ K2.out eg1 (fun m W' hb' => joined1_c m _ _ id a W' (cell_below hb' k1) (cell_below hb' k2))).mono ?_
         rintro e w1 ⟨rfl, hb⟩
         rw [show decide (0 ≤ idxP (fun v : Invite => decide (v.id = id) && decide (a ≤ v.until_)) x.invites) = invitedB x id a from rfl]
         have HS1 := hide (HS.out.by hb)
         have j1 := cell_below hb k1
         have j2 := cell_below hb k2
         clear hb)
      | (go_at_call 26
         refine (roomHas_c x b 0 id _ HS1.out.boxRow).mono ?_
         rintro e w2 ⟨rfl, hb⟩
         rw [HH.out]
         have HS2 := hide (HS1.out.by hb)
         have i1 := cell_below hb j1
         have i2 := cell_below hb j2
         clear hb))
    go_ret
    exact ⟨by rw [HOK.out]; rfl, _, HS2.out, fun h => by rw [HOK.out] at h; cases h⟩
set_option maxHeartbeats 4000000 in
set_option maxRecDepth 100000 in
theorem joinRoom_c (r : Room) (id a : Int) (v1 v2 v3 : Value) (w : World) (h1 : SliceK memberD w v1 r.members) (h2 : SliceK inviteD w v2 r.invites) (h3 : SliceK banD w v3 r.bans) :
    Calls Tryz.prog 8 #[.agg #[.bool r.open_, v1, v2, v3], .int .i64 id, .int .i64 a] w (RetElem2 roomD w (joinV r id a) (joinOk r id a)) := by
  show Calls Tryz.prog 8 #[.agg #[.bool r.open_, v1, v2, v3], .int .i64 id, .int .i64 a] w (RetElem2 roomD w (chR r (joinF id a)) (chOk r (joinF id a)))
  obtain ⟨A1, c1, rfl⟩ := h1.shape
  obtain ⟨A2, c2, rfl⟩ := h2.shape
  obtain ⟨A3, c3, rfl⟩ := h3.shape
  have H1 := hide h1
  have H2 := hide h2
  have H3 := hide h3
  clear h1 h2 h3
  have HS0 := hide (show St w ((((w.alloc (.cells #[.bool r.open_, .slice A1 r.members.length c1, .slice A2 r.invites.length c2, .slice A3 r.bans.length c3] 28)).alloc (.cells #[.int .i64 id] 2)).alloc (.cells #[.int .i64 a] 2)).alloc (.cells #[.bool false, .slice none 0 0, .slice none 0 0, .slice none 0 0] 28)) [blk (w.heap.size + 1 + 1 + 1) #[.bool false, .slice none 0 0, .slice none 0 0, .slice none 0 0] 28, blk (w.heap.size + 1 + 1) #[.int .i64 a] 2, blk (w.heap.size + 1) #[.int .i64 id] 2, blk w.heap.size #[.bool r.open_, .slice A1 r.members.length c1, .slice A2 r.invites.length c2, .slice A3 r.bans.length c3] 28] from (((((St.start w).alloc rfl).alloc (by simp)).alloc (by simp)).alloc (by simp)))
  have HE0 := hide (St.at2 HS0.out).c1
  have HE1 := hide (St.at1 HS0.out).c1
  have eg2 := enters_of Tryz.func23 (by kernel_rfl) rfl
  go_enter Tryz.func8, Tryz.ntmps8
  go_wp2_with (
    go_at_call 22
    refine (changed_c _ _ (joinF id a) r _ _ _ _ (H1.out.below HS0.out.below) (H2.out.below HS0.out.below) (H3.out.below HS0.out.below) eg2 (joinRoom1_c id a _ HE0.out HE1.out)).mono ?_
    rintro e w1 he
    obtain ⟨cs, F, rfl, hK, hb, hS⟩ := HS0.out.elem2 he
    obtain ⟨u1, u2, u3, rfl, k1, k2, k3⟩ := room_K hK
    obtain ⟨G1, g1, rfl⟩ := k1.shape
    obtain ⟨G2, g2, rfl⟩ := k2.shape
    obtain ⟨G3, g3, rfl⟩ := k3.shape
    have HS1 := hide hS
    obtain ⟨x1_0, x1_1, x1_2, x1_3⟩ := hS.at1.c4
    have xf1 := hS.at1.frozen
    have xz1 := hS.at1.lt
    clear hK k1 k2 k3 hb hS he)
  refine bodyPost_ret (v := .tuple #[.agg #[.bool (chR r (joinF id a)).open_, .slice G1 (chR r (joinF id a)).members.length g1, .slice G2 (chR r (joinF id a)).invites.length g2, .slice G3 (chR r (joinF id a)).bans.length g3], .bool (chOk r (joinF id a))]) (by simp [results, Tryz.results8, go_sem, x1_0, x1_1, x1_2, x1_3, xf1, xz1]) rfl ?_
  exact St.ret2 (cs := [.bool (chR r (joinF id a)).open_, .slice G1 (chR r (joinF id a)).members.length g1, .slice G2 (chR r (joinF id a)).invites.length g2, .slice G3 (chR r (joinF id a)).bans.length g3]) (F := F) (by (repeat (first | (with_reducible exact HS1.out) | (with_reducible apply St.alloc) | (with_reducible apply St.set0) | (with_reducible apply St.set1) | (with_reducible apply St.set2) | (with_reducible apply St.set3) | (with_reducible apply St.drew) | (with_reducible apply St.drewN))); all_goals (try (first | rfl | (simp; done)))) rfl
end Go.Proofs.YtglhepbcbildpaaGreat
