/- Somebody leaves a room: the program. -/
import Derived.Test.YtglhepbcbildpaaGreatLeavePlain
import Derived.Test.YtglhepbcbildpaaGreatRanks
import Derived.Test.YtglhepbcbildpaaGreatRoomPlain2
import Derived.Test.YtglhepbcbildpaaGreatChanged
import Derived.Test.YtglhepbcbildpaaGreatRolesFn
import Derived.Deep.RegionWith
namespace Go.Proofs.YtglhepbcbildpaaGreat
open Go Go.RowKit Go.BigFrame
set_option linter.unusedVariables false
set_option linter.unusedSimpArgs false
set_option maxHeartbeats 8000000 in
set_option maxRecDepth 100000 in
theorem leaveRoom1_c (id : Int) (w : World) {b1 : Nat} (h1 : w.cell? ⟨b1, 0, none⟩ = some (.int .i64 id)) :
    TurnsS Tryz.prog roomD 28 31 #[.pointer (some ⟨b1, 0, none⟩)] (fun r => validRoomB r = true) (leaveF id) w := by
  intro x b F W L hS hv
  show Calls Tryz.prog 31 #[.pointer (some ⟨b, 0, none⟩), .pointer (some ⟨b1, 0, none⟩)] W _
  have k1 := cell_below hS.below h1
  have HS := hide hS
  have HV := hide hv
  have HFE := hide (fewR_of hv)
  have h40 := (fewR_of hv).1
  have hm1 := (valid_iff.1 hv).m1
  clear hS h1
  by_cases hi : hasId x id = true
  · have HI := hide hi
    by_cases hl : x.members.length = 1
    · have HOK := hide (show (leaveF id x).2 = false by simp [leaveF, hl])
      have hle : ((x.members.length : Int) == 1) = true := by rw [hl]; rfl
      clear hi hv hl
      go_enter Tryz.func31, Tryz.ntmps31
      go_wp2_with (first
        | (go_at_call 26
           refine (roomHas_c x b 0 id _ HS.out.boxRow).mono ?_
           rintro e w1 ⟨rfl, hb⟩
           rw [HI.out]
           have HS1 := hide (HS.out.by hb)
           have j1 := cell_below hb k1
           obtain ⟨q1, q2, q3, m1, m2, m3, bz1, b1_0, b1_1, b1_2, b1_3⟩ := room_at HS1.out.boxRow (Below.refl _ _) (j := 0) rfl
           simp only [Nat.zero_mul, Nat.add_zero, Nat.zero_add] at b1_0 b1_1 b1_2 b1_3
           obtain ⟨a1, t1, rfl⟩ := m1.shape
           clear hb m1 m2 m3))
      go_ret
      exact ⟨by rw [HOK.out]; rfl, _, HS1.out, fun h => by rw [HOK.out] at h; cases h⟩
    · have HOK := hide (show (leaveF id x).2 = true by simp [leaveF, HI.out, hl])
      have hle : ((x.members.length : Int) == 1) = false := by rw [beq_eq_false_iff_ne]; omega
      have HEQ := hide (leave_eq hv hi)
      have hlen := leave_len hv hi
      have HROL := hide (show ∀ m ∈ ({ x with members := dropP (idIs id) x.members } : Room).members, inB m.role 0 3 = true from fun m hm => by
        have := (valid_iff.1 hv).mok m (List.mem_filter.1 hm).1
        simp only [memOkB, Bool.and_eq_true] at this
        exact this.1.1.2)
      have HD := hide (show DistId (dropP (idIs id) x.members) from drop_dist (valid_iff.1 hv).mp _)
      have hl2 : 0 < (dropP (idIs id) x.members).length := by omega
      have HFV := hide (show (leaveF id x).1 = heirR { x with members := dropP (idIs id) x.members } by unfold leaveF; rw [HEQ.out])
      have HFE2 := hide (show fewR { x with members := dropP (idIs id) x.members } from ⟨by show (dropP (idIs id) x.members).length ≤ 40; omega, (fewR_of hv).2⟩)
      clear hi hv hl
      by_cases ho : ownB (dropP (idIs id) x.members) = true
      · have HH := hide ((HFV.out).trans (heirR_own (x := { x with members := dropP (idIs id) x.members }) ho))
        have hn := roleN_own (dropP (idIs id) x.members)
        rw [ho, decide_eq_true_eq] at hn
        have hn2 : (roleN (dropP (idIs id) x.members) 3 == 0) = false := by rw [beq_eq_false_iff_ne]; omega
        clear ho hn
        go_enter Tryz.func31, Tryz.ntmps31
        go_wp2_with (first
          | (go_at_call 26
             refine (roomHas_c x b 0 id _ HS.out.boxRow).mono ?_
             rintro e w1 ⟨rfl, hb⟩
             rw [HI.out]
             have HS1 := hide (HS.out.by hb)
             have j1 := cell_below hb k1
             obtain ⟨q1, q2, q3, m1, m2, m3, bz1, b1_0, b1_1, b1_2, b1_3⟩ := room_at HS1.out.boxRow (Below.refl _ _) (j := 0) rfl
             simp only [Nat.zero_mul, Nat.add_zero, Nat.zero_add] at b1_0 b1_1 b1_2 b1_3
             obtain ⟨a1, t1, rfl⟩ := m1.shape
             clear hb m1 m2 m3)
          | (go_at_call 28
             refine (without_c x id b F w _ L HS1.out HFE.out).mono ?_
             rintro e w2 ⟨rfl, F2, hS⟩
             rw [HEQ.out] at hS
             have HS2 := hide hS
             clear hS)
          | (go_at_call 32
             refine (owners_c { x with members := dropP (idIs id) x.members } b 0 _ HS2.out.boxRow HROL.out (by show (dropP (idIs id) x.members).length ≤ 1000; omega)).mono ?_
             rintro e w3 ⟨rfl, hb⟩
             skip
             have HS3 := hide (HS2.out.by hb)
             clear hb))
        go_ret
        exact ⟨by rw [HOK.out]; rfl, _, HS3.out, fun _ => ⟨_, congrArg (fun y => boxP roomD 28 b y _) HH.out.symm⟩⟩
      · have ho' : ownB (dropP (idIs id) x.members) = false := by simpa using ho
        have hn := roleN_own (dropP (idIs id) x.members)
        rw [ho', decide_eq_false_iff_not] at hn
        have hn3 := (roleN_nn (dropP (idIs id) x.members) 3).1
        have HN2 := hide (show roleN (dropP (idIs id) x.members) 3 = 0 by omega)
        obtain ⟨bb, t, hr⟩ := rank_cons hl2
        obtain ⟨k, hk, hbest⟩ := rank_head HD.out hr
        obtain ⟨hh, hidx⟩ := heirR_no (x := { x with members := dropP (idIs id) x.members }) HD.out ho' hk hbest
        have HH := hide ((HFV.out).trans hh)
        have HIX := hide hidx
        have HK := hide hk
        have HRR := hide hr
        have hkl := (List.getElem?_eq_some_iff.1 hk).1
        have hkl2 : (k : Int) < ((dropP (idIs id) x.members).length : Int) := by omega
        clear ho ho' hn hn3 hk hbest hh hidx hr
        go_enter Tryz.func31, Tryz.ntmps31
        go_wp2_with (first
          | (go_at_call 26
             refine (roomHas_c x b 0 id _ HS.out.boxRow).mono ?_
             rintro e w1 ⟨rfl, hb⟩
             rw [HI.out]
             have HS1 := hide (HS.out.by hb)
             have j1 := cell_below hb k1
             obtain ⟨q1, q2, q3, m1, m2, m3, bz1, b1_0, b1_1, b1_2, b1_3⟩ := room_at HS1.out.boxRow (Below.refl _ _) (j := 0) rfl
             simp only [Nat.zero_mul, Nat.add_zero, Nat.zero_add] at b1_0 b1_1 b1_2 b1_3
             obtain ⟨a1, t1, rfl⟩ := m1.shape
             clear hb m1 m2 m3)
          | (go_at_call 28
             refine (without_c x id b F w _ L HS1.out HFE.out).mono ?_
             rintro e w2 ⟨rfl, F2, hS⟩
             rw [HEQ.out] at hS
             have HS2 := hide hS
             clear hS)
          | (go_at_call 32
             refine (owners_c { x with members := dropP (idIs id) x.members } b 0 _ HS2.out.boxRow HROL.out (by show (dropP (idIs id) x.members).length ≤ 1000; omega)).mono ?_
             rintro e w3 ⟨rfl, hb⟩
             rw [HN2.out]
             have HS3 := hide (HS2.out.by hb)
             clear hb))
        obtain ⟨A1, c1, A2, c2, A3, c3, F1, F2', F3, hO⟩ := HS3.out.roomOpen
        have HO := hide hO
        obtain ⟨⟨q, rfl⟩, -, hlc⟩ := St.hasBlk (d := memberD) rfl hO.pull1 HK.out
        obtain ⟨x0, x1, x2, x3⟩ := hO.at0.c4
        have xz := hO.at0.lt
        clear hO
        go_region_with (first
          | (go_at_call 33
             refine (ranks_c { x with members := dropP (idIs id) x.members } b 0 _ (St.boxRow (St.roomShut (x := { x with members := dropP (idIs id) x.members }) (w0 := w) (by (repeat (first | (with_reducible exact HO.out) | (with_reducible apply St.alloc) | (with_reducible apply St.set0) | (with_reducible apply St.set1) | (with_reducible apply St.set2) | (with_reducible apply St.set3) | (with_reducible apply St.drew) | (with_reducible apply St.drewN))); all_goals (try (first | rfl | (simp; done)))))) HFE2.out HD.out).mono ?_
             rintro e w4 ⟨v4, rfl, hM, hb⟩
             change Made intD _ _ _ _ ((rankS (dropP (idIs id) x.members)).map Member.id) at hM
             obtain ⟨A4, c4, rfl⟩ := hM.shape
             obtain ⟨F4, hS4⟩ := St.made (show St w _ _ by (repeat (first | (with_reducible exact HO.out) | (with_reducible apply St.alloc) | (with_reducible apply St.set0) | (with_reducible apply St.set1) | (with_reducible apply St.set2) | (with_reducible apply St.set3) | (with_reducible apply St.drew) | (with_reducible apply St.drewN))); all_goals (try (first | rfl | (simp; done)))) hM hb
             obtain ⟨⟨g, rfl⟩, -, hle4⟩ := St.hasBlk (d := intD) (k := 0) (x := bb.id) rfl hS4 (by rw [HRR.out]; rfl)
             obtain ⟨hc4, hf4, hz4⟩ := St.flatCell (d := intD) (k := 0) (x := bb.id) rfl hS4 (by rw [HRR.out]; rfl)
             have g0 : w4.cell? ⟨g, 0, none⟩ = some (.int .i64 bb.id) := hc4 0 _ rfl
             have hp4 : (0 : Int) < (((rankS (dropP (idIs id) x.members)).map Member.id).length : Int) := by rw [HRR.out]; simp only [List.map_cons, List.length_cons]; omega
             simp only [List.length_map] at hp4
             have HS4 := hide hS4.drop
             obtain ⟨y0, y1, y2, y3⟩ := HS4.out.at0.c4
             clear hM hb hS4 hc4 hf4)
          | (go_at_call 30
             refine (roomAt_c { x with members := dropP (idIs id) x.members } b 0 bb.id _ (St.boxRow (St.roomShut (x := { x with members := dropP (idIs id) x.members }) (w0 := w) (by (repeat (first | (with_reducible exact HS4.out) | (with_reducible apply St.alloc) | (with_reducible apply St.set0) | (with_reducible apply St.set1) | (with_reducible apply St.set2) | (with_reducible apply St.set3) | (with_reducible apply St.drew) | (with_reducible apply St.drewN))); all_goals (try (first | rfl | (simp; done))))))).mono ?_
             rintro e w5 ⟨rfl, hb⟩
             rw [HIX.out]
             have HS5 := hide (St.by (show St w _ _ by (repeat (first | (with_reducible exact HS4.out) | (with_reducible apply St.alloc) | (with_reducible apply St.set0) | (with_reducible apply St.set1) | (with_reducible apply St.set2) | (with_reducible apply St.set3) | (with_reducible apply St.drew) | (with_reducible apply St.drewN))); all_goals (try (first | rfl | (simp; done)))) hb)
             obtain ⟨z0, z1, z2, z3⟩ := HS5.out.at0.c4
             obtain ⟨hc5, hf5, hz5⟩ := St.flatCell (d := memberD) rfl HS5.out.pull1 HK.out
             have d1 : w5.cell? ⟨q, k * 4 + 1, none⟩ = some (.int .i64 bb.role) := hc5 1 _ rfl
             obtain ⟨hq1, hq2⟩ := St.apart (d := memberD) rfl HS5.out
             clear hb hc5))
        all_goals
          go_wp2_with fail
          go_ret
          have hS6 := St.pull1 (St.setFlat (d := memberD) (x' := { bb with role := 3 }) (j := 1) (u := .int .i64 3) rfl HS5.out.pull1 HK.out (by omega) rfl rfl)
          exact ⟨by rw [HOK.out]; rfl, _, St.roomShut (x := { x with members := (dropP (idIs id) x.members).set k { bb with role := 3 } }) hS6, fun _ => ⟨_, congrArg (fun y => boxP roomD 28 b y _) HH.out.symm⟩⟩
  · have HI := hide (show hasId x id = false by simpa using hi)
    have HOK := hide (show (leaveF id x).2 = false by simp [leaveF, HI.out])
    clear hi hv
    go_enter Tryz.func31, Tryz.ntmps31
    go_wp2_with (first
      | (go_at_call 26
         refine (roomHas_c x b 0 id _ HS.out.boxRow).mono ?_
         rintro e w1 ⟨rfl, hb⟩
         rw [HI.out]
         have HS1 := hide (HS.out.by hb)
         have j1 := cell_below hb k1
         obtain ⟨q1, q2, q3, m1, m2, m3, bz1, b1_0, b1_1, b1_2, b1_3⟩ := room_at HS1.out.boxRow (Below.refl _ _) (j := 0) rfl
         simp only [Nat.zero_mul, Nat.add_zero, Nat.zero_add] at b1_0 b1_1 b1_2 b1_3
         obtain ⟨a1, t1, rfl⟩ := m1.shape
         clear hb m1 m2 m3))
    go_ret
    exact ⟨by rw [HOK.out]; rfl, _, HS1.out, fun h => by rw [HOK.out] at h; cases h⟩
set_option maxHeartbeats 4000000 in
set_option maxRecDepth 100000 in
theorem leaveRoom_c (r : Room) (id : Int) (v1 v2 v3 : Value) (w : World) (h1 : SliceK memberD w v1 r.members) (h2 : SliceK inviteD w v2 r.invites) (h3 : SliceK banD w v3 r.bans) :
    Calls Tryz.prog 10 #[.agg #[.bool r.open_, v1, v2, v3], .int .i64 id] w (RetElem2 roomD w (leaveV r id) (leaveOk r id)) := by
  show Calls Tryz.prog 10 #[.agg #[.bool r.open_, v1, v2, v3], .int .i64 id] w (RetElem2 roomD w (chR r (leaveF id)) (chOk r (leaveF id)))
  obtain ⟨A1, c1, rfl⟩ := h1.shape
  obtain ⟨A2, c2, rfl⟩ := h2.shape
  obtain ⟨A3, c3, rfl⟩ := h3.shape
  have H1 := hide h1
  have H2 := hide h2
  have H3 := hide h3
  clear h1 h2 h3
  have HS0 := hide (show St w (((w.alloc (.cells #[.bool r.open_, .slice A1 r.members.length c1, .slice A2 r.invites.length c2, .slice A3 r.bans.length c3] 28)).alloc (.cells #[.int .i64 id] 2)).alloc (.cells #[.bool false, .slice none 0 0, .slice none 0 0, .slice none 0 0] 28)) [blk (w.heap.size + 1 + 1) #[.bool false, .slice none 0 0, .slice none 0 0, .slice none 0 0] 28, blk (w.heap.size + 1) #[.int .i64 id] 2, blk w.heap.size #[.bool r.open_, .slice A1 r.members.length c1, .slice A2 r.invites.length c2, .slice A3 r.bans.length c3] 28] from ((((St.start w).alloc rfl).alloc (by simp)).alloc (by simp)))
  have HE0 := hide (St.at1 HS0.out).c1
  have eg2 := enters_of Tryz.func31 (by kernel_rfl) rfl
  go_enter Tryz.func10, Tryz.ntmps10
  go_wp2_with (
    go_at_call 22
    refine (changed_c _ _ (leaveF id) r _ _ _ _ (H1.out.below HS0.out.below) (H2.out.below HS0.out.below) (H3.out.below HS0.out.below) eg2 (leaveRoom1_c id _ HE0.out)).mono ?_
    rintro e w1 he
    obtain ⟨cs, F, rfl, hK, hb, hS⟩ := HS0.out.elem2 he
    obtain ⟨u1, u2, u3, rfl, k1, k2, k3⟩ := room_K hK
    obtain ⟨G1, g1, rfl⟩ := k1.shape
    obtain ⟨G2, g2, rfl⟩ := k2.shape
    obtain ⟨G3, g3, rfl⟩ := k3.shape
    have HS1 := hide hS
    obtain ⟨x1_0, x1_1, x1_2, x1_3⟩ := hS.at1.c4
    have xf1 := hS.at1.frozen
    have xz1 := hS.at1.lt
    clear hK k1 k2 k3 hb hS he)
  refine bodyPost_ret (v := .tuple #[.agg #[.bool (chR r (leaveF id)).open_, .slice G1 (chR r (leaveF id)).members.length g1, .slice G2 (chR r (leaveF id)).invites.length g2, .slice G3 (chR r (leaveF id)).bans.length g3], .bool (chOk r (leaveF id))]) (by simp [results, Tryz.results10, go_sem, x1_0, x1_1, x1_2, x1_3, xf1, xz1]) rfl ?_
  exact St.ret2 (cs := [.bool (chR r (leaveF id)).open_, .slice G1 (chR r (leaveF id)).members.length g1, .slice G2 (chR r (leaveF id)).invites.length g2, .slice G3 (chR r (leaveF id)).bans.length g3]) (F := F) (by (repeat (first | (with_reducible exact HS1.out) | (with_reducible apply St.alloc) | (with_reducible apply St.set0) | (with_reducible apply St.set1) | (with_reducible apply St.set2) | (with_reducible apply St.set3) | (with_reducible apply St.drew) | (with_reducible apply St.drewN))); all_goals (try (first | rfl | (simp; done)))) rfl
end Go.Proofs.YtglhepbcbildpaaGreat
