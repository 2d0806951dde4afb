/- A member is muted, or gets a role: the reference. -/
import Derived.Test.YtccgjnanphonnaaMute
import Derived.Test.YtccgjnanphonnaaRoomPlain2
import Derived.Test.YtccgjnanphonnaaGive
import Derived.Deep.RegionHeld3
namespace Go.Proofs.Ytccgjnanphonnaa
open Go Go.RowKit Go.BigFrame
set_option linter.unusedVariables false
set_option linter.unusedSimpArgs false
set_option maxHeartbeats 4000000 in
set_option maxRecDepth 100000 in
theorem specMuteMember_c (r : Room) (n : Int) (id : Int) (u : Int) (a : Int) (v1 v2 v3 : Value) (w : World) (h1 : SliceK memberD w v1 r.members) (h2 : SliceK inviteD w v2 r.invites) (h3 : SliceK banD w v3 r.bans) :
    Calls Try.prog 17 #[.agg #[.bool r.open_, v1, v2, v3], .int .i64 n, .int .i64 id, .int .i64 u, .int .i64 a] w (RetElem2 roomD w (muteV r n id u a) (muteOk r n id u a)) := by
  show Calls Try.prog 17 #[.agg #[.bool r.open_, v1, v2, v3], .int .i64 n, .int .i64 id, .int .i64 u, .int .i64 a] w (RetElem2 roomD w (chR r (wmF n id 4 a (fun m => { m with quiet := u }))) (chOk r (wmF n id 4 a (fun m => { m with quiet := u }))))
  obtain ⟨A1, c1, rfl⟩ := h1.shape
  obtain ⟨A2, c2, rfl⟩ := h2.shape
  obtain ⟨A3, c3, rfl⟩ := h3.shape
  have H1 := hide h1
  have H2 := hide h2
  have H3 := hide h3
  clear h1 h2 h3
  have HS0 := hide (show St w ((w.alloc (.cells #[.bool r.open_, .slice A1 r.members.length c1, .slice A2 r.invites.length c2, .slice A3 r.bans.length c3] 32)).alloc (.cells #[.bool false, .slice none 0 0, .slice none 0 0, .slice none 0 0] 32)) [blk (w.heap.size + 1) #[.bool false, .slice none 0 0, .slice none 0 0, .slice none 0 0] 32, blk w.heap.size #[.bool r.open_, .slice A1 r.members.length c1, .slice A2 r.invites.length c2, .slice A3 r.bans.length c3] 32] from (((St.start w).alloc rfl).alloc (by simp)))
  by_cases ha : aboveB r n id 4 a = true
  · have HA := hide ha
    have hvm : validRoomB r = true ∧ mayToB r n id 4 a = true := by simpa [aboveB] using ha
    have HVM := hide hvm
    have HFEW := hide (fewR_of hvm.1)
    clear ha hvm
    by_cases hn : 0 ≤ idxP (idIs id) r.members
    · obtain ⟨k, m, hk, hlk, hx, hmn⟩ := idxP_found hn
      have HHAS := hide (show hasId r id = true by unfold hasId; exact decide_eq_true hn)
      have HSM := hide (setMem_at (f := fun m => { m with quiet := u }) hk hx)
      have HX := hide hx
      have hlt : (k : Int) < (r.members.length : Int) := by omega
      have hk0 : ¬ (k : Int) < 0 := by omega
      have HQ := hide (@valid_quiet r HVM.out.1 k m hx u)
      clear hn hx hmn
      by_cases ht : inB u 0 1000000 = true
      · have HT := hide ht
        clear ht
        go_enter Try.func17, Try.ntmps17
        go_wp2_with (first
          | (go_at_call 51
             refine (l02Above_c r _ _ n id 4 a _ (Blk.rowAt (d := roomD) (x := r) HS0.out.at1 (room_K_mk (H1.out.below HS0.out.below) (H2.out.below HS0.out.below) (H3.out.below HS0.out.below)) rfl)).mono ?_
             rintro e w1 ⟨rfl, hb⟩
             rw [HA.out]
             have HS1 := hide (HS0.out.by hb)
             (try clear x1_0 x1_1 x1_2 x1_3 xf1 xz1)
             obtain ⟨x1_0, x1_1, x1_2, x1_3⟩ := HS1.out.at0.c4
             have xf1 := HS1.out.at0.frozen
             have xz1 := HS1.out.at0.lt
             clear hb)
          | (go_at_call 52
             refine (l02Find_c r _ _ id _ (Blk.rowAt (d := roomD) (x := r) HS1.out.at1 (room_K_mk (H1.out.below HS1.out.below) (H2.out.below HS1.out.below) (H3.out.below HS1.out.below)) rfl)).mono ?_
             rintro e w2 ⟨rfl, hb⟩
             rw [hk]
             have HS2 := hide (HS1.out.by hb)
             (try clear x1_0 x1_1 x1_2 x1_3 xf1 xz1)
             obtain ⟨x1_0, x1_1, x1_2, x1_3⟩ := HS2.out.at0.c4
             have xf1 := HS2.out.at0.frozen
             have xz1 := HS2.out.at0.lt
             clear hb)
          | (go_at_call 44; refine (l02Tick_c _ _).mono ?_; rintro e w' ⟨rfl, rfl⟩; rw [HT.out])
          | (go_at_call 28
             refine (l02Copy_c r _ _ _ (Blk.rowAt (d := roomD) (x := r) HS2.out.at1 (room_K_mk (H1.out.below HS2.out.below) (H2.out.below HS2.out.below) (H3.out.below HS2.out.below)) rfl) HFEW.out).mono ?_
             rintro e w3 he
             obtain ⟨cs9, F9, rfl, hK, hb, hS⟩ := HS2.out.elem he
             obtain ⟨u1, u2, u3, rfl, k1, k2, k3⟩ := room_K hK
             obtain ⟨B1, e1, rfl⟩ := k1.shape
             obtain ⟨B2, e2, rfl⟩ := k2.shape
             obtain ⟨B3, e3, rfl⟩ := k3.shape
             obtain ⟨F1, F2, F3, hP⟩ := hS.roomParts
             have HPP := hide hP
             have xz1 := hS.at1.lt
             (try clear x1_0 x1_1 x1_2 x1_3 xf1)
             clear hK k1 k2 k3 hb hS he hP)
          | fail)
        obtain ⟨⟨q, rfl⟩, -, hle⟩ := St.some (d := memberD) rfl HPP.out HX.out
        obtain ⟨Wg, hWg⟩ : ∃ V, V = w3.alloc (.cells #[.bool r.open_, .slice (some ⟨q, 0, none⟩) r.members.length e1, .slice B2 r.invites.length e2, .slice B3 r.bans.length e3] 32) := ⟨_, rfl⟩
        rw [← hWg]
        have HPG := hide (show St w Wg (blk w3.heap.size #[.bool r.open_, .slice (some ⟨q, 0, none⟩) r.members.length e1, .slice B2 r.invites.length e2, .slice B3 r.bans.length e3] 32 :: _) from by rw [hWg]; (repeat (first | (with_reducible exact HPP.out) | (with_reducible apply St.alloc) | (with_reducible apply St.set0) | (with_reducible apply St.set1) | (with_reducible apply St.set2) | (with_reducible apply St.set3) | (with_reducible apply St.drew))); all_goals (try (first | rfl | (simp; done))))
        clear hWg
        obtain ⟨y0, y1, y2, y3⟩ := HPG.out.at0.c4
        have yz := HPG.out.at0.lt
        have HROW := hide (Blk.rowAt (d := roomD) (x := r) (St.at3 HPG.out.drop.drop) (room_K_mk (H1.out.below HPG.out.below) (H2.out.below HPG.out.below) (H3.out.below HPG.out.below)) rfl)
        obtain ⟨hq1, hq2⟩ := St.apart (d := memberD) rfl HPG.out
        go_region_held3 (fun w' : World => w'.cell? ⟨w3.heap.size, 1, none⟩ = some (.slice (some ⟨q, 0, none⟩) r.members.length e1))
          (first | with_reducible exact y1 | with_reducible exact z1 | go_keep) (first
          | (go_at_call 52
             refine (l02Find_c r _ _ id _ (HROW.out.below (by first | exact Below.refl _ _ | exact (Below.refl _ _).drew))).mono ?_
             rintro e w5 ⟨rfl, hb⟩
             rw [hk]
             have HP5 := hide (St.by (St.drew HPG.out) hb)
             obtain ⟨z0, z1, z2, z3⟩ := HP5.out.at0.c4
             have zf := HP5.out.at0.frozen
             have zz := HP5.out.at0.lt
             obtain ⟨hc, hf, hz⟩ := St.flatCell (d := memberD) rfl HP5.out.pull1 HX.out
             obtain ⟨d0, d1, d2, d3⟩ : w5.cell? ⟨q, k * 4, none⟩ = some (.int .i64 m.id) ∧ w5.cell? ⟨q, k * 4 + 1, none⟩ = some (.int .i64 m.role) ∧ w5.cell? ⟨q, k * 4 + 2, none⟩ = some (.int .i64 m.since) ∧ w5.cell? ⟨q, k * 4 + 3, none⟩ = some (.int .i64 m.quiet) := ⟨hc 0 _ rfl, hc 1 _ rfl, hc 2 _ rfl, hc 3 _ rfl⟩
             obtain ⟨x1_0, x1_1, x1_2, x1_3⟩ := (St.at3 HP5.out.drop).c4
             have xf1 := (St.at3 HP5.out.drop).frozen
             have xz2 := (St.at3 HP5.out.drop).lt
             clear hb hc))
        all_goals
          have HOK := hide (show chOk r (wmF n id 4 a (fun m => { m with quiet := u })) = true by simp only [chOk, wmF]; rw [HSM.out, HQ.out, HT.out, HVM.out.1, HVM.out.2, HHAS.out]; rfl)
          have HV9 := hide (show chR r (wmF n id 4 a (fun m => { m with quiet := u })) = { r with members := r.members.set k { m with quiet := u } } from (chR_yes HOK.out).trans HSM.out)
          have HS6 := hide (St.setFlat (d := memberD) (x' := { m with quiet := u }) (j := 3) (u := .int .i64 u) rfl HP5.out.pull1 HX.out (by omega) rfl rfl)
          obtain ⟨ha, hb⟩ := St.apart (d := memberD) rfl HP5.out
          obtain ⟨hr1, hr2⟩ := St.apart (d := memberD) rfl (L := _) (St.pull3 (St.drop HP5.out))
          go_wp2_with fail
          refine bodyPost_ret (v := .tuple #[.agg #[.bool r.open_, .slice (some ⟨q, 0, none⟩) r.members.length e1, .slice B2 r.invites.length e2, .slice B3 r.bans.length e3], .bool true]) (by simp [results, Try.results17, go_sem, x1_0, x1_1, x1_2, x1_3, xf1, xz2]) rfl ?_
          rw [HV9.out, HOK.out]
          exact St.ret2 (cs := [.bool r.open_, .slice (some ⟨q, 0, none⟩) r.members.length e1, .slice B2 r.invites.length e2, .slice B3 r.bans.length e3]) (F := F1 ++ (F2 ++ F3)) (St.room2 (x := { r with members := r.members.set k { m with quiet := u } }) (by (repeat (first | (with_reducible exact HS6.out.pull1.drop) | (with_reducible apply St.alloc) | (with_reducible apply St.set0) | (with_reducible apply St.set1) | (with_reducible apply St.set2) | (with_reducible apply St.set3) | (with_reducible apply St.drew))); all_goals (try (first | rfl | (simp; done))))) rfl
      · have HT := hide (show inB u 0 1000000 = false by simpa using ht)
        have HOK := hide (show chOk r (wmF n id 4 a (fun m => { m with quiet := u })) = false by simp only [chOk, wmF]; rw [HSM.out, HQ.out, HT.out]; simp)
        clear ht
        go_enter Try.func17, Try.ntmps17
        go_wp2_with (first
          | (go_at_call 51
             refine (l02Above_c r _ _ n id 4 a _ (Blk.rowAt (d := roomD) (x := r) HS0.out.at1 (room_K_mk (H1.out.below HS0.out.below) (H2.out.below HS0.out.below) (H3.out.below HS0.out.below)) rfl)).mono ?_
             rintro e w1 ⟨rfl, hb⟩
             rw [HA.out]
             have HS1 := hide (HS0.out.by hb)
             (try clear x1_0 x1_1 x1_2 x1_3 xf1 xz1)
             obtain ⟨x1_0, x1_1, x1_2, x1_3⟩ := HS1.out.at0.c4
             have xf1 := HS1.out.at0.frozen
             have xz1 := HS1.out.at0.lt
             clear hb)
          | (go_at_call 52
             refine (l02Find_c r _ _ id _ (Blk.rowAt (d := roomD) (x := r) HS1.out.at1 (room_K_mk (H1.out.below HS1.out.below) (H2.out.below HS1.out.below) (H3.out.below HS1.out.below)) rfl)).mono ?_
             rintro e w2 ⟨rfl, hb⟩
             rw [hk]
             have HS2 := hide (HS1.out.by hb)
             (try clear x1_0 x1_1 x1_2 x1_3 xf1 xz1)
             obtain ⟨x1_0, x1_1, x1_2, x1_3⟩ := HS2.out.at0.c4
             have xf1 := HS2.out.at0.frozen
             have xz1 := HS2.out.at0.lt
             clear hb)
          | (go_at_call 44; refine (l02Tick_c _ _).mono ?_; rintro e w' ⟨rfl, rfl⟩; rw [HT.out]))
        refine bodyPost_ret (v := .tuple #[.agg #[.bool false, .slice none 0 0, .slice none 0 0, .slice none 0 0], .bool false]) (by simp [results, Try.results17, go_sem, x1_0, x1_1, x1_2, x1_3, xf1, xz1]) rfl ?_
        rw [chR_no HOK.out, HOK.out]
        exact St.ret2 (cs := [.bool false, .slice none 0 0, .slice none 0 0, .slice none 0 0]) (F := []) (St.noRoom (by (repeat (first | (with_reducible exact HS2.out) | (with_reducible apply St.alloc) | (with_reducible apply St.set0) | (with_reducible apply St.set1) | (with_reducible apply St.set2) | (with_reducible apply St.set3) | (with_reducible apply St.drew))); all_goals (try (first | rfl | (simp; done))))) rfl
    · have hn2 : idxP (idIs id) r.members < 0 := by omega
      have HOK := hide (show chOk r (wmF n id 4 a (fun m => { m with quiet := u })) = false by simp [chOk, wmF, hasId, hn])
      clear hn
      go_enter Try.func17, Try.ntmps17
      go_wp2_with (first
        | (go_at_call 51
           refine (l02Above_c r _ _ n id 4 a _ (Blk.rowAt (d := roomD) (x := r) HS0.out.at1 (room_K_mk (H1.out.below HS0.out.below) (H2.out.below HS0.out.below) (H3.out.below HS0.out.below)) rfl)).mono ?_
           rintro e w1 ⟨rfl, hb⟩
           rw [HA.out]
           have HS1 := hide (HS0.out.by hb)
           (try clear x1_0 x1_1 x1_2 x1_3 xf1 xz1)
           obtain ⟨x1_0, x1_1, x1_2, x1_3⟩ := HS1.out.at0.c4
           have xf1 := HS1.out.at0.frozen
           have xz1 := HS1.out.at0.lt
           clear hb)
        | (go_at_call 52
           refine (l02Find_c r _ _ id _ (Blk.rowAt (d := roomD) (x := r) HS1.out.at1 (room_K_mk (H1.out.below HS1.out.below) (H2.out.below HS1.out.below) (H3.out.below HS1.out.below)) rfl)).mono ?_
           rintro e w2 ⟨rfl, hb⟩
           skip
           have HS2 := hide (HS1.out.by hb)
           (try clear x1_0 x1_1 x1_2 x1_3 xf1 xz1)
           obtain ⟨x1_0, x1_1, x1_2, x1_3⟩ := HS2.out.at0.c4
           have xf1 := HS2.out.at0.frozen
           have xz1 := HS2.out.at0.lt
           clear hb))
      refine bodyPost_ret (v := .tuple #[.agg #[.bool false, .slice none 0 0, .slice none 0 0, .slice none 0 0], .bool false]) (by simp [results, Try.results17, go_sem, x1_0, x1_1, x1_2, x1_3, xf1, xz1]) rfl ?_
      rw [chR_no HOK.out, HOK.out]
      exact St.ret2 (cs := [.bool false, .slice none 0 0, .slice none 0 0, .slice none 0 0]) (F := []) (St.noRoom (by (repeat (first | (with_reducible exact HS2.out) | (with_reducible apply St.alloc) | (with_reducible apply St.set0) | (with_reducible apply St.set1) | (with_reducible apply St.set2) | (with_reducible apply St.set3) | (with_reducible apply St.drew))); all_goals (try (first | rfl | (simp; done))))) rfl
  · have HA := hide (show aboveB r n id 4 a = false by simpa using ha)
    have HOK := hide (show chOk r (wmF n id 4 a (fun m => { m with quiet := u })) = false by
      have h := HA.out
      unfold aboveB at h
      rw [Bool.and_eq_false_iff] at h
      rcases h with h | h <;> simp [chOk, wmF, h])
    clear ha
    go_enter Try.func17, Try.ntmps17
    go_wp2_with (
      (go_at_call 51
       refine (l02Above_c r _ _ n id 4 a _ (Blk.rowAt (d := roomD) (x := r) HS0.out.at1 (room_K_mk (H1.out.below HS0.out.below) (H2.out.below HS0.out.below) (H3.out.below HS0.out.below)) rfl)).mono ?_
       rintro e w1 ⟨rfl, hb⟩
       rw [HA.out]
       have HS1 := hide (HS0.out.by hb)
       (try clear x1_0 x1_1 x1_2 x1_3 xf1 xz1)
       obtain ⟨x1_0, x1_1, x1_2, x1_3⟩ := HS1.out.at0.c4
       have xf1 := HS1.out.at0.frozen
       have xz1 := HS1.out.at0.lt
       clear hb))
    refine bodyPost_ret (v := .tuple #[.agg #[.bool false, .slice none 0 0, .slice none 0 0, .slice none 0 0], .bool false]) (by simp [results, Try.results17, go_sem, x1_0, x1_1, x1_2, x1_3, xf1, xz1]) rfl ?_
    rw [chR_no HOK.out, HOK.out]
    exact St.ret2 (cs := [.bool false, .slice none 0 0, .slice none 0 0, .slice none 0 0]) (F := []) (St.noRoom (by (repeat (first | (with_reducible exact HS1.out) | (with_reducible apply St.alloc) | (with_reducible apply St.set0) | (with_reducible apply St.set1) | (with_reducible apply St.set2) | (with_reducible apply St.set3) | (with_reducible apply St.drew))); all_goals (try (first | rfl | (simp; done))))) rfl
set_option maxHeartbeats 4000000 in
set_option maxRecDepth 100000 in
theorem specGiveRole_c (r : Room) (n : Int) (id : Int) (u : Int) (a : Int) (v1 v2 v3 : Value) (w : World) (h1 : SliceK memberD w v1 r.members) (h2 : SliceK inviteD w v2 r.invites) (h3 : SliceK banD w v3 r.bans) :
    Calls Try.prog 19 #[.agg #[.bool r.open_, v1, v2, v3], .int .i64 n, .int .i64 id, .int .i64 u, .int .i64 a] w (RetElem2 roomD w (giveV r n id u a) (giveOk r n id u a)) := by
  show Calls Try.prog 19 #[.agg #[.bool r.open_, v1, v2, v3], .int .i64 n, .int .i64 id, .int .i64 u, .int .i64 a] w (RetElem2 roomD w (chR r (giveF n id u a)) (chOk r (giveF n id u a)))
  obtain ⟨A1, c1, rfl⟩ := h1.shape
  obtain ⟨A2, c2, rfl⟩ := h2.shape
  obtain ⟨A3, c3, rfl⟩ := h3.shape
  have H1 := hide h1
  have H2 := hide h2
  have H3 := hide h3
  clear h1 h2 h3
  have HS0 := hide (show St w ((w.alloc (.cells #[.bool r.open_, .slice A1 r.members.length c1, .slice A2 r.invites.length c2, .slice A3 r.bans.length c3] 32)).alloc (.cells #[.bool false, .slice none 0 0, .slice none 0 0, .slice none 0 0] 32)) [blk (w.heap.size + 1) #[.bool false, .slice none 0 0, .slice none 0 0, .slice none 0 0] 32, blk w.heap.size #[.bool r.open_, .slice A1 r.members.length c1, .slice A2 r.invites.length c2, .slice A3 r.bans.length c3] 32] from (((St.start w).alloc rfl).alloc (by simp)))
  by_cases ha : aboveB r n id 7 a = true
  · have HA := hide ha
    have hvm : validRoomB r = true ∧ mayToB r n id 7 a = true := by simpa [aboveB] using ha
    have HVM := hide hvm
    have HFEW := hide (fewR_of hvm.1)
    clear ha hvm
    by_cases hn : 0 ≤ idxP (idIs id) r.members
    · obtain ⟨k, m, hk, hlk, hx, hmn⟩ := idxP_found hn
      have HHAS := hide (show hasId r id = true by unfold hasId; exact decide_eq_true hn)
      have HSM := hide (setMem_at (f := fun m => { m with role := u }) hk hx)
      have HX := hide hx
      have hlt : (k : Int) < (r.members.length : Int) := by omega
      have hk0 : ¬ (k : Int) < 0 := by omega
      have HQ := hide (@valid_quiet r HVM.out.1 k m hx u)
      clear hn hx hmn
      by_cases ht : inB u 0 3 = true
      · have HT := hide ht
        clear ht
        go_enter Try.func19, Try.ntmps19
        go_wp2_with (first
          | (go_at_call 51
             refine (l02Above_c r _ _ n id 7 a _ (Blk.rowAt (d := roomD) (x := r) HS0.out.at1 (room_K_mk (H1.out.below HS0.out.below) (H2.out.below HS0.out.below) (H3.out.below HS0.out.below)) rfl)).mono ?_
             rintro e w1 ⟨rfl, hb⟩
             rw [HA.out]
             have HS1 := hide (HS0.out.by hb)
             (try clear x1_0 x1_1 x1_2 x1_3 xf1 xz1)
             obtain ⟨x1_0, x1_1, x1_2, x1_3⟩ := HS1.out.at0.c4
             have xf1 := HS1.out.at0.frozen
             have xz1 := HS1.out.at0.lt
             clear hb)
          | (go_at_call 52
             refine (l02Find_c r _ _ id _ (Blk.rowAt (d := roomD) (x := r) HS1.out.at1 (room_K_mk (H1.out.below HS1.out.below) (H2.out.below HS1.out.below) (H3.out.below HS1.out.below)) rfl)).mono ?_
             rintro e w2 ⟨rfl, hb⟩
             rw [hk]
             have HS2 := hide (HS1.out.by hb)
             (try clear x1_0 x1_1 x1_2 x1_3 xf1 xz1)
             obtain ⟨x1_0, x1_1, x1_2, x1_3⟩ := HS2.out.at0.c4
             have xf1 := HS2.out.at0.frozen
             have xz1 := HS2.out.at0.lt
             clear hb)
          | (go_at_call 55; refine (l02Role_c _ _).mono ?_; rintro e w' ⟨rfl, rfl⟩; rw [HT.out])
          | (go_at_call 28
             refine (l02Copy_c r _ _ _ (Blk.rowAt (d := roomD) (x := r) HS2.out.at1 (room_K_mk (H1.out.below HS2.out.below) (H2.out.below HS2.out.below) (H3.out.below HS2.out.below)) rfl) HFEW.out).mono ?_
             rintro e w3 he
             obtain ⟨cs9, F9, rfl, hK, hb, hS⟩ := HS2.out.elem he
             obtain ⟨u1, u2, u3, rfl, k1, k2, k3⟩ := room_K hK
             obtain ⟨B1, e1, rfl⟩ := k1.shape
             obtain ⟨B2, e2, rfl⟩ := k2.shape
             obtain ⟨B3, e3, rfl⟩ := k3.shape
             obtain ⟨F1, F2, F3, hP⟩ := hS.roomParts
             have HPP := hide hP
             have xz1 := hS.at1.lt
             (try clear x1_0 x1_1 x1_2 x1_3 xf1)
             clear hK k1 k2 k3 hb hS he hP)
          | fail)
        obtain ⟨⟨q, rfl⟩, -, hle⟩ := St.some (d := memberD) rfl HPP.out HX.out
        obtain ⟨Wg, hWg⟩ : ∃ V, V = w3.alloc (.cells #[.bool r.open_, .slice (some ⟨q, 0, none⟩) r.members.length e1, .slice B2 r.invites.length e2, .slice B3 r.bans.length e3] 32) := ⟨_, rfl⟩
        rw [← hWg]
        have HPG := hide (show St w Wg (blk w3.heap.size #[.bool r.open_, .slice (some ⟨q, 0, none⟩) r.members.length e1, .slice B2 r.invites.length e2, .slice B3 r.bans.length e3] 32 :: _) from by rw [hWg]; (repeat (first | (with_reducible exact HPP.out) | (with_reducible apply St.alloc) | (with_reducible apply St.set0) | (with_reducible apply St.set1) | (with_reducible apply St.set2) | (with_reducible apply St.set3) | (with_reducible apply St.drew))); all_goals (try (first | rfl | (simp; done))))
        clear hWg
        obtain ⟨y0, y1, y2, y3⟩ := HPG.out.at0.c4
        have yz := HPG.out.at0.lt
        have HROW := hide (Blk.rowAt (d := roomD) (x := r) (St.at3 HPG.out.drop.drop) (room_K_mk (H1.out.below HPG.out.below) (H2.out.below HPG.out.below) (H3.out.below HPG.out.below)) rfl)
        obtain ⟨hq1, hq2⟩ := St.apart (d := memberD) rfl HPG.out
        go_region_held3 (fun w' : World => w'.cell? ⟨w3.heap.size, 1, none⟩ = some (.slice (some ⟨q, 0, none⟩) r.members.length e1))
          (first | with_reducible exact y1 | with_reducible exact z1 | go_keep) (first
          | (go_at_call 52
             refine (l02Find_c r _ _ id _ (HROW.out.below (by first | exact Below.refl _ _ | exact (Below.refl _ _).drew))).mono ?_
             rintro e w5 ⟨rfl, hb⟩
             rw [hk]
             have HP5 := hide (St.by (St.drew HPG.out) hb)
             obtain ⟨z0, z1, z2, z3⟩ := HP5.out.at0.c4
             have zf := HP5.out.at0.frozen
             have zz := HP5.out.at0.lt
             obtain ⟨hc, hf, hz⟩ := St.flatCell (d := memberD) rfl HP5.out.pull1 HX.out
             obtain ⟨d0, d1, d2, d3⟩ : w5.cell? ⟨q, k * 4, none⟩ = some (.int .i64 m.id) ∧ w5.cell? ⟨q, k * 4 + 1, none⟩ = some (.int .i64 m.role) ∧ w5.cell? ⟨q, k * 4 + 2, none⟩ = some (.int .i64 m.since) ∧ w5.cell? ⟨q, k * 4 + 3, none⟩ = some (.int .i64 m.quiet) := ⟨hc 0 _ rfl, hc 1 _ rfl, hc 2 _ rfl, hc 3 _ rfl⟩
             obtain ⟨x1_0, x1_1, x1_2, x1_3⟩ := (St.at3 HP5.out.drop).c4
             have xf1 := (St.at3 HP5.out.drop).frozen
             have xz2 := (St.at3 HP5.out.drop).lt
             clear hb hc))
        all_goals
          have HS6 := hide (St.setFlat (d := memberD) (x' := { m with role := u }) (j := 1) (u := .int .i64 u) rfl HP5.out.pull1 HX.out (by omega) rfl rfl)
          obtain ⟨ha, hb⟩ := St.apart (d := memberD) rfl HP5.out
          obtain ⟨hr1, hr2⟩ := St.apart (d := memberD) rfl (L := _) (St.pull3 (St.drop HP5.out))
          by_cases hv2 : validRoomB { r with members := r.members.set k { m with role := u } } = true
          · have HV2 := hide hv2
            have HOK := hide (show chOk r (giveF n id u a) = true by simp only [chOk, giveF]; rw [HSM.out, HV2.out, HT.out, HVM.out.1, HVM.out.2, HHAS.out]; rfl)
            have HV9 := hide (show chR r (giveF n id u a) = { r with members := r.members.set k { m with role := u } } from (chR_yes HOK.out).trans HSM.out)
            clear hv2
            go_wp2_with (
              go_at_call 56
              refine (l02Give_yes { r with members := r.members.set k { m with role := u } } _ _ _ _ _ _ _ _ _ _ HS6.out.toK (St.toK HS6.out.pull2) (St.toK HS6.out.pull3) HV2.out).mono ?_
              rintro e w6 ⟨rfl, hb⟩
              have HS7 := hide (St.pull1 (HS6.out.by hb)).drop
              (try clear x1_0 x1_1 x1_2 x1_3 xf1)
              obtain ⟨x1_0, x1_1, x1_2, x1_3⟩ := (St.at3 HS7.out).c4
              have xf1 := (St.at3 HS7.out).frozen
              have xz6 := (St.at3 HS7.out).lt
              clear hb)
            refine bodyPost_ret (v := .tuple #[.agg #[.bool r.open_, .slice (some ⟨q, 0, none⟩) r.members.length e1, .slice B2 r.invites.length e2, .slice B3 r.bans.length e3], .bool true]) (by simp [results, Try.results19, go_sem, x1_0, x1_1, x1_2, x1_3, xf1, xz6]) rfl ?_
            rw [HV9.out, HOK.out]
            exact St.ret2 (cs := [.bool r.open_, .slice (some ⟨q, 0, none⟩) r.members.length e1, .slice B2 r.invites.length e2, .slice B3 r.bans.length e3]) (F := F1 ++ (F2 ++ F3)) (St.room2 (x := { r with members := r.members.set k { m with role := u } }) (by (repeat (first | (with_reducible exact HS7.out) | (with_reducible apply St.alloc) | (with_reducible apply St.set0) | (with_reducible apply St.set1) | (with_reducible apply St.set2) | (with_reducible apply St.set3) | (with_reducible apply St.drew))); all_goals (try (first | rfl | (simp; done))))) rfl
          · have HV2 := hide (show validRoomB { r with members := r.members.set k { m with role := u } } = false by simpa using hv2)
            have HOK := hide (show chOk r (giveF n id u a) = false by simp only [chOk, giveF]; rw [HSM.out, HV2.out]; simp)
            clear hv2
            go_wp2_with (
              go_at_call 56
              refine (l02Give_no { r with members := r.members.set k { m with role := u } } _ _ _ _ _ _ _ _ _ _ HS6.out.toK (St.toK HS6.out.pull2) (St.toK HS6.out.pull3) HV2.out).mono ?_
              rintro e w6 ⟨rfl, hb⟩
              have HS7 := hide (St.pull3 (St.drop (HS6.out.by hb)))
              (try clear x1_0 x1_1 x1_2 x1_3 xf1)
              obtain ⟨x1_0, x1_1, x1_2, x1_3⟩ := HS7.out.at0.c4
              have xf1 := HS7.out.at0.frozen
              have xz1 := HS7.out.at0.lt
              clear hb)
            refine bodyPost_ret (v := .tuple #[.agg #[.bool false, .slice none 0 0, .slice none 0 0, .slice none 0 0], .bool false]) (by simp [results, Try.results19, go_sem, x1_0, x1_1, x1_2, x1_3, xf1, xz1]) rfl ?_
            rw [chR_no HOK.out, HOK.out]
            exact St.ret2 (cs := [.bool false, .slice none 0 0, .slice none 0 0, .slice none 0 0]) (F := []) (St.noRoom (by (repeat (first | (with_reducible exact HS7.out) | (with_reducible apply St.alloc) | (with_reducible apply St.set0) | (with_reducible apply St.set1) | (with_reducible apply St.set2) | (with_reducible apply St.set3) | (with_reducible apply St.drew))); all_goals (try (first | rfl | (simp; done))))) rfl
      · have HT := hide (show inB u 0 3 = false by simpa using ht)
        have HOK := hide (show chOk r (giveF n id u a) = false by simp [chOk, giveF, HT.out])
        clear ht
        go_enter Try.func19, Try.ntmps19
        go_wp2_with (first
          | (go_at_call 51
             refine (l02Above_c r _ _ n id 7 a _ (Blk.rowAt (d := roomD) (x := r) HS0.out.at1 (room_K_mk (H1.out.below HS0.out.below) (H2.out.below HS0.out.below) (H3.out.below HS0.out.below)) rfl)).mono ?_
             rintro e w1 ⟨rfl, hb⟩
             rw [HA.out]
             have HS1 := hide (HS0.out.by hb)
             (try clear x1_0 x1_1 x1_2 x1_3 xf1 xz1)
             obtain ⟨x1_0, x1_1, x1_2, x1_3⟩ := HS1.out.at0.c4
             have xf1 := HS1.out.at0.frozen
             have xz1 := HS1.out.at0.lt
             clear hb)
          | (go_at_call 52
             refine (l02Find_c r _ _ id _ (Blk.rowAt (d := roomD) (x := r) HS1.out.at1 (room_K_mk (H1.out.below HS1.out.below) (H2.out.below HS1.out.below) (H3.out.below HS1.out.below)) rfl)).mono ?_
             rintro e w2 ⟨rfl, hb⟩
             rw [hk]
             have HS2 := hide (HS1.out.by hb)
             (try clear x1_0 x1_1 x1_2 x1_3 xf1 xz1)
             obtain ⟨x1_0, x1_1, x1_2, x1_3⟩ := HS2.out.at0.c4
             have xf1 := HS2.out.at0.frozen
             have xz1 := HS2.out.at0.lt
             clear hb)
          | (go_at_call 55; refine (l02Role_c _ _).mono ?_; rintro e w' ⟨rfl, rfl⟩; rw [HT.out]))
        refine bodyPost_ret (v := .tuple #[.agg #[.bool false, .slice none 0 0, .slice none 0 0, .slice none 0 0], .bool false]) (by simp [results, Try.results19, go_sem, x1_0, x1_1, x1_2, x1_3, xf1, xz1]) rfl ?_
        rw [chR_no HOK.out, HOK.out]
        exact St.ret2 (cs := [.bool false, .slice none 0 0, .slice none 0 0, .slice none 0 0]) (F := []) (St.noRoom (by (repeat (first | (with_reducible exact HS2.out) | (with_reducible apply St.alloc) | (with_reducible apply St.set0) | (with_reducible apply St.set1) | (with_reducible apply St.set2) | (with_reducible apply St.set3) | (with_reducible apply St.drew))); all_goals (try (first | rfl | (simp; done))))) rfl
    · have hn2 : idxP (idIs id) r.members < 0 := by omega
      have HOK := hide (show chOk r (giveF n id u a) = false by simp [chOk, giveF, hasId, hn])
      clear hn
      go_enter Try.func19, Try.ntmps19
      go_wp2_with (first
        | (go_at_call 51
           refine (l02Above_c r _ _ n id 7 a _ (Blk.rowAt (d := roomD) (x := r) HS0.out.at1 (room_K_mk (H1.out.below HS0.out.below) (H2.out.below HS0.out.below) (H3.out.below HS0.out.below)) rfl)).mono ?_
           rintro e w1 ⟨rfl, hb⟩
           rw [HA.out]
           have HS1 := hide (HS0.out.by hb)
           (try clear x1_0 x1_1 x1_2 x1_3 xf1 xz1)
           obtain ⟨x1_0, x1_1, x1_2, x1_3⟩ := HS1.out.at0.c4
           have xf1 := HS1.out.at0.frozen
           have xz1 := HS1.out.at0.lt
           clear hb)
        | (go_at_call 52
           refine (l02Find_c r _ _ id _ (Blk.rowAt (d := roomD) (x := r) HS1.out.at1 (room_K_mk (H1.out.below HS1.out.below) (H2.out.below HS1.out.below) (H3.out.below HS1.out.below)) rfl)).mono ?_
           rintro e w2 ⟨rfl, hb⟩
           skip
           have HS2 := hide (HS1.out.by hb)
           (try clear x1_0 x1_1 x1_2 x1_3 xf1 xz1)
           obtain ⟨x1_0, x1_1, x1_2, x1_3⟩ := HS2.out.at0.c4
           have xf1 := HS2.out.at0.frozen
           have xz1 := HS2.out.at0.lt
           clear hb))
      refine bodyPost_ret (v := .tuple #[.agg #[.bool false, .slice none 0 0, .slice none 0 0, .slice none 0 0], .bool false]) (by simp [results, Try.results19, go_sem, x1_0, x1_1, x1_2, x1_3, xf1, xz1]) rfl ?_
      rw [chR_no HOK.out, HOK.out]
      exact St.ret2 (cs := [.bool false, .slice none 0 0, .slice none 0 0, .slice none 0 0]) (F := []) (St.noRoom (by (repeat (first | (with_reducible exact HS2.out) | (with_reducible apply St.alloc) | (with_reducible apply St.set0) | (with_reducible apply St.set1) | (with_reducible apply St.set2) | (with_reducible apply St.set3) | (with_reducible apply St.drew))); all_goals (try (first | rfl | (simp; done))))) rfl
  · have HA := hide (show aboveB r n id 7 a = false by simpa using ha)
    have HOK := hide (show chOk r (giveF n id u a) = false by
      have h := HA.out
      unfold aboveB at h
      rw [Bool.and_eq_false_iff] at h
      rcases h with h | h <;> simp [chOk, giveF, h])
    clear ha
    go_enter Try.func19, Try.ntmps19
    go_wp2_with (
      (go_at_call 51
       refine (l02Above_c r _ _ n id 7 a _ (Blk.rowAt (d := roomD) (x := r) HS0.out.at1 (room_K_mk (H1.out.below HS0.out.below) (H2.out.below HS0.out.below) (H3.out.below HS0.out.below)) rfl)).mono ?_
       rintro e w1 ⟨rfl, hb⟩
       rw [HA.out]
       have HS1 := hide (HS0.out.by hb)
       (try clear x1_0 x1_1 x1_2 x1_3 xf1 xz1)
       obtain ⟨x1_0, x1_1, x1_2, x1_3⟩ := HS1.out.at0.c4
       have xf1 := HS1.out.at0.frozen
       have xz1 := HS1.out.at0.lt
       clear hb))
    refine bodyPost_ret (v := .tuple #[.agg #[.bool false, .slice none 0 0, .slice none 0 0, .slice none 0 0], .bool false]) (by simp [results, Try.results19, go_sem, x1_0, x1_1, x1_2, x1_3, xf1, xz1]) rfl ?_
    rw [chR_no HOK.out, HOK.out]
    exact St.ret2 (cs := [.bool false, .slice none 0 0, .slice none 0 0, .slice none 0 0]) (F := []) (St.noRoom (by (repeat (first | (with_reducible exact HS1.out) | (with_reducible apply St.alloc) | (with_reducible apply St.set0) | (with_reducible apply St.set1) | (with_reducible apply St.set2) | (with_reducible apply St.set3) | (with_reducible apply St.drew))); all_goals (try (first | rfl | (simp; done))))) rfl
end Go.Proofs.Ytccgjnanphonnaa
