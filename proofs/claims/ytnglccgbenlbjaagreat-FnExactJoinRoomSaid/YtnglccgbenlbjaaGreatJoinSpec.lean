/- Somebody joins: the reference. -/
import Derived.Test.YtnglccgbenlbjaaGreatJoin2
import Derived.Test.YtnglccgbenlbjaaGreatAdd
import Derived.Test.YtnglccgbenlbjaaGreatGive
import Derived.Test.YtnglccgbenlbjaaGreatSpecRoom
namespace Go.Proofs.YtnglccgbenlbjaaGreat
open Go Go.RowKit Go.BigFrame
set_option linter.unusedVariables false
set_option linter.unusedSimpArgs false
theorem inv_at {r : Room} (hv : validRoomB r = true) {n a : Int} {k : Nat} {v : Invite} (hk : idxP (invIs n) r.invites = (k : Int)) (hx : r.invites[k]? = some v) (hi : v.id = n) : invitedB r n a = decide (a ≤ v.until_) := by
  have hV := valid_iff.1 hv
  unfold invitedB
  rw [decide_eq_decide]
  constructor
  · intro h
    obtain ⟨j, u, _, _, hu, hp⟩ := idxP_found h
    simp only [Bool.and_eq_true, decide_eq_true_eq] at hp
    have : u = v := by
      obtain ⟨h1, rfl⟩ := List.getElem?_eq_some_iff.1 hu
      obtain ⟨h2, rfl⟩ := List.getElem?_eq_some_iff.1 hx
      have hpw := List.pairwise_iff_getElem.1 hV.ip
      rcases Nat.lt_trichotomy j k with h3 | h3 | h3
      · have := hpw j k h1 h2 h3; omega
      · subst h3; rfl
      · have := hpw k j h2 h1 h3; omega
    rw [← this]; exact hp.2
  · intro h
    rcases idxP_cases (fun v : Invite => decide (v.id = n) && decide (a ≤ v.until_)) r.invites with h1 | ⟨j, u, h1, _⟩
    · exfalso
      unfold idxP at h1
      rcases hf : r.invites.findIdx? (fun v : Invite => decide (v.id = n) && decide (a ≤ v.until_)) with _ | j
      · rw [List.findIdx?_eq_none_iff] at hf
        have := hf v (List.mem_of_getElem? hx)
        simp [hi, h] at this
      · rw [hf] at h1; simp at h1 <;> omega
    · omega
theorem inv_none {r : Room} {n a : Int} (h : idxP (invIs n) r.invites < 0) : invitedB r n a = false := by
  unfold invitedB
  rw [decide_eq_false_iff_not]
  intro h2
  obtain ⟨j, u, _, _, hu, hp⟩ := idxP_found h2
  simp only [Bool.and_eq_true, decide_eq_true_eq] at hp
  have h3 : invd r n = true := invd_true.2 ⟨u, List.mem_of_getElem? hu, hp.1⟩
  unfold invd at h3
  have := of_decide_eq_true h3
  omega
theorem join_bad {r : Room} {id a : Int} (h : inB id 1 1000 = false ∨ inB a 0 1000000 = false) : chOk r (joinF id a) = false := by
  have : validRoomB (joinF id a r).1 = false := by
    rw [Bool.eq_false_iff]; intro hv
    have := (valid_iff.1 hv).mok (newM id a) ((insK_mem _ _).2 (.inl rfl))
    simp only [memOkB, newM, Bool.and_eq_true] at this
    rcases h with h | h
    · rw [h] at this; exact absurd this.1.1.1 (by simp)
    · rw [h] at this; exact absurd this.1.2 (by simp)
  simp [chOk, this]
set_option maxHeartbeats 4000000 in
set_option maxRecDepth 100000 in
theorem specJoinRoom_c (r : Room) (id : Int) (a : Int) (v1 v2 v3 : Value) (w : World) (h1 : SliceK memberD w v1 r.members) (h2 : SliceK inviteD w v2 r.invites) (h3 : SliceK banD w v3 r.bans) :
    Calls Tryz.prog 7 #[.agg #[.bool r.open_, v1, v2, v3], .int .i64 id, .int .i64 a] w (RetElem2 roomD w (joinV r id a) (joinOk r id a)) := by
  show Calls Tryz.prog 7 #[.agg #[.bool r.open_, v1, v2, v3], .int .i64 id, .int .i64 a] w (RetElem2 roomD w (chR r (joinF id a)) (chOk r (joinF id a)))
  obtain ⟨A1, c1, rfl⟩ := h1.shape
  obtain ⟨A2, c2, rfl⟩ := h2.shape
  obtain ⟨A3, c3, rfl⟩ := h3.shape
  have H1 := hide h1
  have H2 := hide h2
  have H3 := hide h3
  clear h1 h2 h3
  have HS0 := hide (show St w ((w.alloc (.cells #[.bool r.open_, .slice A1 r.members.length c1, .slice A2 r.invites.length c2, .slice A3 r.bans.length c3] 32)).alloc (.cells #[.bool false, .slice none 0 0, .slice none 0 0, .slice none 0 0] 32)) [blk (w.heap.size + 1) #[.bool false, .slice none 0 0, .slice none 0 0, .slice none 0 0] 32, blk w.heap.size #[.bool r.open_, .slice A1 r.members.length c1, .slice A2 r.invites.length c2, .slice A3 r.bans.length c3] 32] from (((St.start w).alloc rfl).alloc (by simp)))
  by_cases hv : validRoomB r = true
  · have HV := hide hv
    have HFEW := hide (fewR_of hv)
    have h40 := (fewR_of hv).1
    have h41 := (fewR_of hv).2.1
    clear hv
    by_cases hi : inB id 1 1000 = true
    · have HI := hide hi
      clear hi
      by_cases ht : inB a 0 1000000 = true
      · have HT := hide ht
        clear ht
        by_cases hh : hasId r id = false
        · have HH := hide hh
          have hf0 : decide (0 ≤ idxP (idIs id) r.members) = false := hh
          clear hh
          by_cases hb : bannB r id = false
          · have HBN := hide hb
            have hf1 : decide (0 ≤ idxP (banIs id) r.bans) = false := hb
            clear hb
            by_cases hop : r.open_ = true
            · have HOP := hide (show (r.open_ || invitedB r id a) = true by simp [hop])
              have hno : (!r.open_) = false := by simp [hop]
              clear hop
              by_cases hv2 : validRoomB ({ r with members := (insK Member.id (newM id a) r.members), invites := (dropP (invIs id) r.invites) }) = true
              · have HV2 := hide hv2
                have HOK := hide (show chOk r (joinF id a) = true by simp only [chOk, joinF]; rw [HV2.out, HV.out, HH.out, HBN.out, HOP.out]; rfl)
                clear hv2
                go_enter Tryz.func7, Tryz.ntmps7
                go_wp2_with (first
                  | (go_at_call 20
                     refine (l02Is_c r _ _ _ (Blk.rowAt (d := roomD) (x := r) HS0.out.at1 (room_K_mk (H1.out.below HS0.out.below) (H2.out.below HS0.out.below) (H3.out.below HS0.out.below)) rfl)).mono ?_
                     rintro e w1 ⟨rfl, hb⟩
                     rw [HV.out]
                     have HS1 := hide (HS0.out.by hb)
                     (try clear x1_0 x1_1 x1_2 x1_3 xf1 xz1)
                     obtain ⟨x1_0, x1_1, x1_2, x1_3⟩ := HS1.out.at0.c4
                     have xf1 := HS1.out.at0.frozen
                     have xz1 := HS1.out.at0.lt
                     (try clear y2_0 y2_1 y2_2 y2_3 yz2)
                     obtain ⟨y2_0, y2_1, y2_2, y2_3⟩ := HS1.out.at1.c4
                     have yz2 := HS1.out.at1.lt
                     clear hb)
                  | (go_at_call 21; refine (l02Id_c _ _).mono ?_; rintro e w' ⟨rfl, rfl⟩; rw [HI.out])
                  | (go_at_call 22; refine (l02Tick_c _ _).mono ?_; rintro e w' ⟨rfl, rfl⟩; rw [HT.out])
                  | (go_at_call 23
                     refine (l02Find_c r _ _ id _ (Blk.rowAt (d := roomD) (x := r) HS1.out.at1 (room_K_mk (H1.out.below HS1.out.below) (H2.out.below HS1.out.below) (H3.out.below HS1.out.below)) rfl)).mono ?_
                     rintro e w2 ⟨rfl, hb⟩
                     skip
                     have HS2 := hide (HS1.out.by hb)
                     (try clear x1_0 x1_1 x1_2 x1_3 xf1 xz1)
                     obtain ⟨x1_0, x1_1, x1_2, x1_3⟩ := HS2.out.at0.c4
                     have xf1 := HS2.out.at0.frozen
                     have xz1 := HS2.out.at0.lt
                     (try clear y2_0 y2_1 y2_2 y2_3 yz2)
                     obtain ⟨y2_0, y2_1, y2_2, y2_3⟩ := HS2.out.at1.c4
                     have yz2 := HS2.out.at1.lt
                     clear hb)
                  | (go_at_call 24
                     refine (l02Banned_c r _ _ id _ (Blk.rowAt (d := roomD) (x := r) HS2.out.at1 (room_K_mk (H1.out.below HS2.out.below) (H2.out.below HS2.out.below) (H3.out.below HS2.out.below)) rfl)).mono ?_
                     rintro e w2b ⟨rfl, hb⟩
                     skip
                     have HS2b := hide (HS2.out.by hb)
                     (try clear x1_0 x1_1 x1_2 x1_3 xf1 xz1)
                     obtain ⟨x1_0, x1_1, x1_2, x1_3⟩ := HS2b.out.at0.c4
                     have xf1 := HS2b.out.at0.frozen
                     have xz1 := HS2b.out.at0.lt
                     (try clear y2_0 y2_1 y2_2 y2_3 yz2)
                     obtain ⟨y2_0, y2_1, y2_2, y2_3⟩ := HS2b.out.at1.c4
                     have yz2 := HS2b.out.at1.lt
                     clear hb)
                  | (go_at_call 25
                     refine (l02Invited_c r _ _ id _ (Blk.rowAt (d := roomD) (x := r) HS2b.out.at1 (room_K_mk (H1.out.below HS2b.out.below) (H2.out.below HS2b.out.below) (H3.out.below HS2b.out.below)) rfl)).mono ?_
                     rintro e w2c ⟨rfl, hb⟩
                     skip
                     have HS2c := hide (HS2b.out.by hb)
                     (try clear x1_0 x1_1 x1_2 x1_3 xf1 xz1)
                     obtain ⟨x1_0, x1_1, x1_2, x1_3⟩ := HS2c.out.at0.c4
                     have xf1 := HS2c.out.at0.frozen
                     have xz1 := HS2c.out.at0.lt
                     (try clear y2_0 y2_1 y2_2 y2_3 yz2)
                     obtain ⟨y2_0, y2_1, y2_2, y2_3⟩ := HS2c.out.at1.c4
                     have yz2 := HS2c.out.at1.lt
                     clear hb)
                  | (go_at_call 26
                     refine (l02Copy_c r _ _ _ (Blk.rowAt (d := roomD) (x := r) HS2c.out.at1 (room_K_mk (H1.out.below HS2c.out.below) (H2.out.below HS2c.out.below) (H3.out.below HS2c.out.below)) rfl) HFEW.out).mono ?_
                     rintro e w3 he
                     obtain ⟨cs9, F9, rfl, hK, hb, hS⟩ := HS2c.out.elem he
                     obtain ⟨u1, u2, u3, rfl, k1, k2, k3⟩ := room_K hK
                     obtain ⟨B1, e1, rfl⟩ := k1.shape
                     obtain ⟨B2, e2, rfl⟩ := k2.shape
                     obtain ⟨B3, e3, rfl⟩ := k3.shape
                     obtain ⟨F1, F2, F3, hP⟩ := hS.roomParts
                     have HPP := hide hP
                     have xz1 := hS.at1.lt
                     obtain ⟨y3_0, y3_1, y3_2, y3_3⟩ := (St.at3 hP.drop).c4
                     have yz3 := (St.at3 hP.drop).lt
                     (try clear x1_0 x1_1 x1_2 x1_3 xf1)
                     clear hK k1 k2 k3 hb hS he hP)
                  | (go_at_call 27
                     refine (l02Without_c r.invites _ id _ (H2.out.below (St.below (w0 := w) (L := blk w3.heap.size #[.bool r.open_, .slice B1 r.members.length e1, .slice B2 r.invites.length e2, .slice B3 r.bans.length e3] 32 :: _) (by (repeat (first | (with_reducible exact HPP.out) | (with_reducible apply St.alloc) | (with_reducible apply St.set0) | (with_reducible apply St.set1) | (with_reducible apply St.set2) | (with_reducible apply St.set3) | (with_reducible apply St.drew) | (with_reducible apply St.drewN))); all_goals (try (first | rfl | (simp; done)))))) (by omega)).mono ?_
                     rintro e w4 ⟨v4, rfl, hM, hb⟩
                     obtain ⟨A4, c4, rfl⟩ := hM.shape
                     obtain ⟨F4, hS⟩ := (show St w _ (blk w3.heap.size #[.bool r.open_, .slice B1 r.members.length e1, .slice B2 r.invites.length e2, .slice B3 r.bans.length e3] 32 :: _) by (repeat (first | (with_reducible exact HPP.out) | (with_reducible apply St.alloc) | (with_reducible apply St.set0) | (with_reducible apply St.set1) | (with_reducible apply St.set2) | (with_reducible apply St.set3) | (with_reducible apply St.drew) | (with_reducible apply St.drewN))); all_goals (try (first | rfl | (simp; done)))).made hM hb
                     have HS4 := hide (St.drop3 hS)
                     obtain ⟨x4_0, x4_1, x4_2, x4_3⟩ := hS.at1.c4
                     have xf4 := hS.at1.frozen
                     have xz4 := hS.at1.lt
                     obtain ⟨y4_0, y4_1, y4_2, y4_3⟩ := (St.at3 hS.drop.drop.drop).c4
                     have yz4 := (St.at3 hS.drop.drop.drop).lt
                     clear hM hb hS)
                  | (go_at_call 28
                     refine (l02Add_c r.members _ (newM id a) _ (H1.out.below (St.below (w0 := w) (L := own inviteD 49 (.slice A4 (dropP (invIs id) r.invites).length c4) (dropP (invIs id) r.invites) F4 :: blk w3.heap.size #[.bool r.open_, .slice B1 r.members.length e1, .slice A4 (dropP (invIs id) r.invites).length c4, .slice B3 r.bans.length e3] 32 :: own memberD 54 (.slice B1 r.members.length e1) r.members F1 :: own banD 73 (.slice B3 r.bans.length e3) r.bans F3 :: blk (w.heap.size + 1) #[.bool false, .slice none 0 0, .slice none 0 0, .slice none 0 0] 32 :: blk w.heap.size #[.bool r.open_, .slice A1 r.members.length c1, .slice A2 r.invites.length c2, .slice A3 r.bans.length c3] 32 :: []) (by (repeat (first | (with_reducible exact HS4.out) | (with_reducible apply St.alloc) | (with_reducible apply St.set0) | (with_reducible apply St.set1) | (with_reducible apply St.set2) | (with_reducible apply St.set3) | (with_reducible apply St.drew) | (with_reducible apply St.drewN))); all_goals (try (first | rfl | (simp; done)))))) (by omega)).mono ?_
                     rintro e w5 ⟨v5, rfl, hM, hb⟩
                     obtain ⟨A5, c5, rfl⟩ := hM.shape
                     obtain ⟨F5, hS⟩ := (show St w _ (own inviteD 49 (.slice A4 (dropP (invIs id) r.invites).length c4) (dropP (invIs id) r.invites) F4 :: blk w3.heap.size #[.bool r.open_, .slice B1 r.members.length e1, .slice A4 (dropP (invIs id) r.invites).length c4, .slice B3 r.bans.length e3] 32 :: own memberD 54 (.slice B1 r.members.length e1) r.members F1 :: own banD 73 (.slice B3 r.bans.length e3) r.bans F3 :: blk (w.heap.size + 1) #[.bool false, .slice none 0 0, .slice none 0 0, .slice none 0 0] 32 :: blk w.heap.size #[.bool r.open_, .slice A1 r.members.length c1, .slice A2 r.invites.length c2, .slice A3 r.bans.length c3] 32 :: []) by (repeat (first | (with_reducible exact HS4.out) | (with_reducible apply St.alloc) | (with_reducible apply St.set0) | (with_reducible apply St.set1) | (with_reducible apply St.set2) | (with_reducible apply St.set3) | (with_reducible apply St.drew) | (with_reducible apply St.drewN))); all_goals (try (first | rfl | (simp; done)))).made hM hb
                     have HS5 := hide (St.drop3 hS)
                     obtain ⟨x5_0, x5_1, x5_2, x5_3⟩ := hS.at2.c4
                     have xf5 := hS.at2.frozen
                     have xz5 := hS.at2.lt
                     clear hM hb hS)
                  | (go_at_call 29
                     refine (l02Give_yes ({ r with members := (insK Member.id (newM id a) r.members), invites := (dropP (invIs id) r.invites) }) _ _ _ _ _ _ _ _ _ _ (St.drop2 (show St w _ (own memberD 54 (.slice A5 (insK Member.id (newM id a) r.members).length c5) (insK Member.id (newM id a) r.members) F5 :: own inviteD 49 (.slice A4 (dropP (invIs id) r.invites).length c4) (dropP (invIs id) r.invites) F4 :: blk w3.heap.size #[.bool r.open_, .slice A5 (insK Member.id (newM id a) r.members).length c5, .slice A4 (dropP (invIs id) r.invites).length c4, .slice B3 r.bans.length e3] 32 :: own banD 73 (.slice B3 r.bans.length e3) r.bans F3 :: blk (w.heap.size + 1) #[.bool false, .slice none 0 0, .slice none 0 0, .slice none 0 0] 32 :: blk w.heap.size #[.bool r.open_, .slice A1 r.members.length c1, .slice A2 r.invites.length c2, .slice A3 r.bans.length c3] 32 :: []) from by (repeat (first | (with_reducible exact HS5.out) | (with_reducible apply St.alloc) | (with_reducible apply St.set0) | (with_reducible apply St.set1) | (with_reducible apply St.set2) | (with_reducible apply St.set3) | (with_reducible apply St.drew) | (with_reducible apply St.drewN))); all_goals (try (first | rfl | (simp; done))))).toK (St.toK (St.drop2 (show St w _ (own memberD 54 (.slice A5 (insK Member.id (newM id a) r.members).length c5) (insK Member.id (newM id a) r.members) F5 :: own inviteD 49 (.slice A4 (dropP (invIs id) r.invites).length c4) (dropP (invIs id) r.invites) F4 :: blk w3.heap.size #[.bool r.open_, .slice A5 (insK Member.id (newM id a) r.members).length c5, .slice A4 (dropP (invIs id) r.invites).length c4, .slice B3 r.bans.length e3] 32 :: own banD 73 (.slice B3 r.bans.length e3) r.bans F3 :: blk (w.heap.size + 1) #[.bool false, .slice none 0 0, .slice none 0 0, .slice none 0 0] 32 :: blk w.heap.size #[.bool r.open_, .slice A1 r.members.length c1, .slice A2 r.invites.length c2, .slice A3 r.bans.length c3] 32 :: []) from by (repeat (first | (with_reducible exact HS5.out) | (with_reducible apply St.alloc) | (with_reducible apply St.set0) | (with_reducible apply St.set1) | (with_reducible apply St.set2) | (with_reducible apply St.set3) | (with_reducible apply St.drew) | (with_reducible apply St.drewN))); all_goals (try (first | rfl | (simp; done))))).pull1) (St.toK (St.drop2 (show St w _ (own memberD 54 (.slice A5 (insK Member.id (newM id a) r.members).length c5) (insK Member.id (newM id a) r.members) F5 :: own inviteD 49 (.slice A4 (dropP (invIs id) r.invites).length c4) (dropP (invIs id) r.invites) F4 :: blk w3.heap.size #[.bool r.open_, .slice A5 (insK Member.id (newM id a) r.members).length c5, .slice A4 (dropP (invIs id) r.invites).length c4, .slice B3 r.bans.length e3] 32 :: own banD 73 (.slice B3 r.bans.length e3) r.bans F3 :: blk (w.heap.size + 1) #[.bool false, .slice none 0 0, .slice none 0 0, .slice none 0 0] 32 :: blk w.heap.size #[.bool r.open_, .slice A1 r.members.length c1, .slice A2 r.invites.length c2, .slice A3 r.bans.length c3] 32 :: []) from by (repeat (first | (with_reducible exact HS5.out) | (with_reducible apply St.alloc) | (with_reducible apply St.set0) | (with_reducible apply St.set1) | (with_reducible apply St.set2) | (with_reducible apply St.set3) | (with_reducible apply St.drew) | (with_reducible apply St.drewN))); all_goals (try (first | rfl | (simp; done))))).pull2) HV2.out).mono ?_
                     rintro e w6 ⟨rfl, hb⟩
                     have HS7 := hide (St.by (St.drop2 (show St w _ (own memberD 54 (.slice A5 (insK Member.id (newM id a) r.members).length c5) (insK Member.id (newM id a) r.members) F5 :: own inviteD 49 (.slice A4 (dropP (invIs id) r.invites).length c4) (dropP (invIs id) r.invites) F4 :: blk w3.heap.size #[.bool r.open_, .slice A5 (insK Member.id (newM id a) r.members).length c5, .slice A4 (dropP (invIs id) r.invites).length c4, .slice B3 r.bans.length e3] 32 :: own banD 73 (.slice B3 r.bans.length e3) r.bans F3 :: blk (w.heap.size + 1) #[.bool false, .slice none 0 0, .slice none 0 0, .slice none 0 0] 32 :: blk w.heap.size #[.bool r.open_, .slice A1 r.members.length c1, .slice A2 r.invites.length c2, .slice A3 r.bans.length c3] 32 :: []) from by (repeat (first | (with_reducible exact HS5.out) | (with_reducible apply St.alloc) | (with_reducible apply St.set0) | (with_reducible apply St.set1) | (with_reducible apply St.set2) | (with_reducible apply St.set3) | (with_reducible apply St.drew) | (with_reducible apply St.drewN))); all_goals (try (first | rfl | (simp; done))))) hb)
                     (try clear x1_0 x1_1 x1_2 x1_3 xf1)
                     obtain ⟨x1_0, x1_1, x1_2, x1_3⟩ := (St.at3 HS7.out).c4
                     have xf1 := (St.at3 HS7.out).frozen
                     have xz6 := (St.at3 HS7.out).lt
                     clear hb))
                refine bodyPost_ret (v := .tuple #[.agg #[.bool r.open_, .slice A5 (insK Member.id (newM id a) r.members).length c5, .slice A4 (dropP (invIs id) r.invites).length c4, .slice B3 r.bans.length e3], .bool true]) (by simp [results, Tryz.results7, go_sem, x1_0, x1_1, x1_2, x1_3, xf1, xz6]) rfl ?_
                rw [show chR r (joinF id a) = ({ r with members := (insK Member.id (newM id a) r.members), invites := (dropP (invIs id) r.invites) }) from chR_yes HOK.out, HOK.out]
                exact St.ret2 (cs := [.bool r.open_, .slice A5 (insK Member.id (newM id a) r.members).length c5, .slice A4 (dropP (invIs id) r.invites).length c4, .slice B3 r.bans.length e3]) (F := F5 ++ (F4 ++ F3)) (St.room2 (x := { r with members := (insK Member.id (newM id a) r.members), invites := (dropP (invIs id) r.invites) }) (by (repeat (first | (with_reducible exact HS7.out) | (with_reducible apply St.alloc) | (with_reducible apply St.set0) | (with_reducible apply St.set1) | (with_reducible apply St.set2) | (with_reducible apply St.set3) | (with_reducible apply St.drew) | (with_reducible apply St.drewN))); all_goals (try (first | rfl | (simp; done))))) rfl
              · have HV2 := hide (show validRoomB ({ r with members := (insK Member.id (newM id a) r.members), invites := (dropP (invIs id) r.invites) }) = false by simpa using hv2)
                have HOK := hide (show chOk r (joinF id a) = false by simp only [chOk, joinF]; rw [HV2.out]; simp)
                clear hv2
                go_enter Tryz.func7, Tryz.ntmps7
                go_wp2_with (first
                  | (go_at_call 20
                     refine (l02Is_c r _ _ _ (Blk.rowAt (d := roomD) (x := r) HS0.out.at1 (room_K_mk (H1.out.below HS0.out.below) (H2.out.below HS0.out.below) (H3.out.below HS0.out.below)) rfl)).mono ?_
                     rintro e w1 ⟨rfl, hb⟩
                     rw [HV.out]
                     have HS1 := hide (HS0.out.by hb)
                     (try clear x1_0 x1_1 x1_2 x1_3 xf1 xz1)
                     obtain ⟨x1_0, x1_1, x1_2, x1_3⟩ := HS1.out.at0.c4
                     have xf1 := HS1.out.at0.frozen
                     have xz1 := HS1.out.at0.lt
                     (try clear y2_0 y2_1 y2_2 y2_3 yz2)
                     obtain ⟨y2_0, y2_1, y2_2, y2_3⟩ := HS1.out.at1.c4
                     have yz2 := HS1.out.at1.lt
                     clear hb)
                  | (go_at_call 21; refine (l02Id_c _ _).mono ?_; rintro e w' ⟨rfl, rfl⟩; rw [HI.out])
                  | (go_at_call 22; refine (l02Tick_c _ _).mono ?_; rintro e w' ⟨rfl, rfl⟩; rw [HT.out])
                  | (go_at_call 23
                     refine (l02Find_c r _ _ id _ (Blk.rowAt (d := roomD) (x := r) HS1.out.at1 (room_K_mk (H1.out.below HS1.out.below) (H2.out.below HS1.out.below) (H3.out.below HS1.out.below)) rfl)).mono ?_
                     rintro e w2 ⟨rfl, hb⟩
                     skip
                     have HS2 := hide (HS1.out.by hb)
                     (try clear x1_0 x1_1 x1_2 x1_3 xf1 xz1)
                     obtain ⟨x1_0, x1_1, x1_2, x1_3⟩ := HS2.out.at0.c4
                     have xf1 := HS2.out.at0.frozen
                     have xz1 := HS2.out.at0.lt
                     (try clear y2_0 y2_1 y2_2 y2_3 yz2)
                     obtain ⟨y2_0, y2_1, y2_2, y2_3⟩ := HS2.out.at1.c4
                     have yz2 := HS2.out.at1.lt
                     clear hb)
                  | (go_at_call 24
                     refine (l02Banned_c r _ _ id _ (Blk.rowAt (d := roomD) (x := r) HS2.out.at1 (room_K_mk (H1.out.below HS2.out.below) (H2.out.below HS2.out.below) (H3.out.below HS2.out.below)) rfl)).mono ?_
                     rintro e w2b ⟨rfl, hb⟩
                     skip
                     have HS2b := hide (HS2.out.by hb)
                     (try clear x1_0 x1_1 x1_2 x1_3 xf1 xz1)
                     obtain ⟨x1_0, x1_1, x1_2, x1_3⟩ := HS2b.out.at0.c4
                     have xf1 := HS2b.out.at0.frozen
                     have xz1 := HS2b.out.at0.lt
                     (try clear y2_0 y2_1 y2_2 y2_3 yz2)
                     obtain ⟨y2_0, y2_1, y2_2, y2_3⟩ := HS2b.out.at1.c4
                     have yz2 := HS2b.out.at1.lt
                     clear hb)
                  | (go_at_call 25
                     refine (l02Invited_c r _ _ id _ (Blk.rowAt (d := roomD) (x := r) HS2b.out.at1 (room_K_mk (H1.out.below HS2b.out.below) (H2.out.below HS2b.out.below) (H3.out.below HS2b.out.below)) rfl)).mono ?_
                     rintro e w2c ⟨rfl, hb⟩
                     skip
                     have HS2c := hide (HS2b.out.by hb)
                     (try clear x1_0 x1_1 x1_2 x1_3 xf1 xz1)
                     obtain ⟨x1_0, x1_1, x1_2, x1_3⟩ := HS2c.out.at0.c4
                     have xf1 := HS2c.out.at0.frozen
                     have xz1 := HS2c.out.at0.lt
                     (try clear y2_0 y2_1 y2_2 y2_3 yz2)
                     obtain ⟨y2_0, y2_1, y2_2, y2_3⟩ := HS2c.out.at1.c4
                     have yz2 := HS2c.out.at1.lt
                     clear hb)
                  | (go_at_call 26
                     refine (l02Copy_c r _ _ _ (Blk.rowAt (d := roomD) (x := r) HS2c.out.at1 (room_K_mk (H1.out.below HS2c.out.below) (H2.out.below HS2c.out.below) (H3.out.below HS2c.out.below)) rfl) HFEW.out).mono ?_
                     rintro e w3 he
                     obtain ⟨cs9, F9, rfl, hK, hb, hS⟩ := HS2c.out.elem he
                     obtain ⟨u1, u2, u3, rfl, k1, k2, k3⟩ := room_K hK
                     obtain ⟨B1, e1, rfl⟩ := k1.shape
                     obtain ⟨B2, e2, rfl⟩ := k2.shape
                     obtain ⟨B3, e3, rfl⟩ := k3.shape
                     obtain ⟨F1, F2, F3, hP⟩ := hS.roomParts
                     have HPP := hide hP
                     have xz1 := hS.at1.lt
                     obtain ⟨y3_0, y3_1, y3_2, y3_3⟩ := (St.at3 hP.drop).c4
                     have yz3 := (St.at3 hP.drop).lt
                     (try clear x1_0 x1_1 x1_2 x1_3 xf1)
                     clear hK k1 k2 k3 hb hS he hP)
                  | (go_at_call 27
                     refine (l02Without_c r.invites _ id _ (H2.out.below (St.below (w0 := w) (L := blk w3.heap.size #[.bool r.open_, .slice B1 r.members.length e1, .slice B2 r.invites.length e2, .slice B3 r.bans.length e3] 32 :: _) (by (repeat (first | (with_reducible exact HPP.out) | (with_reducible apply St.alloc) | (with_reducible apply St.set0) | (with_reducible apply St.set1) | (with_reducible apply St.set2) | (with_reducible apply St.set3) | (with_reducible apply St.drew) | (with_reducible apply St.drewN))); all_goals (try (first | rfl | (simp; done)))))) (by omega)).mono ?_
                     rintro e w4 ⟨v4, rfl, hM, hb⟩
                     obtain ⟨A4, c4, rfl⟩ := hM.shape
                     obtain ⟨F4, hS⟩ := (show St w _ (blk w3.heap.size #[.bool r.open_, .slice B1 r.members.length e1, .slice B2 r.invites.length e2, .slice B3 r.bans.length e3] 32 :: _) by (repeat (first | (with_reducible exact HPP.out) | (with_reducible apply St.alloc) | (with_reducible apply St.set0) | (with_reducible apply St.set1) | (with_reducible apply St.set2) | (with_reducible apply St.set3) | (with_reducible apply St.drew) | (with_reducible apply St.drewN))); all_goals (try (first | rfl | (simp; done)))).made hM hb
                     have HS4 := hide (St.drop3 hS)
                     obtain ⟨x4_0, x4_1, x4_2, x4_3⟩ := hS.at1.c4
                     have xf4 := hS.at1.frozen
                     have xz4 := hS.at1.lt
                     obtain ⟨y4_0, y4_1, y4_2, y4_3⟩ := (St.at3 hS.drop.drop.drop).c4
                     have yz4 := (St.at3 hS.drop.drop.drop).lt
                     clear hM hb hS)
                  | (go_at_call 28
                     refine (l02Add_c r.members _ (newM id a) _ (H1.out.below (St.below (w0 := w) (L := own inviteD 49 (.slice A4 (dropP (invIs id) r.invites).length c4) (dropP (invIs id) r.invites) F4 :: blk w3.heap.size #[.bool r.open_, .slice B1 r.members.length e1, .slice A4 (dropP (invIs id) r.invites).length c4, .slice B3 r.bans.length e3] 32 :: own memberD 54 (.slice B1 r.members.length e1) r.members F1 :: own banD 73 (.slice B3 r.bans.length e3) r.bans F3 :: blk (w.heap.size + 1) #[.bool false, .slice none 0 0, .slice none 0 0, .slice none 0 0] 32 :: blk w.heap.size #[.bool r.open_, .slice A1 r.members.length c1, .slice A2 r.invites.length c2, .slice A3 r.bans.length c3] 32 :: []) (by (repeat (first | (with_reducible exact HS4.out) | (with_reducible apply St.alloc) | (with_reducible apply St.set0) | (with_reducible apply St.set1) | (with_reducible apply St.set2) | (with_reducible apply St.set3) | (with_reducible apply St.drew) | (with_reducible apply St.drewN))); all_goals (try (first | rfl | (simp; done)))))) (by omega)).mono ?_
                     rintro e w5 ⟨v5, rfl, hM, hb⟩
                     obtain ⟨A5, c5, rfl⟩ := hM.shape
                     obtain ⟨F5, hS⟩ := (show St w _ (own inviteD 49 (.slice A4 (dropP (invIs id) r.invites).length c4) (dropP (invIs id) r.invites) F4 :: blk w3.heap.size #[.bool r.open_, .slice B1 r.members.length e1, .slice A4 (dropP (invIs id) r.invites).length c4, .slice B3 r.bans.length e3] 32 :: own memberD 54 (.slice B1 r.members.length e1) r.members F1 :: own banD 73 (.slice B3 r.bans.length e3) r.bans F3 :: blk (w.heap.size + 1) #[.bool false, .slice none 0 0, .slice none 0 0, .slice none 0 0] 32 :: blk w.heap.size #[.bool r.open_, .slice A1 r.members.length c1, .slice A2 r.invites.length c2, .slice A3 r.bans.length c3] 32 :: []) by (repeat (first | (with_reducible exact HS4.out) | (with_reducible apply St.alloc) | (with_reducible apply St.set0) | (with_reducible apply St.set1) | (with_reducible apply St.set2) | (with_reducible apply St.set3) | (with_reducible apply St.drew) | (with_reducible apply St.drewN))); all_goals (try (first | rfl | (simp; done)))).made hM hb
                     have HS5 := hide (St.drop3 hS)
                     obtain ⟨x5_0, x5_1, x5_2, x5_3⟩ := hS.at2.c4
                     have xf5 := hS.at2.frozen
                     have xz5 := hS.at2.lt
                     clear hM hb hS)
                  | (go_at_call 29
                     refine (l02Give_no ({ r with members := (insK Member.id (newM id a) r.members), invites := (dropP (invIs id) r.invites) }) _ _ _ _ _ _ _ _ _ _ (St.drop2 (show St w _ (own memberD 54 (.slice A5 (insK Member.id (newM id a) r.members).length c5) (insK Member.id (newM id a) r.members) F5 :: own inviteD 49 (.slice A4 (dropP (invIs id) r.invites).length c4) (dropP (invIs id) r.invites) F4 :: blk w3.heap.size #[.bool r.open_, .slice A5 (insK Member.id (newM id a) r.members).length c5, .slice A4 (dropP (invIs id) r.invites).length c4, .slice B3 r.bans.length e3] 32 :: own banD 73 (.slice B3 r.bans.length e3) r.bans F3 :: blk (w.heap.size + 1) #[.bool false, .slice none 0 0, .slice none 0 0, .slice none 0 0] 32 :: blk w.heap.size #[.bool r.open_, .slice A1 r.members.length c1, .slice A2 r.invites.length c2, .slice A3 r.bans.length c3] 32 :: []) from by (repeat (first | (with_reducible exact HS5.out) | (with_reducible apply St.alloc) | (with_reducible apply St.set0) | (with_reducible apply St.set1) | (with_reducible apply St.set2) | (with_reducible apply St.set3) | (with_reducible apply St.drew) | (with_reducible apply St.drewN))); all_goals (try (first | rfl | (simp; done))))).toK (St.toK (St.drop2 (show St w _ (own memberD 54 (.slice A5 (insK Member.id (newM id a) r.members).length c5) (insK Member.id (newM id a) r.members) F5 :: own inviteD 49 (.slice A4 (dropP (invIs id) r.invites).length c4) (dropP (invIs id) r.invites) F4 :: blk w3.heap.size #[.bool r.open_, .slice A5 (insK Member.id (newM id a) r.members).length c5, .slice A4 (dropP (invIs id) r.invites).length c4, .slice B3 r.bans.length e3] 32 :: own banD 73 (.slice B3 r.bans.length e3) r.bans F3 :: blk (w.heap.size + 1) #[.bool false, .slice none 0 0, .slice none 0 0, .slice none 0 0] 32 :: blk w.heap.size #[.bool r.open_, .slice A1 r.members.length c1, .slice A2 r.invites.length c2, .slice A3 r.bans.length c3] 32 :: []) from by (repeat (first | (with_reducible exact HS5.out) | (with_reducible apply St.alloc) | (with_reducible apply St.set0) | (with_reducible apply St.set1) | (with_reducible apply St.set2) | (with_reducible apply St.set3) | (with_reducible apply St.drew) | (with_reducible apply St.drewN))); all_goals (try (first | rfl | (simp; done))))).pull1) (St.toK (St.drop2 (show St w _ (own memberD 54 (.slice A5 (insK Member.id (newM id a) r.members).length c5) (insK Member.id (newM id a) r.members) F5 :: own inviteD 49 (.slice A4 (dropP (invIs id) r.invites).length c4) (dropP (invIs id) r.invites) F4 :: blk w3.heap.size #[.bool r.open_, .slice A5 (insK Member.id (newM id a) r.members).length c5, .slice A4 (dropP (invIs id) r.invites).length c4, .slice B3 r.bans.length e3] 32 :: own banD 73 (.slice B3 r.bans.length e3) r.bans F3 :: blk (w.heap.size + 1) #[.bool false, .slice none 0 0, .slice none 0 0, .slice none 0 0] 32 :: blk w.heap.size #[.bool r.open_, .slice A1 r.members.length c1, .slice A2 r.invites.length c2, .slice A3 r.bans.length c3] 32 :: []) from by (repeat (first | (with_reducible exact HS5.out) | (with_reducible apply St.alloc) | (with_reducible apply St.set0) | (with_reducible apply St.set1) | (with_reducible apply St.set2) | (with_reducible apply St.set3) | (with_reducible apply St.drew) | (with_reducible apply St.drewN))); all_goals (try (first | rfl | (simp; done))))).pull2) HV2.out).mono ?_
                     rintro e w6 ⟨rfl, hb⟩
                     have HS7 := hide (St.by (St.drop2 (show St w _ (own memberD 54 (.slice A5 (insK Member.id (newM id a) r.members).length c5) (insK Member.id (newM id a) r.members) F5 :: own inviteD 49 (.slice A4 (dropP (invIs id) r.invites).length c4) (dropP (invIs id) r.invites) F4 :: blk w3.heap.size #[.bool r.open_, .slice A5 (insK Member.id (newM id a) r.members).length c5, .slice A4 (dropP (invIs id) r.invites).length c4, .slice B3 r.bans.length e3] 32 :: own banD 73 (.slice B3 r.bans.length e3) r.bans F3 :: blk (w.heap.size + 1) #[.bool false, .slice none 0 0, .slice none 0 0, .slice none 0 0] 32 :: blk w.heap.size #[.bool r.open_, .slice A1 r.members.length c1, .slice A2 r.invites.length c2, .slice A3 r.bans.length c3] 32 :: []) from by (repeat (first | (with_reducible exact HS5.out) | (with_reducible apply St.alloc) | (with_reducible apply St.set0) | (with_reducible apply St.set1) | (with_reducible apply St.set2) | (with_reducible apply St.set3) | (with_reducible apply St.drew) | (with_reducible apply St.drewN))); all_goals (try (first | rfl | (simp; done))))) hb)
                     (try clear x1_0 x1_1 x1_2 x1_3 xf1)
                     obtain ⟨x1_0, x1_1, x1_2, x1_3⟩ := (St.at3 HS7.out).c4
                     have xf1 := (St.at3 HS7.out).frozen
                     have xz6 := (St.at3 HS7.out).lt
                     clear hb))
                have HS8 := hide HS7.out.pull3
                have xz1 := xz6
                refine bodyPost_ret (v := .tuple #[.agg #[.bool false, .slice none 0 0, .slice none 0 0, .slice none 0 0], .bool false]) (by simp [results, Tryz.results7, go_sem, x1_0, x1_1, x1_2, x1_3, xf1, xz1]) rfl ?_
                rw [chR_no HOK.out, HOK.out]
                exact St.ret2 (cs := [.bool false, .slice none 0 0, .slice none 0 0, .slice none 0 0]) (F := []) (St.noRoom (by (repeat (first | (with_reducible exact HS8.out) | (with_reducible apply St.alloc) | (with_reducible apply St.set0) | (with_reducible apply St.set1) | (with_reducible apply St.set2) | (with_reducible apply St.set3) | (with_reducible apply St.drew) | (with_reducible apply St.drewN))); all_goals (try (first | rfl | (simp; done))))) rfl

            · have HOP1 := hide (show r.open_ = false by simpa using hop)
              have hno : (!r.open_) = true := by simp [HOP1.out]
              clear hop
              by_cases hn : 0 ≤ idxP (invIs id) r.invites
              · obtain ⟨k, v, hk, hlk, hx, hp⟩ := idxP_found hn
                have hlt : (k : Int) < (r.invites.length : Int) := by omega
                have hk0 : decide ((k : Int) < 0) = false := decide_eq_false (by omega)
                have HIA := hide (inv_at (a := a) HV.out hk hx (by simpa [invIs] using hp))
                obtain ⟨A8, c8, hv8, hl8, hm8, hra⟩ := H2.out
                simp only [Value.slice.injEq, true_and] at hv8
                obtain ⟨rfl, rfl⟩ := hv8
                rcases hra with hnil | ⟨q, o2, rfl, hra⟩
                · rw [hnil] at hlk; simp at hlk
                have HRA := hide hra
                have HX := hide hx
                clear hn hx hp hra
                by_cases hua : a ≤ v.until_
                · have HOP := hide (show (r.open_ || invitedB r id a) = true by rw [HIA.out, decide_eq_true hua]; simp)
                  have hud : decide (v.until_ < a) = false := decide_eq_false (by omega)
                  clear hua
                  by_cases hv2 : validRoomB ({ r with members := (insK Member.id (newM id a) r.members), invites := (dropP (invIs id) r.invites) }) = true
                  · have HV2 := hide hv2
                    have HOK := hide (show chOk r (joinF id a) = true by simp only [chOk, joinF]; rw [HV2.out, HV.out, HH.out, HBN.out, HOP.out]; rfl)
                    clear hv2
                    go_enter Tryz.func7, Tryz.ntmps7
                    go_wp2_with (first
                      | (go_at_call 20
                         refine (l02Is_c r _ _ _ (Blk.rowAt (d := roomD) (x := r) HS0.out.at1 (room_K_mk (H1.out.below HS0.out.below) (H2.out.below HS0.out.below) (H3.out.below HS0.out.below)) rfl)).mono ?_
                         rintro e w1 ⟨rfl, hb⟩
                         rw [HV.out]
                         have HS1 := hide (HS0.out.by hb)
                         (try clear x1_0 x1_1 x1_2 x1_3 xf1 xz1)
                         obtain ⟨x1_0, x1_1, x1_2, x1_3⟩ := HS1.out.at0.c4
                         have xf1 := HS1.out.at0.frozen
                         have xz1 := HS1.out.at0.lt
                         (try clear y2_0 y2_1 y2_2 y2_3 yz2)
                         obtain ⟨y2_0, y2_1, y2_2, y2_3⟩ := HS1.out.at1.c4
                         have yz2 := HS1.out.at1.lt
                         clear hb)
                      | (go_at_call 21; refine (l02Id_c _ _).mono ?_; rintro e w' ⟨rfl, rfl⟩; rw [HI.out])
                      | (go_at_call 22; refine (l02Tick_c _ _).mono ?_; rintro e w' ⟨rfl, rfl⟩; rw [HT.out])
                      | (go_at_call 23
                         refine (l02Find_c r _ _ id _ (Blk.rowAt (d := roomD) (x := r) HS1.out.at1 (room_K_mk (H1.out.below HS1.out.below) (H2.out.below HS1.out.below) (H3.out.below HS1.out.below)) rfl)).mono ?_
                         rintro e w2 ⟨rfl, hb⟩
                         skip
                         have HS2 := hide (HS1.out.by hb)
                         (try clear x1_0 x1_1 x1_2 x1_3 xf1 xz1)
                         obtain ⟨x1_0, x1_1, x1_2, x1_3⟩ := HS2.out.at0.c4
                         have xf1 := HS2.out.at0.frozen
                         have xz1 := HS2.out.at0.lt
                         (try clear y2_0 y2_1 y2_2 y2_3 yz2)
                         obtain ⟨y2_0, y2_1, y2_2, y2_3⟩ := HS2.out.at1.c4
                         have yz2 := HS2.out.at1.lt
                         clear hb)
                      | (go_at_call 24
                         refine (l02Banned_c r _ _ id _ (Blk.rowAt (d := roomD) (x := r) HS2.out.at1 (room_K_mk (H1.out.below HS2.out.below) (H2.out.below HS2.out.below) (H3.out.below HS2.out.below)) rfl)).mono ?_
                         rintro e w2b ⟨rfl, hb⟩
                         skip
                         have HS2b := hide (HS2.out.by hb)
                         (try clear x1_0 x1_1 x1_2 x1_3 xf1 xz1)
                         obtain ⟨x1_0, x1_1, x1_2, x1_3⟩ := HS2b.out.at0.c4
                         have xf1 := HS2b.out.at0.frozen
                         have xz1 := HS2b.out.at0.lt
                         (try clear y2_0 y2_1 y2_2 y2_3 yz2)
                         obtain ⟨y2_0, y2_1, y2_2, y2_3⟩ := HS2b.out.at1.c4
                         have yz2 := HS2b.out.at1.lt
                         clear hb)
                      | (go_at_call 25
                         refine (l02Invited_c r _ _ id _ (Blk.rowAt (d := roomD) (x := r) HS2b.out.at1 (room_K_mk (H1.out.below HS2b.out.below) (H2.out.below HS2b.out.below) (H3.out.below HS2b.out.below)) rfl)).mono ?_
                         rintro e w2c ⟨rfl, hb⟩
                         rw [hk]; obtain ⟨hq, i0, i1, i2⟩ := invite_at HRA.out (St.below (HS2b.out.by hb)) HX.out
                         have HS2c := hide (HS2b.out.by hb)
                         (try clear x1_0 x1_1 x1_2 x1_3 xf1 xz1)
                         obtain ⟨x1_0, x1_1, x1_2, x1_3⟩ := HS2c.out.at0.c4
                         have xf1 := HS2c.out.at0.frozen
                         have xz1 := HS2c.out.at0.lt
                         (try clear y2_0 y2_1 y2_2 y2_3 yz2)
                         obtain ⟨y2_0, y2_1, y2_2, y2_3⟩ := HS2c.out.at1.c4
                         have yz2 := HS2c.out.at1.lt
                         clear hb)
                      | (go_at_call 26
                         refine (l02Copy_c r _ _ _ (Blk.rowAt (d := roomD) (x := r) HS2c.out.at1 (room_K_mk (H1.out.below HS2c.out.below) (H2.out.below HS2c.out.below) (H3.out.below HS2c.out.below)) rfl) HFEW.out).mono ?_
                         rintro e w3 he
                         obtain ⟨cs9, F9, rfl, hK, hb, hS⟩ := HS2c.out.elem he
                         obtain ⟨u1, u2, u3, rfl, k1, k2, k3⟩ := room_K hK
                         obtain ⟨B1, e1, rfl⟩ := k1.shape
                         obtain ⟨B2, e2, rfl⟩ := k2.shape
                         obtain ⟨B3, e3, rfl⟩ := k3.shape
                         obtain ⟨F1, F2, F3, hP⟩ := hS.roomParts
                         have HPP := hide hP
                         have xz1 := hS.at1.lt
                         obtain ⟨y3_0, y3_1, y3_2, y3_3⟩ := (St.at3 hP.drop).c4
                         have yz3 := (St.at3 hP.drop).lt
                         (try clear x1_0 x1_1 x1_2 x1_3 xf1)
                         clear hK k1 k2 k3 hb hS he hP)
                      | (go_at_call 27
                         refine (l02Without_c r.invites _ id _ (H2.out.below (St.below (w0 := w) (L := blk w3.heap.size #[.bool r.open_, .slice B1 r.members.length e1, .slice B2 r.invites.length e2, .slice B3 r.bans.length e3] 32 :: _) (by (repeat (first | (with_reducible exact HPP.out) | (with_reducible apply St.alloc) | (with_reducible apply St.set0) | (with_reducible apply St.set1) | (with_reducible apply St.set2) | (with_reducible apply St.set3) | (with_reducible apply St.drew) | (with_reducible apply St.drewN))); all_goals (try (first | rfl | (simp; done)))))) (by omega)).mono ?_
                         rintro e w4 ⟨v4, rfl, hM, hb⟩
                         obtain ⟨A4, c4, rfl⟩ := hM.shape
                         obtain ⟨F4, hS⟩ := (show St w _ (blk w3.heap.size #[.bool r.open_, .slice B1 r.members.length e1, .slice B2 r.invites.length e2, .slice B3 r.bans.length e3] 32 :: _) by (repeat (first | (with_reducible exact HPP.out) | (with_reducible apply St.alloc) | (with_reducible apply St.set0) | (with_reducible apply St.set1) | (with_reducible apply St.set2) | (with_reducible apply St.set3) | (with_reducible apply St.drew) | (with_reducible apply St.drewN))); all_goals (try (first | rfl | (simp; done)))).made hM hb
                         have HS4 := hide (St.drop3 hS)
                         obtain ⟨x4_0, x4_1, x4_2, x4_3⟩ := hS.at1.c4
                         have xf4 := hS.at1.frozen
                         have xz4 := hS.at1.lt
                         obtain ⟨y4_0, y4_1, y4_2, y4_3⟩ := (St.at3 hS.drop.drop.drop).c4
                         have yz4 := (St.at3 hS.drop.drop.drop).lt
                         clear hM hb hS)
                      | (go_at_call 28
                         refine (l02Add_c r.members _ (newM id a) _ (H1.out.below (St.below (w0 := w) (L := own inviteD 49 (.slice A4 (dropP (invIs id) r.invites).length c4) (dropP (invIs id) r.invites) F4 :: blk w3.heap.size #[.bool r.open_, .slice B1 r.members.length e1, .slice A4 (dropP (invIs id) r.invites).length c4, .slice B3 r.bans.length e3] 32 :: own memberD 54 (.slice B1 r.members.length e1) r.members F1 :: own banD 73 (.slice B3 r.bans.length e3) r.bans F3 :: blk (w.heap.size + 1) #[.bool false, .slice none 0 0, .slice none 0 0, .slice none 0 0] 32 :: blk w.heap.size #[.bool r.open_, .slice A1 r.members.length c1, .slice (some ⟨q, o2, none⟩) r.invites.length c2, .slice A3 r.bans.length c3] 32 :: []) (by (repeat (first | (with_reducible exact HS4.out) | (with_reducible apply St.alloc) | (with_reducible apply St.set0) | (with_reducible apply St.set1) | (with_reducible apply St.set2) | (with_reducible apply St.set3) | (with_reducible apply St.drew) | (with_reducible apply St.drewN))); all_goals (try (first | rfl | (simp; done)))))) (by omega)).mono ?_
                         rintro e w5 ⟨v5, rfl, hM, hb⟩
                         obtain ⟨A5, c5, rfl⟩ := hM.shape
                         obtain ⟨F5, hS⟩ := (show St w _ (own inviteD 49 (.slice A4 (dropP (invIs id) r.invites).length c4) (dropP (invIs id) r.invites) F4 :: blk w3.heap.size #[.bool r.open_, .slice B1 r.members.length e1, .slice A4 (dropP (invIs id) r.invites).length c4, .slice B3 r.bans.length e3] 32 :: own memberD 54 (.slice B1 r.members.length e1) r.members F1 :: own banD 73 (.slice B3 r.bans.length e3) r.bans F3 :: blk (w.heap.size + 1) #[.bool false, .slice none 0 0, .slice none 0 0, .slice none 0 0] 32 :: blk w.heap.size #[.bool r.open_, .slice A1 r.members.length c1, .slice (some ⟨q, o2, none⟩) r.invites.length c2, .slice A3 r.bans.length c3] 32 :: []) by (repeat (first | (with_reducible exact HS4.out) | (with_reducible apply St.alloc) | (with_reducible apply St.set0) | (with_reducible apply St.set1) | (with_reducible apply St.set2) | (with_reducible apply St.set3) | (with_reducible apply St.drew) | (with_reducible apply St.drewN))); all_goals (try (first | rfl | (simp; done)))).made hM hb
                         have HS5 := hide (St.drop3 hS)
                         obtain ⟨x5_0, x5_1, x5_2, x5_3⟩ := hS.at2.c4
                         have xf5 := hS.at2.frozen
                         have xz5 := hS.at2.lt
                         clear hM hb hS)
                      | (go_at_call 29
                         refine (l02Give_yes ({ r with members := (insK Member.id (newM id a) r.members), invites := (dropP (invIs id) r.invites) }) _ _ _ _ _ _ _ _ _ _ (St.drop2 (show St w _ (own memberD 54 (.slice A5 (insK Member.id (newM id a) r.members).length c5) (insK Member.id (newM id a) r.members) F5 :: own inviteD 49 (.slice A4 (dropP (invIs id) r.invites).length c4) (dropP (invIs id) r.invites) F4 :: blk w3.heap.size #[.bool r.open_, .slice A5 (insK Member.id (newM id a) r.members).length c5, .slice A4 (dropP (invIs id) r.invites).length c4, .slice B3 r.bans.length e3] 32 :: own banD 73 (.slice B3 r.bans.length e3) r.bans F3 :: blk (w.heap.size + 1) #[.bool false, .slice none 0 0, .slice none 0 0, .slice none 0 0] 32 :: blk w.heap.size #[.bool r.open_, .slice A1 r.members.length c1, .slice (some ⟨q, o2, none⟩) r.invites.length c2, .slice A3 r.bans.length c3] 32 :: []) from by (repeat (first | (with_reducible exact HS5.out) | (with_reducible apply St.alloc) | (with_reducible apply St.set0) | (with_reducible apply St.set1) | (with_reducible apply St.set2) | (with_reducible apply St.set3) | (with_reducible apply St.drew) | (with_reducible apply St.drewN))); all_goals (try (first | rfl | (simp; done))))).toK (St.toK (St.drop2 (show St w _ (own memberD 54 (.slice A5 (insK Member.id (newM id a) r.members).length c5) (insK Member.id (newM id a) r.members) F5 :: own inviteD 49 (.slice A4 (dropP (invIs id) r.invites).length c4) (dropP (invIs id) r.invites) F4 :: blk w3.heap.size #[.bool r.open_, .slice A5 (insK Member.id (newM id a) r.members).length c5, .slice A4 (dropP (invIs id) r.invites).length c4, .slice B3 r.bans.length e3] 32 :: own banD 73 (.slice B3 r.bans.length e3) r.bans F3 :: blk (w.heap.size + 1) #[.bool false, .slice none 0 0, .slice none 0 0, .slice none 0 0] 32 :: blk w.heap.size #[.bool r.open_, .slice A1 r.members.length c1, .slice (some ⟨q, o2, none⟩) r.invites.length c2, .slice A3 r.bans.length c3] 32 :: []) from by (repeat (first | (with_reducible exact HS5.out) | (with_reducible apply St.alloc) | (with_reducible apply St.set0) | (with_reducible apply St.set1) | (with_reducible apply St.set2) | (with_reducible apply St.set3) | (with_reducible apply St.drew) | (with_reducible apply St.drewN))); all_goals (try (first | rfl | (simp; done))))).pull1) (St.toK (St.drop2 (show St w _ (own memberD 54 (.slice A5 (insK Member.id (newM id a) r.members).length c5) (insK Member.id (newM id a) r.members) F5 :: own inviteD 49 (.slice A4 (dropP (invIs id) r.invites).length c4) (dropP (invIs id) r.invites) F4 :: blk w3.heap.size #[.bool r.open_, .slice A5 (insK Member.id (newM id a) r.members).length c5, .slice A4 (dropP (invIs id) r.invites).length c4, .slice B3 r.bans.length e3] 32 :: own banD 73 (.slice B3 r.bans.length e3) r.bans F3 :: blk (w.heap.size + 1) #[.bool false, .slice none 0 0, .slice none 0 0, .slice none 0 0] 32 :: blk w.heap.size #[.bool r.open_, .slice A1 r.members.length c1, .slice (some ⟨q, o2, none⟩) r.invites.length c2, .slice A3 r.bans.length c3] 32 :: []) from by (repeat (first | (with_reducible exact HS5.out) | (with_reducible apply St.alloc) | (with_reducible apply St.set0) | (with_reducible apply St.set1) | (with_reducible apply St.set2) | (with_reducible apply St.set3) | (with_reducible apply St.drew) | (with_reducible apply St.drewN))); all_goals (try (first | rfl | (simp; done))))).pull2) HV2.out).mono ?_
                         rintro e w6 ⟨rfl, hb⟩
                         have HS7 := hide (St.by (St.drop2 (show St w _ (own memberD 54 (.slice A5 (insK Member.id (newM id a) r.members).length c5) (insK Member.id (newM id a) r.members) F5 :: own inviteD 49 (.slice A4 (dropP (invIs id) r.invites).length c4) (dropP (invIs id) r.invites) F4 :: blk w3.heap.size #[.bool r.open_, .slice A5 (insK Member.id (newM id a) r.members).length c5, .slice A4 (dropP (invIs id) r.invites).length c4, .slice B3 r.bans.length e3] 32 :: own banD 73 (.slice B3 r.bans.length e3) r.bans F3 :: blk (w.heap.size + 1) #[.bool false, .slice none 0 0, .slice none 0 0, .slice none 0 0] 32 :: blk w.heap.size #[.bool r.open_, .slice A1 r.members.length c1, .slice (some ⟨q, o2, none⟩) r.invites.length c2, .slice A3 r.bans.length c3] 32 :: []) from by (repeat (first | (with_reducible exact HS5.out) | (with_reducible apply St.alloc) | (with_reducible apply St.set0) | (with_reducible apply St.set1) | (with_reducible apply St.set2) | (with_reducible apply St.set3) | (with_reducible apply St.drew) | (with_reducible apply St.drewN))); all_goals (try (first | rfl | (simp; done))))) hb)
                         (try clear x1_0 x1_1 x1_2 x1_3 xf1)
                         obtain ⟨x1_0, x1_1, x1_2, x1_3⟩ := (St.at3 HS7.out).c4
                         have xf1 := (St.at3 HS7.out).frozen
                         have xz6 := (St.at3 HS7.out).lt
                         clear hb))
                    refine bodyPost_ret (v := .tuple #[.agg #[.bool r.open_, .slice A5 (insK Member.id (newM id a) r.members).length c5, .slice A4 (dropP (invIs id) r.invites).length c4, .slice B3 r.bans.length e3], .bool true]) (by simp [results, Tryz.results7, go_sem, x1_0, x1_1, x1_2, x1_3, xf1, xz6]) rfl ?_
                    rw [show chR r (joinF id a) = ({ r with members := (insK Member.id (newM id a) r.members), invites := (dropP (invIs id) r.invites) }) from chR_yes HOK.out, HOK.out]
                    exact St.ret2 (cs := [.bool r.open_, .slice A5 (insK Member.id (newM id a) r.members).length c5, .slice A4 (dropP (invIs id) r.invites).length c4, .slice B3 r.bans.length e3]) (F := F5 ++ (F4 ++ F3)) (St.room2 (x := { r with members := (insK Member.id (newM id a) r.members), invites := (dropP (invIs id) r.invites) }) (by (repeat (first | (with_reducible exact HS7.out) | (with_reducible apply St.alloc) | (with_reducible apply St.set0) | (with_reducible apply St.set1) | (with_reducible apply St.set2) | (with_reducible apply St.set3) | (with_reducible apply St.drew) | (with_reducible apply St.drewN))); all_goals (try (first | rfl | (simp; done))))) rfl
                  · have HV2 := hide (show validRoomB ({ r with members := (insK Member.id (newM id a) r.members), invites := (dropP (invIs id) r.invites) }) = false by simpa using hv2)
                    have HOK := hide (show chOk r (joinF id a) = false by simp only [chOk, joinF]; rw [HV2.out]; simp)
                    clear hv2
                    go_enter Tryz.func7, Tryz.ntmps7
                    go_wp2_with (first
                      | (go_at_call 20
                         refine (l02Is_c r _ _ _ (Blk.rowAt (d := roomD) (x := r) HS0.out.at1 (room_K_mk (H1.out.below HS0.out.below) (H2.out.below HS0.out.below) (H3.out.below HS0.out.below)) rfl)).mono ?_
                         rintro e w1 ⟨rfl, hb⟩
                         rw [HV.out]
                         have HS1 := hide (HS0.out.by hb)
                         (try clear x1_0 x1_1 x1_2 x1_3 xf1 xz1)
                         obtain ⟨x1_0, x1_1, x1_2, x1_3⟩ := HS1.out.at0.c4
                         have xf1 := HS1.out.at0.frozen
                         have xz1 := HS1.out.at0.lt
                         (try clear y2_0 y2_1 y2_2 y2_3 yz2)
                         obtain ⟨y2_0, y2_1, y2_2, y2_3⟩ := HS1.out.at1.c4
                         have yz2 := HS1.out.at1.lt
                         clear hb)
                      | (go_at_call 21; refine (l02Id_c _ _).mono ?_; rintro e w' ⟨rfl, rfl⟩; rw [HI.out])
                      | (go_at_call 22; refine (l02Tick_c _ _).mono ?_; rintro e w' ⟨rfl, rfl⟩; rw [HT.out])
                      | (go_at_call 23
                         refine (l02Find_c r _ _ id _ (Blk.rowAt (d := roomD) (x := r) HS1.out.at1 (room_K_mk (H1.out.below HS1.out.below) (H2.out.below HS1.out.below) (H3.out.below HS1.out.below)) rfl)).mono ?_
                         rintro e w2 ⟨rfl, hb⟩
                         skip
                         have HS2 := hide (HS1.out.by hb)
                         (try clear x1_0 x1_1 x1_2 x1_3 xf1 xz1)
                         obtain ⟨x1_0, x1_1, x1_2, x1_3⟩ := HS2.out.at0.c4
                         have xf1 := HS2.out.at0.frozen
                         have xz1 := HS2.out.at0.lt
                         (try clear y2_0 y2_1 y2_2 y2_3 yz2)
                         obtain ⟨y2_0, y2_1, y2_2, y2_3⟩ := HS2.out.at1.c4
                         have yz2 := HS2.out.at1.lt
                         clear hb)
                      | (go_at_call 24
                         refine (l02Banned_c r _ _ id _ (Blk.rowAt (d := roomD) (x := r) HS2.out.at1 (room_K_mk (H1.out.below HS2.out.below) (H2.out.below HS2.out.below) (H3.out.below HS2.out.below)) rfl)).mono ?_
                         rintro e w2b ⟨rfl, hb⟩
                         skip
                         have HS2b := hide (HS2.out.by hb)
                         (try clear x1_0 x1_1 x1_2 x1_3 xf1 xz1)
                         obtain ⟨x1_0, x1_1, x1_2, x1_3⟩ := HS2b.out.at0.c4
                         have xf1 := HS2b.out.at0.frozen
                         have xz1 := HS2b.out.at0.lt
                         (try clear y2_0 y2_1 y2_2 y2_3 yz2)
                         obtain ⟨y2_0, y2_1, y2_2, y2_3⟩ := HS2b.out.at1.c4
                         have yz2 := HS2b.out.at1.lt
                         clear hb)
                      | (go_at_call 25
                         refine (l02Invited_c r _ _ id _ (Blk.rowAt (d := roomD) (x := r) HS2b.out.at1 (room_K_mk (H1.out.below HS2b.out.below) (H2.out.below HS2b.out.below) (H3.out.below HS2b.out.below)) rfl)).mono ?_
                         rintro e w2c ⟨rfl, hb⟩
                         rw [hk]; obtain ⟨hq, i0, i1, i2⟩ := invite_at HRA.out (St.below (HS2b.out.by hb)) HX.out
                         have HS2c := hide (HS2b.out.by hb)
                         (try clear x1_0 x1_1 x1_2 x1_3 xf1 xz1)
                         obtain ⟨x1_0, x1_1, x1_2, x1_3⟩ := HS2c.out.at0.c4
                         have xf1 := HS2c.out.at0.frozen
                         have xz1 := HS2c.out.at0.lt
                         (try clear y2_0 y2_1 y2_2 y2_3 yz2)
                         obtain ⟨y2_0, y2_1, y2_2, y2_3⟩ := HS2c.out.at1.c4
                         have yz2 := HS2c.out.at1.lt
                         clear hb)
                      | (go_at_call 26
                         refine (l02Copy_c r _ _ _ (Blk.rowAt (d := roomD) (x := r) HS2c.out.at1 (room_K_mk (H1.out.below HS2c.out.below) (H2.out.below HS2c.out.below) (H3.out.below HS2c.out.below)) rfl) HFEW.out).mono ?_
                         rintro e w3 he
                         obtain ⟨cs9, F9, rfl, hK, hb, hS⟩ := HS2c.out.elem he
                         obtain ⟨u1, u2, u3, rfl, k1, k2, k3⟩ := room_K hK
                         obtain ⟨B1, e1, rfl⟩ := k1.shape
                         obtain ⟨B2, e2, rfl⟩ := k2.shape
                         obtain ⟨B3, e3, rfl⟩ := k3.shape
                         obtain ⟨F1, F2, F3, hP⟩ := hS.roomParts
                         have HPP := hide hP
                         have xz1 := hS.at1.lt
                         obtain ⟨y3_0, y3_1, y3_2, y3_3⟩ := (St.at3 hP.drop).c4
                         have yz3 := (St.at3 hP.drop).lt
                         (try clear x1_0 x1_1 x1_2 x1_3 xf1)
                         clear hK k1 k2 k3 hb hS he hP)
                      | (go_at_call 27
                         refine (l02Without_c r.invites _ id _ (H2.out.below (St.below (w0 := w) (L := blk w3.heap.size #[.bool r.open_, .slice B1 r.members.length e1, .slice B2 r.invites.length e2, .slice B3 r.bans.length e3] 32 :: _) (by (repeat (first | (with_reducible exact HPP.out) | (with_reducible apply St.alloc) | (with_reducible apply St.set0) | (with_reducible apply St.set1) | (with_reducible apply St.set2) | (with_reducible apply St.set3) | (with_reducible apply St.drew) | (with_reducible apply St.drewN))); all_goals (try (first | rfl | (simp; done)))))) (by omega)).mono ?_
                         rintro e w4 ⟨v4, rfl, hM, hb⟩
                         obtain ⟨A4, c4, rfl⟩ := hM.shape
                         obtain ⟨F4, hS⟩ := (show St w _ (blk w3.heap.size #[.bool r.open_, .slice B1 r.members.length e1, .slice B2 r.invites.length e2, .slice B3 r.bans.length e3] 32 :: _) by (repeat (first | (with_reducible exact HPP.out) | (with_reducible apply St.alloc) | (with_reducible apply St.set0) | (with_reducible apply St.set1) | (with_reducible apply St.set2) | (with_reducible apply St.set3) | (with_reducible apply St.drew) | (with_reducible apply St.drewN))); all_goals (try (first | rfl | (simp; done)))).made hM hb
                         have HS4 := hide (St.drop3 hS)
                         obtain ⟨x4_0, x4_1, x4_2, x4_3⟩ := hS.at1.c4
                         have xf4 := hS.at1.frozen
                         have xz4 := hS.at1.lt
                         obtain ⟨y4_0, y4_1, y4_2, y4_3⟩ := (St.at3 hS.drop.drop.drop).c4
                         have yz4 := (St.at3 hS.drop.drop.drop).lt
                         clear hM hb hS)
                      | (go_at_call 28
                         refine (l02Add_c r.members _ (newM id a) _ (H1.out.below (St.below (w0 := w) (L := own inviteD 49 (.slice A4 (dropP (invIs id) r.invites).length c4) (dropP (invIs id) r.invites) F4 :: blk w3.heap.size #[.bool r.open_, .slice B1 r.members.length e1, .slice A4 (dropP (invIs id) r.invites).length c4, .slice B3 r.bans.length e3] 32 :: own memberD 54 (.slice B1 r.members.length e1) r.members F1 :: own banD 73 (.slice B3 r.bans.length e3) r.bans F3 :: blk (w.heap.size + 1) #[.bool false, .slice none 0 0, .slice none 0 0, .slice none 0 0] 32 :: blk w.heap.size #[.bool r.open_, .slice A1 r.members.length c1, .slice (some ⟨q, o2, none⟩) r.invites.length c2, .slice A3 r.bans.length c3] 32 :: []) (by (repeat (first | (with_reducible exact HS4.out) | (with_reducible apply St.alloc) | (with_reducible apply St.set0) | (with_reducible apply St.set1) | (with_reducible apply St.set2) | (with_reducible apply St.set3) | (with_reducible apply St.drew) | (with_reducible apply St.drewN))); all_goals (try (first | rfl | (simp; done)))))) (by omega)).mono ?_
                         rintro e w5 ⟨v5, rfl, hM, hb⟩
                         obtain ⟨A5, c5, rfl⟩ := hM.shape
                         obtain ⟨F5, hS⟩ := (show St w _ (own inviteD 49 (.slice A4 (dropP (invIs id) r.invites).length c4) (dropP (invIs id) r.invites) F4 :: blk w3.heap.size #[.bool r.open_, .slice B1 r.members.length e1, .slice A4 (dropP (invIs id) r.invites).length c4, .slice B3 r.bans.length e3] 32 :: own memberD 54 (.slice B1 r.members.length e1) r.members F1 :: own banD 73 (.slice B3 r.bans.length e3) r.bans F3 :: blk (w.heap.size + 1) #[.bool false, .slice none 0 0, .slice none 0 0, .slice none 0 0] 32 :: blk w.heap.size #[.bool r.open_, .slice A1 r.members.length c1, .slice (some ⟨q, o2, none⟩) r.invites.length c2, .slice A3 r.bans.length c3] 32 :: []) by (repeat (first | (with_reducible exact HS4.out) | (with_reducible apply St.alloc) | (with_reducible apply St.set0) | (with_reducible apply St.set1) | (with_reducible apply St.set2) | (with_reducible apply St.set3) | (with_reducible apply St.drew) | (with_reducible apply St.drewN))); all_goals (try (first | rfl | (simp; done)))).made hM hb
                         have HS5 := hide (St.drop3 hS)
                         obtain ⟨x5_0, x5_1, x5_2, x5_3⟩ := hS.at2.c4
                         have xf5 := hS.at2.frozen
                         have xz5 := hS.at2.lt
                         clear hM hb hS)
                      | (go_at_call 29
                         refine (l02Give_no ({ r with members := (insK Member.id (newM id a) r.members), invites := (dropP (invIs id) r.invites) }) _ _ _ _ _ _ _ _ _ _ (St.drop2 (show St w _ (own memberD 54 (.slice A5 (insK Member.id (newM id a) r.members).length c5) (insK Member.id (newM id a) r.members) F5 :: own inviteD 49 (.slice A4 (dropP (invIs id) r.invites).length c4) (dropP (invIs id) r.invites) F4 :: blk w3.heap.size #[.bool r.open_, .slice A5 (insK Member.id (newM id a) r.members).length c5, .slice A4 (dropP (invIs id) r.invites).length c4, .slice B3 r.bans.length e3] 32 :: own banD 73 (.slice B3 r.bans.length e3) r.bans F3 :: blk (w.heap.size + 1) #[.bool false, .slice none 0 0, .slice none 0 0, .slice none 0 0] 32 :: blk w.heap.size #[.bool r.open_, .slice A1 r.members.length c1, .slice (some ⟨q, o2, none⟩) r.invites.length c2, .slice A3 r.bans.length c3] 32 :: []) from by (repeat (first | (with_reducible exact HS5.out) | (with_reducible apply St.alloc) | (with_reducible apply St.set0) | (with_reducible apply St.set1) | (with_reducible apply St.set2) | (with_reducible apply St.set3) | (with_reducible apply St.drew) | (with_reducible apply St.drewN))); all_goals (try (first | rfl | (simp; done))))).toK (St.toK (St.drop2 (show St w _ (own memberD 54 (.slice A5 (insK Member.id (newM id a) r.members).length c5) (insK Member.id (newM id a) r.members) F5 :: own inviteD 49 (.slice A4 (dropP (invIs id) r.invites).length c4) (dropP (invIs id) r.invites) F4 :: blk w3.heap.size #[.bool r.open_, .slice A5 (insK Member.id (newM id a) r.members).length c5, .slice A4 (dropP (invIs id) r.invites).length c4, .slice B3 r.bans.length e3] 32 :: own banD 73 (.slice B3 r.bans.length e3) r.bans F3 :: blk (w.heap.size + 1) #[.bool false, .slice none 0 0, .slice none 0 0, .slice none 0 0] 32 :: blk w.heap.size #[.bool r.open_, .slice A1 r.members.length c1, .slice (some ⟨q, o2, none⟩) r.invites.length c2, .slice A3 r.bans.length c3] 32 :: []) from by (repeat (first | (with_reducible exact HS5.out) | (with_reducible apply St.alloc) | (with_reducible apply St.set0) | (with_reducible apply St.set1) | (with_reducible apply St.set2) | (with_reducible apply St.set3) | (with_reducible apply St.drew) | (with_reducible apply St.drewN))); all_goals (try (first | rfl | (simp; done))))).pull1) (St.toK (St.drop2 (show St w _ (own memberD 54 (.slice A5 (insK Member.id (newM id a) r.members).length c5) (insK Member.id (newM id a) r.members) F5 :: own inviteD 49 (.slice A4 (dropP (invIs id) r.invites).length c4) (dropP (invIs id) r.invites) F4 :: blk w3.heap.size #[.bool r.open_, .slice A5 (insK Member.id (newM id a) r.members).length c5, .slice A4 (dropP (invIs id) r.invites).length c4, .slice B3 r.bans.length e3] 32 :: own banD 73 (.slice B3 r.bans.length e3) r.bans F3 :: blk (w.heap.size + 1) #[.bool false, .slice none 0 0, .slice none 0 0, .slice none 0 0] 32 :: blk w.heap.size #[.bool r.open_, .slice A1 r.members.length c1, .slice (some ⟨q, o2, none⟩) r.invites.length c2, .slice A3 r.bans.length c3] 32 :: []) from by (repeat (first | (with_reducible exact HS5.out) | (with_reducible apply St.alloc) | (with_reducible apply St.set0) | (with_reducible apply St.set1) | (with_reducible apply St.set2) | (with_reducible apply St.set3) | (with_reducible apply St.drew) | (with_reducible apply St.drewN))); all_goals (try (first | rfl | (simp; done))))).pull2) HV2.out).mono ?_
                         rintro e w6 ⟨rfl, hb⟩
                         have HS7 := hide (St.by (St.drop2 (show St w _ (own memberD 54 (.slice A5 (insK Member.id (newM id a) r.members).length c5) (insK Member.id (newM id a) r.members) F5 :: own inviteD 49 (.slice A4 (dropP (invIs id) r.invites).length c4) (dropP (invIs id) r.invites) F4 :: blk w3.heap.size #[.bool r.open_, .slice A5 (insK Member.id (newM id a) r.members).length c5, .slice A4 (dropP (invIs id) r.invites).length c4, .slice B3 r.bans.length e3] 32 :: own banD 73 (.slice B3 r.bans.length e3) r.bans F3 :: blk (w.heap.size + 1) #[.bool false, .slice none 0 0, .slice none 0 0, .slice none 0 0] 32 :: blk w.heap.size #[.bool r.open_, .slice A1 r.members.length c1, .slice (some ⟨q, o2, none⟩) r.invites.length c2, .slice A3 r.bans.length c3] 32 :: []) from by (repeat (first | (with_reducible exact HS5.out) | (with_reducible apply St.alloc) | (with_reducible apply St.set0) | (with_reducible apply St.set1) | (with_reducible apply St.set2) | (with_reducible apply St.set3) | (with_reducible apply St.drew) | (with_reducible apply St.drewN))); all_goals (try (first | rfl | (simp; done))))) hb)
                         (try clear x1_0 x1_1 x1_2 x1_3 xf1)
                         obtain ⟨x1_0, x1_1, x1_2, x1_3⟩ := (St.at3 HS7.out).c4
                         have xf1 := (St.at3 HS7.out).frozen
                         have xz6 := (St.at3 HS7.out).lt
                         clear hb))
                    have HS8 := hide HS7.out.pull3
                    have xz1 := xz6
                    refine bodyPost_ret (v := .tuple #[.agg #[.bool false, .slice none 0 0, .slice none 0 0, .slice none 0 0], .bool false]) (by simp [results, Tryz.results7, go_sem, x1_0, x1_1, x1_2, x1_3, xf1, xz1]) rfl ?_
                    rw [chR_no HOK.out, HOK.out]
                    exact St.ret2 (cs := [.bool false, .slice none 0 0, .slice none 0 0, .slice none 0 0]) (F := []) (St.noRoom (by (repeat (first | (with_reducible exact HS8.out) | (with_reducible apply St.alloc) | (with_reducible apply St.set0) | (with_reducible apply St.set1) | (with_reducible apply St.set2) | (with_reducible apply St.set3) | (with_reducible apply St.drew) | (with_reducible apply St.drewN))); all_goals (try (first | rfl | (simp; done))))) rfl

                · have HOP := hide (show chOk r (joinF id a) = false by simp [chOk, joinF, HOP1.out, HIA.out, hua])
                  have HOK := HOP
                  have hud : decide (v.until_ < a) = true := decide_eq_true (by omega)
                  clear hua
                  go_enter Tryz.func7, Tryz.ntmps7
                  go_wp2_with (first
                    | (go_at_call 20
                       refine (l02Is_c r _ _ _ (Blk.rowAt (d := roomD) (x := r) HS0.out.at1 (room_K_mk (H1.out.below HS0.out.below) (H2.out.below HS0.out.below) (H3.out.below HS0.out.below)) rfl)).mono ?_
                       rintro e w1 ⟨rfl, hb⟩
                       rw [HV.out]
                       have HS1 := hide (HS0.out.by hb)
                       (try clear x1_0 x1_1 x1_2 x1_3 xf1 xz1)
                       obtain ⟨x1_0, x1_1, x1_2, x1_3⟩ := HS1.out.at0.c4
                       have xf1 := HS1.out.at0.frozen
                       have xz1 := HS1.out.at0.lt
                       (try clear y2_0 y2_1 y2_2 y2_3 yz2)
                       obtain ⟨y2_0, y2_1, y2_2, y2_3⟩ := HS1.out.at1.c4
                       have yz2 := HS1.out.at1.lt
                       clear hb)
                    | (go_at_call 21; refine (l02Id_c _ _).mono ?_; rintro e w' ⟨rfl, rfl⟩; rw [HI.out])
                    | (go_at_call 22; refine (l02Tick_c _ _).mono ?_; rintro e w' ⟨rfl, rfl⟩; rw [HT.out])
                    | (go_at_call 23
                       refine (l02Find_c r _ _ id _ (Blk.rowAt (d := roomD) (x := r) HS1.out.at1 (room_K_mk (H1.out.below HS1.out.below) (H2.out.below HS1.out.below) (H3.out.below HS1.out.below)) rfl)).mono ?_
                       rintro e w2 ⟨rfl, hb⟩
                       skip
                       have HS2 := hide (HS1.out.by hb)
                       (try clear x1_0 x1_1 x1_2 x1_3 xf1 xz1)
                       obtain ⟨x1_0, x1_1, x1_2, x1_3⟩ := HS2.out.at0.c4
                       have xf1 := HS2.out.at0.frozen
                       have xz1 := HS2.out.at0.lt
                       (try clear y2_0 y2_1 y2_2 y2_3 yz2)
                       obtain ⟨y2_0, y2_1, y2_2, y2_3⟩ := HS2.out.at1.c4
                       have yz2 := HS2.out.at1.lt
                       clear hb)
                    | (go_at_call 24
                       refine (l02Banned_c r _ _ id _ (Blk.rowAt (d := roomD) (x := r) HS2.out.at1 (room_K_mk (H1.out.below HS2.out.below) (H2.out.below HS2.out.below) (H3.out.below HS2.out.below)) rfl)).mono ?_
                       rintro e w2b ⟨rfl, hb⟩
                       skip
                       have HS2b := hide (HS2.out.by hb)
                       (try clear x1_0 x1_1 x1_2 x1_3 xf1 xz1)
                       obtain ⟨x1_0, x1_1, x1_2, x1_3⟩ := HS2b.out.at0.c4
                       have xf1 := HS2b.out.at0.frozen
                       have xz1 := HS2b.out.at0.lt
                       (try clear y2_0 y2_1 y2_2 y2_3 yz2)
                       obtain ⟨y2_0, y2_1, y2_2, y2_3⟩ := HS2b.out.at1.c4
                       have yz2 := HS2b.out.at1.lt
                       clear hb)
                    | (go_at_call 25
                       refine (l02Invited_c r _ _ id _ (Blk.rowAt (d := roomD) (x := r) HS2b.out.at1 (room_K_mk (H1.out.below HS2b.out.below) (H2.out.below HS2b.out.below) (H3.out.below HS2b.out.below)) rfl)).mono ?_
                       rintro e w2c ⟨rfl, hb⟩
                       rw [hk]; obtain ⟨hq, i0, i1, i2⟩ := invite_at HRA.out (St.below (HS2b.out.by hb)) HX.out
                       have HS2c := hide (HS2b.out.by hb)
                       (try clear x1_0 x1_1 x1_2 x1_3 xf1 xz1)
                       obtain ⟨x1_0, x1_1, x1_2, x1_3⟩ := HS2c.out.at0.c4
                       have xf1 := HS2c.out.at0.frozen
                       have xz1 := HS2c.out.at0.lt
                       (try clear y2_0 y2_1 y2_2 y2_3 yz2)
                       obtain ⟨y2_0, y2_1, y2_2, y2_3⟩ := HS2c.out.at1.c4
                       have yz2 := HS2c.out.at1.lt
                       clear hb))
                  refine bodyPost_ret (v := .tuple #[.agg #[.bool false, .slice none 0 0, .slice none 0 0, .slice none 0 0], .bool false]) (by simp [results, Tryz.results7, go_sem, x1_0, x1_1, x1_2, x1_3, xf1, xz1]) rfl ?_
                  rw [chR_no HOK.out, HOK.out]
                  exact St.ret2 (cs := [.bool false, .slice none 0 0, .slice none 0 0, .slice none 0 0]) (F := []) (St.noRoom (by (repeat (first | (with_reducible exact HS2c.out) | (with_reducible apply St.alloc) | (with_reducible apply St.set0) | (with_reducible apply St.set1) | (with_reducible apply St.set2) | (with_reducible apply St.set3) | (with_reducible apply St.drew) | (with_reducible apply St.drewN))); all_goals (try (first | rfl | (simp; done))))) rfl
              · have hn2 : idxP (invIs id) r.invites < 0 := by omega
                have hk0 : decide (idxP (invIs id) r.invites < 0) = true := decide_eq_true hn2
                have HOK := hide (show chOk r (joinF id a) = false by simp [chOk, joinF, HOP1.out, inv_none hn2])
                clear hn hn2
                go_enter Tryz.func7, Tryz.ntmps7
                go_wp2_with (first
                  | (go_at_call 20
                     refine (l02Is_c r _ _ _ (Blk.rowAt (d := roomD) (x := r) HS0.out.at1 (room_K_mk (H1.out.below HS0.out.below) (H2.out.below HS0.out.below) (H3.out.below HS0.out.below)) rfl)).mono ?_
                     rintro e w1 ⟨rfl, hb⟩
                     rw [HV.out]
                     have HS1 := hide (HS0.out.by hb)
                     (try clear x1_0 x1_1 x1_2 x1_3 xf1 xz1)
                     obtain ⟨x1_0, x1_1, x1_2, x1_3⟩ := HS1.out.at0.c4
                     have xf1 := HS1.out.at0.frozen
                     have xz1 := HS1.out.at0.lt
                     (try clear y2_0 y2_1 y2_2 y2_3 yz2)
                     obtain ⟨y2_0, y2_1, y2_2, y2_3⟩ := HS1.out.at1.c4
                     have yz2 := HS1.out.at1.lt
                     clear hb)
                  | (go_at_call 21; refine (l02Id_c _ _).mono ?_; rintro e w' ⟨rfl, rfl⟩; rw [HI.out])
                  | (go_at_call 22; refine (l02Tick_c _ _).mono ?_; rintro e w' ⟨rfl, rfl⟩; rw [HT.out])
                  | (go_at_call 23
                     refine (l02Find_c r _ _ id _ (Blk.rowAt (d := roomD) (x := r) HS1.out.at1 (room_K_mk (H1.out.below HS1.out.below) (H2.out.below HS1.out.below) (H3.out.below HS1.out.below)) rfl)).mono ?_
                     rintro e w2 ⟨rfl, hb⟩
                     skip
                     have HS2 := hide (HS1.out.by hb)
                     (try clear x1_0 x1_1 x1_2 x1_3 xf1 xz1)
                     obtain ⟨x1_0, x1_1, x1_2, x1_3⟩ := HS2.out.at0.c4
                     have xf1 := HS2.out.at0.frozen
                     have xz1 := HS2.out.at0.lt
                     (try clear y2_0 y2_1 y2_2 y2_3 yz2)
                     obtain ⟨y2_0, y2_1, y2_2, y2_3⟩ := HS2.out.at1.c4
                     have yz2 := HS2.out.at1.lt
                     clear hb)
                  | (go_at_call 24
                     refine (l02Banned_c r _ _ id _ (Blk.rowAt (d := roomD) (x := r) HS2.out.at1 (room_K_mk (H1.out.below HS2.out.below) (H2.out.below HS2.out.below) (H3.out.below HS2.out.below)) rfl)).mono ?_
                     rintro e w2b ⟨rfl, hb⟩
                     skip
                     have HS2b := hide (HS2.out.by hb)
                     (try clear x1_0 x1_1 x1_2 x1_3 xf1 xz1)
                     obtain ⟨x1_0, x1_1, x1_2, x1_3⟩ := HS2b.out.at0.c4
                     have xf1 := HS2b.out.at0.frozen
                     have xz1 := HS2b.out.at0.lt
                     (try clear y2_0 y2_1 y2_2 y2_3 yz2)
                     obtain ⟨y2_0, y2_1, y2_2, y2_3⟩ := HS2b.out.at1.c4
                     have yz2 := HS2b.out.at1.lt
                     clear hb)
                  | (go_at_call 25
                     refine (l02Invited_c r _ _ id _ (Blk.rowAt (d := roomD) (x := r) HS2b.out.at1 (room_K_mk (H1.out.below HS2b.out.below) (H2.out.below HS2b.out.below) (H3.out.below HS2b.out.below)) rfl)).mono ?_
                     rintro e w2c ⟨rfl, hb⟩
                     skip
                     have HS2c := hide (HS2b.out.by hb)
                     (try clear x1_0 x1_1 x1_2 x1_3 xf1 xz1)
                     obtain ⟨x1_0, x1_1, x1_2, x1_3⟩ := HS2c.out.at0.c4
                     have xf1 := HS2c.out.at0.frozen
                     have xz1 := HS2c.out.at0.lt
                     (try clear y2_0 y2_1 y2_2 y2_3 yz2)
                     obtain ⟨y2_0, y2_1, y2_2, y2_3⟩ := HS2c.out.at1.c4
                     have yz2 := HS2c.out.at1.lt
                     clear hb))
                refine bodyPost_ret (v := .tuple #[.agg #[.bool false, .slice none 0 0, .slice none 0 0, .slice none 0 0], .bool false]) (by simp [results, Tryz.results7, go_sem, x1_0, x1_1, x1_2, x1_3, xf1, xz1]) rfl ?_
                rw [chR_no HOK.out, HOK.out]
                exact St.ret2 (cs := [.bool false, .slice none 0 0, .slice none 0 0, .slice none 0 0]) (F := []) (St.noRoom (by (repeat (first | (with_reducible exact HS2c.out) | (with_reducible apply St.alloc) | (with_reducible apply St.set0) | (with_reducible apply St.set1) | (with_reducible apply St.set2) | (with_reducible apply St.set3) | (with_reducible apply St.drew) | (with_reducible apply St.drewN))); all_goals (try (first | rfl | (simp; done))))) rfl
          · have HBN := hide (show bannB r id = true by simpa using hb)
            have hf1 : decide (0 ≤ idxP (banIs id) r.bans) = true := HBN.out
            have HOK := hide (show chOk r (joinF id a) = false by simp [chOk, joinF, HBN.out])
            clear hb
            go_enter Tryz.func7, Tryz.ntmps7
            go_wp2_with (first
              | (go_at_call 20
                 refine (l02Is_c r _ _ _ (Blk.rowAt (d := roomD) (x := r) HS0.out.at1 (room_K_mk (H1.out.below HS0.out.below) (H2.out.below HS0.out.below) (H3.out.below HS0.out.below)) rfl)).mono ?_
                 rintro e w1 ⟨rfl, hb⟩
                 rw [HV.out]
                 have HS1 := hide (HS0.out.by hb)
                 (try clear x1_0 x1_1 x1_2 x1_3 xf1 xz1)
                 obtain ⟨x1_0, x1_1, x1_2, x1_3⟩ := HS1.out.at0.c4
                 have xf1 := HS1.out.at0.frozen
                 have xz1 := HS1.out.at0.lt
                 (try clear y2_0 y2_1 y2_2 y2_3 yz2)
                 obtain ⟨y2_0, y2_1, y2_2, y2_3⟩ := HS1.out.at1.c4
                 have yz2 := HS1.out.at1.lt
                 clear hb)
              | (go_at_call 21; refine (l02Id_c _ _).mono ?_; rintro e w' ⟨rfl, rfl⟩; rw [HI.out])
              | (go_at_call 22; refine (l02Tick_c _ _).mono ?_; rintro e w' ⟨rfl, rfl⟩; rw [HT.out])
              | (go_at_call 23
                 refine (l02Find_c r _ _ id _ (Blk.rowAt (d := roomD) (x := r) HS1.out.at1 (room_K_mk (H1.out.below HS1.out.below) (H2.out.below HS1.out.below) (H3.out.below HS1.out.below)) rfl)).mono ?_
                 rintro e w2 ⟨rfl, hb⟩
                 skip
                 have HS2 := hide (HS1.out.by hb)
                 (try clear x1_0 x1_1 x1_2 x1_3 xf1 xz1)
                 obtain ⟨x1_0, x1_1, x1_2, x1_3⟩ := HS2.out.at0.c4
                 have xf1 := HS2.out.at0.frozen
                 have xz1 := HS2.out.at0.lt
                 (try clear y2_0 y2_1 y2_2 y2_3 yz2)
                 obtain ⟨y2_0, y2_1, y2_2, y2_3⟩ := HS2.out.at1.c4
                 have yz2 := HS2.out.at1.lt
                 clear hb)
              | (go_at_call 24
                 refine (l02Banned_c r _ _ id _ (Blk.rowAt (d := roomD) (x := r) HS2.out.at1 (room_K_mk (H1.out.below HS2.out.below) (H2.out.below HS2.out.below) (H3.out.below HS2.out.below)) rfl)).mono ?_
                 rintro e w2b ⟨rfl, hb⟩
                 skip
                 have HS2b := hide (HS2.out.by hb)
                 (try clear x1_0 x1_1 x1_2 x1_3 xf1 xz1)
                 obtain ⟨x1_0, x1_1, x1_2, x1_3⟩ := HS2b.out.at0.c4
                 have xf1 := HS2b.out.at0.frozen
                 have xz1 := HS2b.out.at0.lt
                 (try clear y2_0 y2_1 y2_2 y2_3 yz2)
                 obtain ⟨y2_0, y2_1, y2_2, y2_3⟩ := HS2b.out.at1.c4
                 have yz2 := HS2b.out.at1.lt
                 clear hb))
            refine bodyPost_ret (v := .tuple #[.agg #[.bool false, .slice none 0 0, .slice none 0 0, .slice none 0 0], .bool false]) (by simp [results, Tryz.results7, go_sem, x1_0, x1_1, x1_2, x1_3, xf1, xz1]) rfl ?_
            rw [chR_no HOK.out, HOK.out]
            exact St.ret2 (cs := [.bool false, .slice none 0 0, .slice none 0 0, .slice none 0 0]) (F := []) (St.noRoom (by (repeat (first | (with_reducible exact HS2b.out) | (with_reducible apply St.alloc) | (with_reducible apply St.set0) | (with_reducible apply St.set1) | (with_reducible apply St.set2) | (with_reducible apply St.set3) | (with_reducible apply St.drew) | (with_reducible apply St.drewN))); all_goals (try (first | rfl | (simp; done))))) rfl
        · have HH := hide (show hasId r id = true by simpa using hh)
          have hf0 : decide (0 ≤ idxP (idIs id) r.members) = true := HH.out
          have HOK := hide (show chOk r (joinF id a) = false by simp [chOk, joinF, HH.out])
          clear hh
          go_enter Tryz.func7, Tryz.ntmps7
          go_wp2_with (first
            | (go_at_call 20
               refine (l02Is_c r _ _ _ (Blk.rowAt (d := roomD) (x := r) HS0.out.at1 (room_K_mk (H1.out.below HS0.out.below) (H2.out.below HS0.out.below) (H3.out.below HS0.out.below)) rfl)).mono ?_
               rintro e w1 ⟨rfl, hb⟩
               rw [HV.out]
               have HS1 := hide (HS0.out.by hb)
               (try clear x1_0 x1_1 x1_2 x1_3 xf1 xz1)
               obtain ⟨x1_0, x1_1, x1_2, x1_3⟩ := HS1.out.at0.c4
               have xf1 := HS1.out.at0.frozen
               have xz1 := HS1.out.at0.lt
               (try clear y2_0 y2_1 y2_2 y2_3 yz2)
               obtain ⟨y2_0, y2_1, y2_2, y2_3⟩ := HS1.out.at1.c4
               have yz2 := HS1.out.at1.lt
               clear hb)
            | (go_at_call 21; refine (l02Id_c _ _).mono ?_; rintro e w' ⟨rfl, rfl⟩; rw [HI.out])
            | (go_at_call 22; refine (l02Tick_c _ _).mono ?_; rintro e w' ⟨rfl, rfl⟩; rw [HT.out])
            | (go_at_call 23
               refine (l02Find_c r _ _ id _ (Blk.rowAt (d := roomD) (x := r) HS1.out.at1 (room_K_mk (H1.out.below HS1.out.below) (H2.out.below HS1.out.below) (H3.out.below HS1.out.below)) rfl)).mono ?_
               rintro e w2 ⟨rfl, hb⟩
               skip
               have HS2 := hide (HS1.out.by hb)
               (try clear x1_0 x1_1 x1_2 x1_3 xf1 xz1)
               obtain ⟨x1_0, x1_1, x1_2, x1_3⟩ := HS2.out.at0.c4
               have xf1 := HS2.out.at0.frozen
               have xz1 := HS2.out.at0.lt
               (try clear y2_0 y2_1 y2_2 y2_3 yz2)
               obtain ⟨y2_0, y2_1, y2_2, y2_3⟩ := HS2.out.at1.c4
               have yz2 := HS2.out.at1.lt
               clear hb))
          refine bodyPost_ret (v := .tuple #[.agg #[.bool false, .slice none 0 0, .slice none 0 0, .slice none 0 0], .bool false]) (by simp [results, Tryz.results7, go_sem, x1_0, x1_1, x1_2, x1_3, xf1, xz1]) rfl ?_
          rw [chR_no HOK.out, HOK.out]
          exact St.ret2 (cs := [.bool false, .slice none 0 0, .slice none 0 0, .slice none 0 0]) (F := []) (St.noRoom (by (repeat (first | (with_reducible exact HS2.out) | (with_reducible apply St.alloc) | (with_reducible apply St.set0) | (with_reducible apply St.set1) | (with_reducible apply St.set2) | (with_reducible apply St.set3) | (with_reducible apply St.drew) | (with_reducible apply St.drewN))); all_goals (try (first | rfl | (simp; done))))) rfl
      · have HT := hide (show inB a 0 1000000 = false by simpa using ht)
        have HOK := hide (join_bad (r := r) (id := id) (.inr HT.out))
        clear ht
        go_enter Tryz.func7, Tryz.ntmps7
        go_wp2_with (first
          | (go_at_call 20
             refine (l02Is_c r _ _ _ (Blk.rowAt (d := roomD) (x := r) HS0.out.at1 (room_K_mk (H1.out.below HS0.out.below) (H2.out.below HS0.out.below) (H3.out.below HS0.out.below)) rfl)).mono ?_
             rintro e w1 ⟨rfl, hb⟩
             rw [HV.out]
             have HS1 := hide (HS0.out.by hb)
             (try clear x1_0 x1_1 x1_2 x1_3 xf1 xz1)
             obtain ⟨x1_0, x1_1, x1_2, x1_3⟩ := HS1.out.at0.c4
             have xf1 := HS1.out.at0.frozen
             have xz1 := HS1.out.at0.lt
             (try clear y2_0 y2_1 y2_2 y2_3 yz2)
             obtain ⟨y2_0, y2_1, y2_2, y2_3⟩ := HS1.out.at1.c4
             have yz2 := HS1.out.at1.lt
             clear hb)
          | (go_at_call 21; refine (l02Id_c _ _).mono ?_; rintro e w' ⟨rfl, rfl⟩; rw [HI.out])
          | (go_at_call 22; refine (l02Tick_c _ _).mono ?_; rintro e w' ⟨rfl, rfl⟩; rw [HT.out]))
        refine bodyPost_ret (v := .tuple #[.agg #[.bool false, .slice none 0 0, .slice none 0 0, .slice none 0 0], .bool false]) (by simp [results, Tryz.results7, go_sem, x1_0, x1_1, x1_2, x1_3, xf1, xz1]) rfl ?_
        rw [chR_no HOK.out, HOK.out]
        exact St.ret2 (cs := [.bool false, .slice none 0 0, .slice none 0 0, .slice none 0 0]) (F := []) (St.noRoom (by (repeat (first | (with_reducible exact HS1.out) | (with_reducible apply St.alloc) | (with_reducible apply St.set0) | (with_reducible apply St.set1) | (with_reducible apply St.set2) | (with_reducible apply St.set3) | (with_reducible apply St.drew) | (with_reducible apply St.drewN))); all_goals (try (first | rfl | (simp; done))))) rfl
    · have HI := hide (show inB id 1 1000 = false by simpa using hi)
      have HOK := hide (join_bad (r := r) (a := a) (.inl HI.out))
      clear hi
      go_enter Tryz.func7, Tryz.ntmps7
      go_wp2_with (first
        | (go_at_call 20
           refine (l02Is_c r _ _ _ (Blk.rowAt (d := roomD) (x := r) HS0.out.at1 (room_K_mk (H1.out.below HS0.out.below) (H2.out.below HS0.out.below) (H3.out.below HS0.out.below)) rfl)).mono ?_
           rintro e w1 ⟨rfl, hb⟩
           rw [HV.out]
           have HS1 := hide (HS0.out.by hb)
           (try clear x1_0 x1_1 x1_2 x1_3 xf1 xz1)
           obtain ⟨x1_0, x1_1, x1_2, x1_3⟩ := HS1.out.at0.c4
           have xf1 := HS1.out.at0.frozen
           have xz1 := HS1.out.at0.lt
           (try clear y2_0 y2_1 y2_2 y2_3 yz2)
           obtain ⟨y2_0, y2_1, y2_2, y2_3⟩ := HS1.out.at1.c4
           have yz2 := HS1.out.at1.lt
           clear hb)
        | (go_at_call 21; refine (l02Id_c _ _).mono ?_; rintro e w' ⟨rfl, rfl⟩; rw [HI.out]))
      refine bodyPost_ret (v := .tuple #[.agg #[.bool false, .slice none 0 0, .slice none 0 0, .slice none 0 0], .bool false]) (by simp [results, Tryz.results7, go_sem, x1_0, x1_1, x1_2, x1_3, xf1, xz1]) rfl ?_
      rw [chR_no HOK.out, HOK.out]
      exact St.ret2 (cs := [.bool false, .slice none 0 0, .slice none 0 0, .slice none 0 0]) (F := []) (St.noRoom (by (repeat (first | (with_reducible exact HS1.out) | (with_reducible apply St.alloc) | (with_reducible apply St.set0) | (with_reducible apply St.set1) | (with_reducible apply St.set2) | (with_reducible apply St.set3) | (with_reducible apply St.drew) | (with_reducible apply St.drewN))); all_goals (try (first | rfl | (simp; done))))) rfl
  · have HV := hide (show validRoomB r = false by simpa using hv)
    have HOK := hide (show chOk r (joinF id a) = false by simp [chOk, HV.out])
    clear hv
    go_enter Tryz.func7, Tryz.ntmps7
    go_wp2_with (
      (go_at_call 20
       refine (l02Is_c r _ _ _ (Blk.rowAt (d := roomD) (x := r) HS0.out.at1 (room_K_mk (H1.out.below HS0.out.below) (H2.out.below HS0.out.below) (H3.out.below HS0.out.below)) rfl)).mono ?_
       rintro e w1 ⟨rfl, hb⟩
       rw [HV.out]
       have HS1 := hide (HS0.out.by hb)
       (try clear x1_0 x1_1 x1_2 x1_3 xf1 xz1)
       obtain ⟨x1_0, x1_1, x1_2, x1_3⟩ := HS1.out.at0.c4
       have xf1 := HS1.out.at0.frozen
       have xz1 := HS1.out.at0.lt
       (try clear y2_0 y2_1 y2_2 y2_3 yz2)
       obtain ⟨y2_0, y2_1, y2_2, y2_3⟩ := HS1.out.at1.c4
       have yz2 := HS1.out.at1.lt
       clear hb))
    refine bodyPost_ret (v := .tuple #[.agg #[.bool false, .slice none 0 0, .slice none 0 0, .slice none 0 0], .bool false]) (by simp [results, Tryz.results7, go_sem, x1_0, x1_1, x1_2, x1_3, xf1, xz1]) rfl ?_
    rw [chR_no HOK.out, HOK.out]
    exact St.ret2 (cs := [.bool false, .slice none 0 0, .slice none 0 0, .slice none 0 0]) (F := []) (St.noRoom (by (repeat (first | (with_reducible exact HS1.out) | (with_reducible apply St.alloc) | (with_reducible apply St.set0) | (with_reducible apply St.set1) | (with_reducible apply St.set2) | (with_reducible apply St.set3) | (with_reducible apply St.drew) | (with_reducible apply St.drewN))); all_goals (try (first | rfl | (simp; done))))) rfl
end Go.Proofs.YtnglccgbenlbjaaGreat
