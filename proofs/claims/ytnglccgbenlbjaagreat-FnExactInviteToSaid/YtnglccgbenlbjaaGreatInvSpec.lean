/- Somebody is invited: the reference. -/
import Derived.Test.YtnglccgbenlbjaaGreatJoin
import Derived.Test.YtnglccgbenlbjaaGreatRest
import Derived.Test.YtnglccgbenlbjaaGreatGive
import Derived.Test.YtnglccgbenlbjaaGreatSpecRoom
import Derived.Deep.RegionLaw
import Derived.Deep.DrawnRows
namespace Go.Proofs.YtnglccgbenlbjaaGreat
open Go Go.RowKit Go.BigFrame
set_option linter.unusedVariables false
set_option linter.unusedSimpArgs false
attribute [local go_sem ↓] Go.wp_at_zero Go.wp_at_succ
theorem invite_bad {r : Room} {n id u a : Int} (h : inB u 0 1000000 = false) : chOk r (inviteF n id u a) = false := by
  have : validRoomB (inviteF n id u a r).1 = false := by
    rw [Bool.eq_false_iff]; intro hv
    have := (valid_iff.1 hv).iok (newI n id u) ((insK_mem _ _).2 (.inl rfl))
    simp only [invOkB, newI, Bool.and_eq_true] at this
    rw [h] at this; exact absurd this.1.2 (by simp)
  simp [chOk, this]
set_option maxHeartbeats 4000000 in
set_option maxRecDepth 100000 in
theorem specInviteTo_c (r : Room) (n : Int) (id : Int) (u : Int) (a : Int) (v1 v2 v3 : Value) (w : World) (h1 : SliceK memberD w v1 r.members) (h2 : SliceK inviteD w v2 r.invites) (h3 : SliceK banD w v3 r.bans) :
    Calls Tryz.prog 13 #[.agg #[.bool r.open_, v1, v2, v3], .int .i64 n, .int .i64 id, .int .i64 u, .int .i64 a] w (RetElem2 roomD w (inviteV r n id u a) (inviteOk r n id u a)) := by
  show Calls Tryz.prog 13 #[.agg #[.bool r.open_, v1, v2, v3], .int .i64 n, .int .i64 id, .int .i64 u, .int .i64 a] w (RetElem2 roomD w (chR r (inviteF n id u a)) (chOk r (inviteF n id u a)))
  obtain ⟨A1, c1, rfl⟩ := h1.shape
  obtain ⟨A2, c2, rfl⟩ := h2.shape
  obtain ⟨A3, c3, rfl⟩ := h3.shape
  have H1 := hide h1
  have H2 := hide h2
  have H3 := hide h3
  clear h1 h2 h3
  have HS0 := hide (show St w ((w.alloc (.cells #[.bool r.open_, .slice A1 r.members.length c1, .slice A2 r.invites.length c2, .slice A3 r.bans.length c3] 32)).alloc (.cells #[.bool false, .slice none 0 0, .slice none 0 0, .slice none 0 0] 32)) [blk (w.heap.size + 1) #[.bool false, .slice none 0 0, .slice none 0 0, .slice none 0 0] 32, blk w.heap.size #[.bool r.open_, .slice A1 r.members.length c1, .slice A2 r.invites.length c2, .slice A3 r.bans.length c3] 32] from (((St.start w).alloc rfl).alloc (by simp)))
  by_cases ha : aboveB r n id 3 a = true
  · have HA := hide ha
    have hvm : validRoomB r = true ∧ mayToB r n id 3 a = true := by simpa [aboveB] using ha
    have HVM := hide hvm
    have HFEW := hide (fewR_of hvm.1)
    have h41 := (fewR_of hvm.1).2.1
    have h42 := dropP_le (invIs id) r.invites
    clear ha hvm
    by_cases ht : inB u 0 1000000 = true
    · have HT := hide ht
      clear ht
      by_cases hu : a ≤ u
      · have HU := hide (show decide (a ≤ u) = true from decide_eq_true hu)
        have hud : decide (u < a) = false := decide_eq_false (by omega)
        clear hu
        by_cases hh : hasId r id = false
        · have HH := hide hh
          have hf0 : decide (0 ≤ idxP (idIs id) r.members) = false := hh
          clear hh
          by_cases hb : bannB r id = false
          · have HBN := hide hb
            have hf1 : decide (0 ≤ idxP (banIs id) r.bans) = false := hb
            clear hb
            go_enter Tryz.func13, Tryz.ntmps13
            go_wp2_with (first
              | (go_at_call 50
                 refine (l02Above_c r _ _ n id 3 a _ (Blk.rowAt (d := roomD) (x := r) HS0.out.at1 (room_K_mk (H1.out.below HS0.out.below) (H2.out.below HS0.out.below) (H3.out.below HS0.out.below)) rfl)).mono ?_
                 rintro e w1 ⟨rfl, hb⟩
                 rw [HA.out]
                 have HS1 := hide (HS0.out.by hb)
                 (try clear x1_0 x1_1 x1_2 x1_3 xf1 xz1)
                 obtain ⟨x1_0, x1_1, x1_2, x1_3⟩ := HS1.out.at0.c4
                 have xf1 := HS1.out.at0.frozen
                 have xz1 := HS1.out.at0.lt
                 (try clear y2_0 y2_1 y2_2 y2_3 yz2)
                 obtain ⟨y2_0, y2_1, y2_2, y2_3⟩ := HS1.out.at1.c4
                 have yz2 := HS1.out.at1.lt
                 clear hb)
              | (go_at_call 22; refine (l02Tick_c _ _).mono ?_; rintro e w' ⟨rfl, rfl⟩; rw [HT.out])
              | (go_at_call 23
                 refine (l02Find_c r _ _ id _ (Blk.rowAt (d := roomD) (x := r) HS1.out.at1 (room_K_mk (H1.out.below HS1.out.below) (H2.out.below HS1.out.below) (H3.out.below HS1.out.below)) rfl)).mono ?_
                 rintro e w2 ⟨rfl, hb⟩
                 skip
                 have HS2 := hide (HS1.out.by hb)
                 (try clear x1_0 x1_1 x1_2 x1_3 xf1 xz1)
                 obtain ⟨x1_0, x1_1, x1_2, x1_3⟩ := HS2.out.at0.c4
                 have xf1 := HS2.out.at0.frozen
                 have xz1 := HS2.out.at0.lt
                 (try clear y2_0 y2_1 y2_2 y2_3 yz2)
                 obtain ⟨y2_0, y2_1, y2_2, y2_3⟩ := HS2.out.at1.c4
                 have yz2 := HS2.out.at1.lt
                 clear hb)
              | (go_at_call 24
                 refine (l02Banned_c r _ _ id _ (Blk.rowAt (d := roomD) (x := r) HS2.out.at1 (room_K_mk (H1.out.below HS2.out.below) (H2.out.below HS2.out.below) (H3.out.below HS2.out.below)) rfl)).mono ?_
                 rintro e w2b ⟨rfl, hb⟩
                 skip
                 have HS2b := hide (HS2.out.by hb)
                 (try clear x1_0 x1_1 x1_2 x1_3 xf1 xz1)
                 obtain ⟨x1_0, x1_1, x1_2, x1_3⟩ := HS2b.out.at0.c4
                 have xf1 := HS2b.out.at0.frozen
                 have xz1 := HS2b.out.at0.lt
                 (try clear y2_0 y2_1 y2_2 y2_3 yz2)
                 obtain ⟨y2_0, y2_1, y2_2, y2_3⟩ := HS2b.out.at1.c4
                 have yz2 := HS2b.out.at1.lt
                 clear hb)
              | (go_at_call 26
                 refine (l02Copy_c r _ _ _ (Blk.rowAt (d := roomD) (x := r) HS2b.out.at1 (room_K_mk (H1.out.below HS2b.out.below) (H2.out.below HS2b.out.below) (H3.out.below HS2b.out.below)) rfl) HFEW.out).mono ?_
                 rintro e w3 he
                 obtain ⟨cs9, F9, rfl, hK, hb, hS⟩ := HS2b.out.elem he
                 obtain ⟨u1, u2, u3, rfl, k1, k2, k3⟩ := room_K hK
                 obtain ⟨B1, e1, rfl⟩ := k1.shape
                 obtain ⟨B2, e2, rfl⟩ := k2.shape
                 obtain ⟨B3, e3, rfl⟩ := k3.shape
                 obtain ⟨F1, F2, F3, hP⟩ := hS.roomParts
                 have HPP := hide hP
                 have xz1 := hS.at1.lt
                 obtain ⟨y3_0, y3_1, y3_2, y3_3⟩ := (St.at3 hP.drop).c4
                 have yz3 := (St.at3 hP.drop).lt
                 (try clear x1_0 x1_1 x1_2 x1_3 xf1)
                 clear hK k1 k2 k3 hb hS he hP)
              | (go_at_call 27
                 refine (l02Without_c r.invites _ id _ (H2.out.below (St.below (w0 := w) (L := blk w3.heap.size #[.bool r.open_, .slice B1 r.members.length e1, .slice B2 r.invites.length e2, .slice B3 r.bans.length e3] 32 :: _) (by (repeat (first | (with_reducible exact HPP.out) | (with_reducible apply St.alloc) | (with_reducible apply St.set0) | (with_reducible apply St.set1) | (with_reducible apply St.set2) | (with_reducible apply St.set3) | (with_reducible apply St.drew) | (with_reducible apply St.drewN))); all_goals (try (first | rfl | (simp; done)))))) (by omega)).mono ?_
                 rintro e w4 ⟨v4, rfl, hM, hb⟩
                 obtain ⟨A4, c4, rfl⟩ := hM.shape
                 obtain ⟨F4, hS⟩ := (show St w _ (blk w3.heap.size #[.bool r.open_, .slice B1 r.members.length e1, .slice B2 r.invites.length e2, .slice B3 r.bans.length e3] 32 :: _) by (repeat (first | (with_reducible exact HPP.out) | (with_reducible apply St.alloc) | (with_reducible apply St.set0) | (with_reducible apply St.set1) | (with_reducible apply St.set2) | (with_reducible apply St.set3) | (with_reducible apply St.drew) | (with_reducible apply St.drewN))); all_goals (try (first | rfl | (simp; done)))).made hM hb
                 have HS4 := hide (St.pull1 (St.drop3 hS))
                 obtain ⟨x4_0, x4_1, x4_2, x4_3⟩ := hS.at1.c4
                 have xf4 := hS.at1.frozen
                 have xz4 := hS.at1.lt
                 clear hM hb hS))
            go_loopg [14, 15] (dropP (invIs id) r.invites).length (fun gg s14 s15 wr => ∃ (k : Nat) (out : List Invite) (put : Bool) (A9 : Option Addr) (c9 : Nat) (F9 : List Nat), k ≤ (dropP (invIs id) r.invites).length ∧ (dropP (invIs id) r.invites).length - k ≤ gg ∧ s14 = .bool put ∧ s15 = .int .i64 k ∧ Hid (InsAt Invite.id (newI n id u) (dropP (invIs id) r.invites) out put k) ∧ Hid (St w wr (own inviteD 49 (.slice A9 out.length c9) out F9 :: blk w3.heap.size #[.bool r.open_, .slice B1 r.members.length e1, .slice A9 out.length c9, .slice B3 r.bans.length e3] 32 :: own inviteD 49 (.slice A4 (dropP (invIs id) r.invites).length c4) (dropP (invIs id) r.invites) F4 :: own memberD 54 (.slice B1 r.members.length e1) r.members F1 :: own banD 73 (.slice B3 r.bans.length e3) r.bans F3 :: [blk (w.heap.size + 1) #[.bool false, .slice none 0 0, .slice none 0 0, .slice none 0 0] 32, blk w.heap.size #[.bool r.open_, .slice A1 r.members.length c1, .slice A2 r.invites.length c2, .slice A3 r.bans.length c3] 32])))
            case atStart =>
              exact ⟨0, [], false, _, _, _, Nat.zero_le _, by omega, rfl, rfl, hide (InsAt.start _), hide (St.empty (show St w _ (blk w4.heap.size #[] 49 :: blk w3.heap.size #[.bool r.open_, .slice B1 r.members.length e1, .slice (some ⟨w4.heap.size, 0, none⟩) 0 0, .slice B3 r.bans.length e3] 32 :: own inviteD 49 (.slice A4 (dropP (invIs id) r.invites).length c4) (dropP (invIs id) r.invites) F4 :: own memberD 54 (.slice B1 r.members.length e1) r.members F1 :: own banD 73 (.slice B3 r.bans.length e3) r.bans F3 :: [blk (w.heap.size + 1) #[.bool false, .slice none 0 0, .slice none 0 0, .slice none 0 0] 32, blk w.heap.size #[.bool r.open_, .slice A1 r.members.length c1, .slice A2 r.invites.length c2, .slice A3 r.bans.length c3] 32]) from by (repeat (first | (with_reducible exact HS4.out) | (with_reducible apply St.alloc) | (with_reducible apply St.set0) | (with_reducible apply St.set1) | (with_reducible apply St.set2) | (with_reducible apply St.set3) | (with_reducible apply St.drew) | (with_reducible apply St.drewN))); all_goals (try (first | rfl | (simp; done)))))⟩
            case round =>
              obtain ⟨k, out, put, A9, c9, F9, hk, hg, rfl, rfl, HI, HS⟩ := hrel
              have hol := HI.out.len
              obtain ⟨x0, x1, x2, x3⟩ := HS.out.at1.c4
              have xf := HS.out.at1.frozen
              have xz := HS.out.at1.lt
              by_cases hlt : k < (dropP (invIs id) r.invites).length
              · obtain ⟨x, hx⟩ : ∃ x, (dropP (invIs id) r.invites)[k]? = some x := ⟨_, List.getElem?_eq_getElem hlt⟩
                obtain ⟨⟨q, rfl⟩, -, hle⟩ := St.hasBlk (d := inviteD) rfl HS.out.pull2 hx
                obtain ⟨hcw, hfw, hzw⟩ := St.flatCell (d := inviteD) rfl HS.out.pull2 hx
                obtain ⟨hc0, hc1, hc2⟩ : wr.cell? ⟨q, k * 3, none⟩ = some (.int .i64 x.id) ∧ wr.cell? ⟨q, k * 3 + 1, none⟩ = some (.int .i64 x.by_) ∧ wr.cell? ⟨q, k * 3 + 2, none⟩ = some (.int .i64 x.until_) := ⟨hcw 0 _ rfl, hcw 1 _ rfl, hcw 2 _ rfl⟩
                have HX := hide hx
                have hlt2 : (k : Int) < ((dropP (invIs id) r.invites).length : Int) := by omega
                clear hx hcw
                cases put with
                | true =>
                  go_wp2_with fail
                  go_region_law (
                    refine step_app_st (d := inviteD) (w0 := w) rfl rfl (.tmp 76) (.tmp 81) 29 rfl (.agg #[.int .i64 0, .int .i64 0, .int .i64 0]) 24 Tryz.underlying29 infoInvite rfl (by omega) (by omega) (.slice A9 out.length c9) (out) F9 (by simp [Act.eval, Act.put]) wr.heap.size #[.int .i64 x.id, .int .i64 x.by_, .int .i64 x.until_] (by (repeat (first | (with_reducible exact HS.out) | (with_reducible apply St.alloc) | (with_reducible apply St.set0) | (with_reducible apply St.set1) | (with_reducible apply St.set2) | (with_reducible apply St.set3) | (with_reducible apply St.drew) | (with_reducible apply St.drewN))); all_goals (try (first | rfl | (simp; done)))) 1 (by simp [Act.eval, Act.put]) x rfl (by first | omega | (simp; omega)) ?_
                    intro gB capB wB FB hS
                    have HSB := hide hS
                    obtain ⟨zB0, zB1, zB2, zB3⟩ := hS.at1.c4
                    have zfB := hS.at1.frozen
                    have zzB := hS.at1.lt
                    clear hS)
                  all_goals
                    go_wp2_with fail
                    go_roundg ((dropP (invIs id) r.invites).length - (k + 1))
                    case measure => omega
                    case rel =>
                      refine ⟨k + 1, out ++ [x], true, some ⟨gB, 0, none⟩, capB, FB, by omega, by omega, by first | rfl | simp, by go_num, hide (HI.out.more HX.out), hide ?_⟩
                      have hlen : (out ++ [x]).length = out.length + 1 := by simp
                      rw [hlen]
                      (repeat (first | (with_reducible exact HSB.out) | (with_reducible apply St.alloc) | (with_reducible apply St.set0) | (with_reducible apply St.set1) | (with_reducible apply St.set2) | (with_reducible apply St.set3) | (with_reducible apply St.drew) | (with_reducible apply St.drewN))); all_goals (try (first | rfl | (simp; done)))
                | false =>
                  by_cases hid : id < x.id
                  · have HID := hide (show (newI n id u).id < x.id from hid)
                    have hdd : decide (id < x.id) = true := decide_eq_true hid
                    clear hid
                    go_wp2_with (first
                      | (at_builtin
                         refine wpList_app1_st (d := inviteD) (w0 := w) rfl _ rfl _ _ _ rfl (.agg #[.int .i64 0, .int .i64 0, .int .i64 0]) 24 Tryz.underlying29 infoInvite rfl (by omega) (by omega) (.slice A9 out.length c9) (out) F9 rfl wr.heap.size #[.int .i64 id, .int .i64 n, .int .i64 u] (by (repeat (first | (with_reducible exact HS.out) | (with_reducible apply St.alloc) | (with_reducible apply St.set0) | (with_reducible apply St.set1) | (with_reducible apply St.set2) | (with_reducible apply St.set3) | (with_reducible apply St.drew) | (with_reducible apply St.drewN))); all_goals (try (first | rfl | (simp; done)))) 1 rfl (newI n id u) rfl (by first | omega | (simp; omega)) ?_
                         intro gA capA wA FA hS
                         have HSA := hide hS
                         obtain ⟨zA0, zA1, zA2, zA3⟩ := hS.at1.c4
                         have zfA := hS.at1.frozen
                         have zzA := hS.at1.lt
                         obtain ⟨hcw, hfwA, hzwA⟩ := St.flatCell (d := inviteD) rfl hS.pull2 HX.out; obtain ⟨ec0, ec1, ec2⟩ : wA.cell? ⟨q, k * 3, none⟩ = some (.int .i64 x.id) ∧ wA.cell? ⟨q, k * 3 + 1, none⟩ = some (.int .i64 x.by_) ∧ wA.cell? ⟨q, k * 3 + 2, none⟩ = some (.int .i64 x.until_) := ⟨hcw 0 _ rfl, hcw 1 _ rfl, hcw 2 _ rfl⟩; obtain ⟨nq1, nq2⟩ := St.apart (d := inviteD) rfl hS.drop
                         clear hS))
                    go_region_law (
                      refine step_app_st (d := inviteD) (w0 := w) rfl rfl (.tmp 76) (.tmp 81) 29 rfl (.agg #[.int .i64 0, .int .i64 0, .int .i64 0]) 24 Tryz.underlying29 infoInvite rfl (by omega) (by omega) (.slice (some ⟨gA, 0, none⟩) (out.length + 1) capA) ((out ++ [newI n id u])) FA (by simp [Act.eval, Act.put]) wA.heap.size #[.int .i64 x.id, .int .i64 x.by_, .int .i64 x.until_] (by (repeat (first | (with_reducible exact HSA.out) | (with_reducible apply St.alloc) | (with_reducible apply St.set0) | (with_reducible apply St.set1) | (with_reducible apply St.set2) | (with_reducible apply St.set3) | (with_reducible apply St.drew) | (with_reducible apply St.drewN))); all_goals (try (first | rfl | (simp; done)))) 1 (by simp [Act.eval, Act.put]) x rfl (by first | omega | (simp; omega)) ?_
                      intro gB capB wB FB hS
                      have HSB := hide hS
                      obtain ⟨zB0, zB1, zB2, zB3⟩ := hS.at1.c4
                      have zfB := hS.at1.frozen
                      have zzB := hS.at1.lt
                      clear hS)
                    all_goals
                      go_wp2_with fail
                      go_roundg ((dropP (invIs id) r.invites).length - (k + 1))
                      case measure => omega
                      case rel =>
                        refine ⟨k + 1, out ++ [newI n id u] ++ [x], true, some ⟨gB, 0, none⟩, capB, FB, by omega, by omega, by first | rfl | simp, by go_num, hide (HI.out.put HX.out HID.out), hide ?_⟩
                        have hlen : (out ++ [newI n id u] ++ [x]).length = (out ++ [newI n id u]).length + 1 := by simp
                        rw [hlen]
                        (repeat (first | (with_reducible exact HSB.out) | (with_reducible apply St.alloc) | (with_reducible apply St.set0) | (with_reducible apply St.set1) | (with_reducible apply St.set2) | (with_reducible apply St.set3) | (with_reducible apply St.drew) | (with_reducible apply St.drewN))); all_goals (try (first | rfl | (simp; done)))
                  · have HID := hide (show ¬ (newI n id u).id < x.id from hid)
                    have hdd : decide (id < x.id) = false := decide_eq_false hid
                    clear hid
                    go_wp2_with fail
                    go_region_law (
                      refine step_app_st (d := inviteD) (w0 := w) rfl rfl (.tmp 76) (.tmp 81) 29 rfl (.agg #[.int .i64 0, .int .i64 0, .int .i64 0]) 24 Tryz.underlying29 infoInvite rfl (by omega) (by omega) (.slice A9 out.length c9) (out) F9 (by simp [Act.eval, Act.put]) wr.heap.size #[.int .i64 x.id, .int .i64 x.by_, .int .i64 x.until_] (by (repeat (first | (with_reducible exact HS.out) | (with_reducible apply St.alloc) | (with_reducible apply St.set0) | (with_reducible apply St.set1) | (with_reducible apply St.set2) | (with_reducible apply St.set3) | (with_reducible apply St.drew) | (with_reducible apply St.drewN))); all_goals (try (first | rfl | (simp; done)))) 1 (by simp [Act.eval, Act.put]) x rfl (by first | omega | (simp; omega)) ?_
                      intro gB capB wB FB hS
                      have HSB := hide hS
                      obtain ⟨zB0, zB1, zB2, zB3⟩ := hS.at1.c4
                      have zfB := hS.at1.frozen
                      have zzB := hS.at1.lt
                      clear hS)
                    all_goals
                      go_wp2_with fail
                      go_roundg ((dropP (invIs id) r.invites).length - (k + 1))
                      case measure => omega
                      case rel =>
                        refine ⟨k + 1, out ++ [x], false, some ⟨gB, 0, none⟩, capB, FB, by omega, by omega, by first | rfl | simp, by go_num, hide (HI.out.keep HX.out (Int.not_lt.2 HID.out)), hide ?_⟩
                        have hlen : (out ++ [x]).length = out.length + 1 := by simp
                        rw [hlen]
                        (repeat (first | (with_reducible exact HSB.out) | (with_reducible apply St.alloc) | (with_reducible apply St.set0) | (with_reducible apply St.set1) | (with_reducible apply St.set2) | (with_reducible apply St.set3) | (with_reducible apply St.drew) | (with_reducible apply St.drewN))); all_goals (try (first | rfl | (simp; done)))
              · obtain rfl : k = (dropP (invIs id) r.invites).length := by omega
                clear hlt hk hg
                obtain ⟨v0, v1, v2, v3⟩ := (St.at3 HS.out.drop.drop).c4
                have vf := (St.at3 HS.out.drop.drop).frozen
                cases put with
                | true =>
                  have hd := HI.out.done
                  subst hd
                  have HSD := hide HS.out.drop2
                  by_cases hv2 : validRoomB ({ r with invites := insK Invite.id (newI n id u) (dropP (invIs id) r.invites) }) = true
                  · have HV2 := hide hv2
                    have HOK := hide (show chOk r (inviteF n id u a) = true by simp only [chOk, inviteF]; rw [HV2.out, HVM.out.1, HVM.out.2, HH.out, HBN.out, HU.out]; rfl)
                    clear hv2
                    go_wp2_with (first
                      | (go_at_call 29
                         refine (l02Give_yes ({ r with invites := insK Invite.id (newI n id u) (dropP (invIs id) r.invites) }) _ _ _ _ _ _ _ _ _ _ (St.pull1 (St.drop1 (show St w _ (own inviteD 49 (.slice A9 (insK Invite.id (newI n id u) (dropP (invIs id) r.invites)).length c9) (insK Invite.id (newI n id u) (dropP (invIs id) r.invites)) F9 :: blk w3.heap.size #[.bool r.open_, .slice B1 r.members.length e1, .slice A9 (insK Invite.id (newI n id u) (dropP (invIs id) r.invites)).length c9, .slice B3 r.bans.length e3] 32 :: own memberD 54 (.slice B1 r.members.length e1) r.members F1 :: own banD 73 (.slice B3 r.bans.length e3) r.bans F3 :: [blk (w.heap.size + 1) #[.bool false, .slice none 0 0, .slice none 0 0, .slice none 0 0] 32, blk w.heap.size #[.bool r.open_, .slice A1 r.members.length c1, .slice A2 r.invites.length c2, .slice A3 r.bans.length c3] 32]) from by (repeat (first | (with_reducible exact HSD.out) | (with_reducible apply St.alloc) | (with_reducible apply St.set0) | (with_reducible apply St.set1) | (with_reducible apply St.set2) | (with_reducible apply St.set3) | (with_reducible apply St.drew) | (with_reducible apply St.drewN))); all_goals (try (first | rfl | (simp; done)))))).toK (St.toK (St.pull1 (St.drop1 (show St w _ (own inviteD 49 (.slice A9 (insK Invite.id (newI n id u) (dropP (invIs id) r.invites)).length c9) (insK Invite.id (newI n id u) (dropP (invIs id) r.invites)) F9 :: blk w3.heap.size #[.bool r.open_, .slice B1 r.members.length e1, .slice A9 (insK Invite.id (newI n id u) (dropP (invIs id) r.invites)).length c9, .slice B3 r.bans.length e3] 32 :: own memberD 54 (.slice B1 r.members.length e1) r.members F1 :: own banD 73 (.slice B3 r.bans.length e3) r.bans F3 :: [blk (w.heap.size + 1) #[.bool false, .slice none 0 0, .slice none 0 0, .slice none 0 0] 32, blk w.heap.size #[.bool r.open_, .slice A1 r.members.length c1, .slice A2 r.invites.length c2, .slice A3 r.bans.length c3] 32]) from by (repeat (first | (with_reducible exact HSD.out) | (with_reducible apply St.alloc) | (with_reducible apply St.set0) | (with_reducible apply St.set1) | (with_reducible apply St.set2) | (with_reducible apply St.set3) | (with_reducible apply St.drew) | (with_reducible apply St.drewN))); all_goals (try (first | rfl | (simp; done)))))).pull1) (St.toK (St.pull1 (St.drop1 (show St w _ (own inviteD 49 (.slice A9 (insK Invite.id (newI n id u) (dropP (invIs id) r.invites)).length c9) (insK Invite.id (newI n id u) (dropP (invIs id) r.invites)) F9 :: blk w3.heap.size #[.bool r.open_, .slice B1 r.members.length e1, .slice A9 (insK Invite.id (newI n id u) (dropP (invIs id) r.invites)).length c9, .slice B3 r.bans.length e3] 32 :: own memberD 54 (.slice B1 r.members.length e1) r.members F1 :: own banD 73 (.slice B3 r.bans.length e3) r.bans F3 :: [blk (w.heap.size + 1) #[.bool false, .slice none 0 0, .slice none 0 0, .slice none 0 0] 32, blk w.heap.size #[.bool r.open_, .slice A1 r.members.length c1, .slice A2 r.invites.length c2, .slice A3 r.bans.length c3] 32]) from by (repeat (first | (with_reducible exact HSD.out) | (with_reducible apply St.alloc) | (with_reducible apply St.set0) | (with_reducible apply St.set1) | (with_reducible apply St.set2) | (with_reducible apply St.set3) | (with_reducible apply St.drew) | (with_reducible apply St.drewN))); all_goals (try (first | rfl | (simp; done)))))).pull2) HV2.out).mono ?_
                         rintro e w6 ⟨rfl, hb⟩
                         have HS7 := hide (St.by (St.pull1 (St.drop1 (show St w _ (own inviteD 49 (.slice A9 (insK Invite.id (newI n id u) (dropP (invIs id) r.invites)).length c9) (insK Invite.id (newI n id u) (dropP (invIs id) r.invites)) F9 :: blk w3.heap.size #[.bool r.open_, .slice B1 r.members.length e1, .slice A9 (insK Invite.id (newI n id u) (dropP (invIs id) r.invites)).length c9, .slice B3 r.bans.length e3] 32 :: own memberD 54 (.slice B1 r.members.length e1) r.members F1 :: own banD 73 (.slice B3 r.bans.length e3) r.bans F3 :: [blk (w.heap.size + 1) #[.bool false, .slice none 0 0, .slice none 0 0, .slice none 0 0] 32, blk w.heap.size #[.bool r.open_, .slice A1 r.members.length c1, .slice A2 r.invites.length c2, .slice A3 r.bans.length c3] 32]) from by (repeat (first | (with_reducible exact HSD.out) | (with_reducible apply St.alloc) | (with_reducible apply St.set0) | (with_reducible apply St.set1) | (with_reducible apply St.set2) | (with_reducible apply St.set3) | (with_reducible apply St.drew) | (with_reducible apply St.drewN))); all_goals (try (first | rfl | (simp; done)))))) hb)
                         (try clear x1_0 x1_1 x1_2 x1_3 xf1)
                         obtain ⟨x1_0, x1_1, x1_2, x1_3⟩ := (St.at3 HS7.out).c4
                         have xf1 := (St.at3 HS7.out).frozen
                         have xz6 := (St.at3 HS7.out).lt
                         clear hb))
                    refine bodyPost_ret (v := .tuple #[.agg #[.bool r.open_, .slice B1 r.members.length e1, .slice A9 (insK Invite.id (newI n id u) (dropP (invIs id) r.invites)).length c9, .slice B3 r.bans.length e3], .bool true]) (by simp [results, Tryz.results13, go_sem, x1_0, x1_1, x1_2, x1_3, xf1, xz6]) rfl ?_
                    rw [show chR r (inviteF n id u a) = ({ r with invites := insK Invite.id (newI n id u) (dropP (invIs id) r.invites) }) from chR_yes HOK.out, HOK.out]
                    exact St.ret2 (cs := [.bool r.open_, .slice B1 r.members.length e1, .slice A9 (insK Invite.id (newI n id u) (dropP (invIs id) r.invites)).length c9, .slice B3 r.bans.length e3]) (F := F1 ++ (F9 ++ F3)) (St.room2 (x := { r with invites := insK Invite.id (newI n id u) (dropP (invIs id) r.invites) }) (by (repeat (first | (with_reducible exact HS7.out) | (with_reducible apply St.alloc) | (with_reducible apply St.set0) | (with_reducible apply St.set1) | (with_reducible apply St.set2) | (with_reducible apply St.set3) | (with_reducible apply St.drew) | (with_reducible apply St.drewN))); all_goals (try (first | rfl | (simp; done))))) rfl
                  · have HV2 := hide (show validRoomB ({ r with invites := insK Invite.id (newI n id u) (dropP (invIs id) r.invites) }) = false by simpa using hv2)
                    have HOK := hide (show chOk r (inviteF n id u a) = false by simp only [chOk, inviteF]; rw [HV2.out]; simp)
                    clear hv2
                    go_wp2_with (first
                      | (go_at_call 29
                         refine (l02Give_no ({ r with invites := insK Invite.id (newI n id u) (dropP (invIs id) r.invites) }) _ _ _ _ _ _ _ _ _ _ (St.pull1 (St.drop1 (show St w _ (own inviteD 49 (.slice A9 (insK Invite.id (newI n id u) (dropP (invIs id) r.invites)).length c9) (insK Invite.id (newI n id u) (dropP (invIs id) r.invites)) F9 :: blk w3.heap.size #[.bool r.open_, .slice B1 r.members.length e1, .slice A9 (insK Invite.id (newI n id u) (dropP (invIs id) r.invites)).length c9, .slice B3 r.bans.length e3] 32 :: own memberD 54 (.slice B1 r.members.length e1) r.members F1 :: own banD 73 (.slice B3 r.bans.length e3) r.bans F3 :: [blk (w.heap.size + 1) #[.bool false, .slice none 0 0, .slice none 0 0, .slice none 0 0] 32, blk w.heap.size #[.bool r.open_, .slice A1 r.members.length c1, .slice A2 r.invites.length c2, .slice A3 r.bans.length c3] 32]) from by (repeat (first | (with_reducible exact HSD.out) | (with_reducible apply St.alloc) | (with_reducible apply St.set0) | (with_reducible apply St.set1) | (with_reducible apply St.set2) | (with_reducible apply St.set3) | (with_reducible apply St.drew) | (with_reducible apply St.drewN))); all_goals (try (first | rfl | (simp; done)))))).toK (St.toK (St.pull1 (St.drop1 (show St w _ (own inviteD 49 (.slice A9 (insK Invite.id (newI n id u) (dropP (invIs id) r.invites)).length c9) (insK Invite.id (newI n id u) (dropP (invIs id) r.invites)) F9 :: blk w3.heap.size #[.bool r.open_, .slice B1 r.members.length e1, .slice A9 (insK Invite.id (newI n id u) (dropP (invIs id) r.invites)).length c9, .slice B3 r.bans.length e3] 32 :: own memberD 54 (.slice B1 r.members.length e1) r.members F1 :: own banD 73 (.slice B3 r.bans.length e3) r.bans F3 :: [blk (w.heap.size + 1) #[.bool false, .slice none 0 0, .slice none 0 0, .slice none 0 0] 32, blk w.heap.size #[.bool r.open_, .slice A1 r.members.length c1, .slice A2 r.invites.length c2, .slice A3 r.bans.length c3] 32]) from by (repeat (first | (with_reducible exact HSD.out) | (with_reducible apply St.alloc) | (with_reducible apply St.set0) | (with_reducible apply St.set1) | (with_reducible apply St.set2) | (with_reducible apply St.set3) | (with_reducible apply St.drew) | (with_reducible apply St.drewN))); all_goals (try (first | rfl | (simp; done)))))).pull1) (St.toK (St.pull1 (St.drop1 (show St w _ (own inviteD 49 (.slice A9 (insK Invite.id (newI n id u) (dropP (invIs id) r.invites)).length c9) (insK Invite.id (newI n id u) (dropP (invIs id) r.invites)) F9 :: blk w3.heap.size #[.bool r.open_, .slice B1 r.members.length e1, .slice A9 (insK Invite.id (newI n id u) (dropP (invIs id) r.invites)).length c9, .slice B3 r.bans.length e3] 32 :: own memberD 54 (.slice B1 r.members.length e1) r.members F1 :: own banD 73 (.slice B3 r.bans.length e3) r.bans F3 :: [blk (w.heap.size + 1) #[.bool false, .slice none 0 0, .slice none 0 0, .slice none 0 0] 32, blk w.heap.size #[.bool r.open_, .slice A1 r.members.length c1, .slice A2 r.invites.length c2, .slice A3 r.bans.length c3] 32]) from by (repeat (first | (with_reducible exact HSD.out) | (with_reducible apply St.alloc) | (with_reducible apply St.set0) | (with_reducible apply St.set1) | (with_reducible apply St.set2) | (with_reducible apply St.set3) | (with_reducible apply St.drew) | (with_reducible apply St.drewN))); all_goals (try (first | rfl | (simp; done)))))).pull2) HV2.out).mono ?_
                         rintro e w6 ⟨rfl, hb⟩
                         have HS7 := hide (St.by (St.pull1 (St.drop1 (show St w _ (own inviteD 49 (.slice A9 (insK Invite.id (newI n id u) (dropP (invIs id) r.invites)).length c9) (insK Invite.id (newI n id u) (dropP (invIs id) r.invites)) F9 :: blk w3.heap.size #[.bool r.open_, .slice B1 r.members.length e1, .slice A9 (insK Invite.id (newI n id u) (dropP (invIs id) r.invites)).length c9, .slice B3 r.bans.length e3] 32 :: own memberD 54 (.slice B1 r.members.length e1) r.members F1 :: own banD 73 (.slice B3 r.bans.length e3) r.bans F3 :: [blk (w.heap.size + 1) #[.bool false, .slice none 0 0, .slice none 0 0, .slice none 0 0] 32, blk w.heap.size #[.bool r.open_, .slice A1 r.members.length c1, .slice A2 r.invites.length c2, .slice A3 r.bans.length c3] 32]) from by (repeat (first | (with_reducible exact HSD.out) | (with_reducible apply St.alloc) | (with_reducible apply St.set0) | (with_reducible apply St.set1) | (with_reducible apply St.set2) | (with_reducible apply St.set3) | (with_reducible apply St.drew) | (with_reducible apply St.drewN))); all_goals (try (first | rfl | (simp; done)))))) hb)
                         (try clear x1_0 x1_1 x1_2 x1_3 xf1)
                         obtain ⟨x1_0, x1_1, x1_2, x1_3⟩ := (St.at3 HS7.out).c4
                         have xf1 := (St.at3 HS7.out).frozen
                         have xz6 := (St.at3 HS7.out).lt
                         clear hb))
                    have HS8 := hide HS7.out.pull3
                    have xz1 := xz6
                    refine bodyPost_ret (v := .tuple #[.agg #[.bool false, .slice none 0 0, .slice none 0 0, .slice none 0 0], .bool false]) (by simp [results, Tryz.results13, go_sem, x1_0, x1_1, x1_2, x1_3, xf1, xz1]) rfl ?_
                    rw [chR_no HOK.out, HOK.out]
                    exact St.ret2 (cs := [.bool false, .slice none 0 0, .slice none 0 0, .slice none 0 0]) (F := []) (St.noRoom (by (repeat (first | (with_reducible exact HS8.out) | (with_reducible apply St.alloc) | (with_reducible apply St.set0) | (with_reducible apply St.set1) | (with_reducible apply St.set2) | (with_reducible apply St.set3) | (with_reducible apply St.drew) | (with_reducible apply St.drewN))); all_goals (try (first | rfl | (simp; done))))) rfl

                | false =>
                  have HLA := hide HI.out.last
                  have hlen9 : (insK Invite.id (newI n id u) (dropP (invIs id) r.invites)).length = out.length + 1 := by rw [← HLA.out]; simp
                  by_cases hv2 : validRoomB ({ r with invites := insK Invite.id (newI n id u) (dropP (invIs id) r.invites) }) = true
                  · have HV2 := hide hv2
                    have HOK := hide (show chOk r (inviteF n id u a) = true by simp only [chOk, inviteF]; rw [HV2.out, HVM.out.1, HVM.out.2, HH.out, HBN.out, HU.out]; rfl)
                    clear hv2
                    go_wp2_with (first
                      | (at_builtin
                         refine wpList_app1_st (d := inviteD) (w0 := w) rfl _ rfl _ _ _ rfl (.agg #[.int .i64 0, .int .i64 0, .int .i64 0]) 24 Tryz.underlying29 infoInvite rfl (by omega) (by omega) (.slice A9 out.length c9) (out) F9 rfl wr.heap.size #[.int .i64 id, .int .i64 n, .int .i64 u] (by (repeat (first | (with_reducible exact HS.out) | (with_reducible apply St.alloc) | (with_reducible apply St.set0) | (with_reducible apply St.set1) | (with_reducible apply St.set2) | (with_reducible apply St.set3) | (with_reducible apply St.drew) | (with_reducible apply St.drewN))); all_goals (try (first | rfl | (simp; done)))) 1 rfl (newI n id u) rfl (by first | omega | (simp; omega)) ?_
                         intro gL capL wL FL hS
                         have HSL := hide hS
                         obtain ⟨zL0, zL1, zL2, zL3⟩ := hS.at1.c4
                         have zfL := hS.at1.frozen
                         have zzL := hS.at1.lt
                         rw [HLA.out] at hS; have HSM := hide hS.drop2; obtain ⟨v0, v1, v2, v3⟩ := (St.at3 hS.drop.drop).c4
                         clear hS)
                      | (go_at_call 29
                         refine (l02Give_yes ({ r with invites := insK Invite.id (newI n id u) (dropP (invIs id) r.invites) }) _ _ _ _ _ _ _ _ _ _ (St.pull1 (St.drop1 (show St w _ (own inviteD 49 (.slice (some ⟨gL, 0, none⟩) (out.length + 1) capL) (insK Invite.id (newI n id u) (dropP (invIs id) r.invites)) FL :: blk w3.heap.size #[.bool r.open_, .slice B1 r.members.length e1, .slice (some ⟨gL, 0, none⟩) (out.length + 1) capL, .slice B3 r.bans.length e3] 32 :: own memberD 54 (.slice B1 r.members.length e1) r.members F1 :: own banD 73 (.slice B3 r.bans.length e3) r.bans F3 :: [blk (w.heap.size + 1) #[.bool false, .slice none 0 0, .slice none 0 0, .slice none 0 0] 32, blk w.heap.size #[.bool r.open_, .slice A1 r.members.length c1, .slice A2 r.invites.length c2, .slice A3 r.bans.length c3] 32]) from by (repeat (first | (with_reducible exact HSM.out) | (with_reducible apply St.alloc) | (with_reducible apply St.set0) | (with_reducible apply St.set1) | (with_reducible apply St.set2) | (with_reducible apply St.set3) | (with_reducible apply St.drew) | (with_reducible apply St.drewN))); all_goals (try (first | rfl | (simp; done)))))).toK (St.toK (St.pull1 (St.drop1 (show St w _ (own inviteD 49 (.slice (some ⟨gL, 0, none⟩) (out.length + 1) capL) (insK Invite.id (newI n id u) (dropP (invIs id) r.invites)) FL :: blk w3.heap.size #[.bool r.open_, .slice B1 r.members.length e1, .slice (some ⟨gL, 0, none⟩) (out.length + 1) capL, .slice B3 r.bans.length e3] 32 :: own memberD 54 (.slice B1 r.members.length e1) r.members F1 :: own banD 73 (.slice B3 r.bans.length e3) r.bans F3 :: [blk (w.heap.size + 1) #[.bool false, .slice none 0 0, .slice none 0 0, .slice none 0 0] 32, blk w.heap.size #[.bool r.open_, .slice A1 r.members.length c1, .slice A2 r.invites.length c2, .slice A3 r.bans.length c3] 32]) from by (repeat (first | (with_reducible exact HSM.out) | (with_reducible apply St.alloc) | (with_reducible apply St.set0) | (with_reducible apply St.set1) | (with_reducible apply St.set2) | (with_reducible apply St.set3) | (with_reducible apply St.drew) | (with_reducible apply St.drewN))); all_goals (try (first | rfl | (simp; done)))))).pull1) (St.toK (St.pull1 (St.drop1 (show St w _ (own inviteD 49 (.slice (some ⟨gL, 0, none⟩) (out.length + 1) capL) (insK Invite.id (newI n id u) (dropP (invIs id) r.invites)) FL :: blk w3.heap.size #[.bool r.open_, .slice B1 r.members.length e1, .slice (some ⟨gL, 0, none⟩) (out.length + 1) capL, .slice B3 r.bans.length e3] 32 :: own memberD 54 (.slice B1 r.members.length e1) r.members F1 :: own banD 73 (.slice B3 r.bans.length e3) r.bans F3 :: [blk (w.heap.size + 1) #[.bool false, .slice none 0 0, .slice none 0 0, .slice none 0 0] 32, blk w.heap.size #[.bool r.open_, .slice A1 r.members.length c1, .slice A2 r.invites.length c2, .slice A3 r.bans.length c3] 32]) from by (repeat (first | (with_reducible exact HSM.out) | (with_reducible apply St.alloc) | (with_reducible apply St.set0) | (with_reducible apply St.set1) | (with_reducible apply St.set2) | (with_reducible apply St.set3) | (with_reducible apply St.drew) | (with_reducible apply St.drewN))); all_goals (try (first | rfl | (simp; done)))))).pull2) HV2.out).mono ?_
                         rintro e w6 ⟨rfl, hb⟩
                         have HS7 := hide (St.by (St.pull1 (St.drop1 (show St w _ (own inviteD 49 (.slice (some ⟨gL, 0, none⟩) (out.length + 1) capL) (insK Invite.id (newI n id u) (dropP (invIs id) r.invites)) FL :: blk w3.heap.size #[.bool r.open_, .slice B1 r.members.length e1, .slice (some ⟨gL, 0, none⟩) (out.length + 1) capL, .slice B3 r.bans.length e3] 32 :: own memberD 54 (.slice B1 r.members.length e1) r.members F1 :: own banD 73 (.slice B3 r.bans.length e3) r.bans F3 :: [blk (w.heap.size + 1) #[.bool false, .slice none 0 0, .slice none 0 0, .slice none 0 0] 32, blk w.heap.size #[.bool r.open_, .slice A1 r.members.length c1, .slice A2 r.invites.length c2, .slice A3 r.bans.length c3] 32]) from by (repeat (first | (with_reducible exact HSM.out) | (with_reducible apply St.alloc) | (with_reducible apply St.set0) | (with_reducible apply St.set1) | (with_reducible apply St.set2) | (with_reducible apply St.set3) | (with_reducible apply St.drew) | (with_reducible apply St.drewN))); all_goals (try (first | rfl | (simp; done)))))) hb)
                         (try clear x1_0 x1_1 x1_2 x1_3 xf1)
                         obtain ⟨x1_0, x1_1, x1_2, x1_3⟩ := (St.at3 HS7.out).c4
                         have xf1 := (St.at3 HS7.out).frozen
                         have xz6 := (St.at3 HS7.out).lt
                         clear hb))
                    refine bodyPost_ret (v := .tuple #[.agg #[.bool r.open_, .slice B1 r.members.length e1, .slice (some ⟨gL, 0, none⟩) (out.length + 1) capL, .slice B3 r.bans.length e3], .bool true]) (by simp [results, Tryz.results13, go_sem, x1_0, x1_1, x1_2, x1_3, xf1, xz6]) rfl ?_
                    rw [show chR r (inviteF n id u a) = ({ r with invites := insK Invite.id (newI n id u) (dropP (invIs id) r.invites) }) from chR_yes HOK.out, HOK.out]
                    exact St.ret2 (cs := [.bool r.open_, .slice B1 r.members.length e1, .slice (some ⟨gL, 0, none⟩) (out.length + 1) capL, .slice B3 r.bans.length e3]) (F := F1 ++ (FL ++ F3)) (St.room2 (x := { r with invites := insK Invite.id (newI n id u) (dropP (invIs id) r.invites) }) (by (repeat (first | (with_reducible exact HS7.out) | (with_reducible apply St.alloc) | (with_reducible apply St.set0) | (with_reducible apply St.set1) | (with_reducible apply St.set2) | (with_reducible apply St.set3) | (with_reducible apply St.drew) | (with_reducible apply St.drewN))); all_goals (try (first | rfl | (simp; done))))) rfl
                  · have HV2 := hide (show validRoomB ({ r with invites := insK Invite.id (newI n id u) (dropP (invIs id) r.invites) }) = false by simpa using hv2)
                    have HOK := hide (show chOk r (inviteF n id u a) = false by simp only [chOk, inviteF]; rw [HV2.out]; simp)
                    clear hv2
                    go_wp2_with (first
                      | (at_builtin
                         refine wpList_app1_st (d := inviteD) (w0 := w) rfl _ rfl _ _ _ rfl (.agg #[.int .i64 0, .int .i64 0, .int .i64 0]) 24 Tryz.underlying29 infoInvite rfl (by omega) (by omega) (.slice A9 out.length c9) (out) F9 rfl wr.heap.size #[.int .i64 id, .int .i64 n, .int .i64 u] (by (repeat (first | (with_reducible exact HS.out) | (with_reducible apply St.alloc) | (with_reducible apply St.set0) | (with_reducible apply St.set1) | (with_reducible apply St.set2) | (with_reducible apply St.set3) | (with_reducible apply St.drew) | (with_reducible apply St.drewN))); all_goals (try (first | rfl | (simp; done)))) 1 rfl (newI n id u) rfl (by first | omega | (simp; omega)) ?_
                         intro gL capL wL FL hS
                         have HSL := hide hS
                         obtain ⟨zL0, zL1, zL2, zL3⟩ := hS.at1.c4
                         have zfL := hS.at1.frozen
                         have zzL := hS.at1.lt
                         rw [HLA.out] at hS; have HSM := hide hS.drop2; obtain ⟨v0, v1, v2, v3⟩ := (St.at3 hS.drop.drop).c4
                         clear hS)
                      | (go_at_call 29
                         refine (l02Give_no ({ r with invites := insK Invite.id (newI n id u) (dropP (invIs id) r.invites) }) _ _ _ _ _ _ _ _ _ _ (St.pull1 (St.drop1 (show St w _ (own inviteD 49 (.slice (some ⟨gL, 0, none⟩) (out.length + 1) capL) (insK Invite.id (newI n id u) (dropP (invIs id) r.invites)) FL :: blk w3.heap.size #[.bool r.open_, .slice B1 r.members.length e1, .slice (some ⟨gL, 0, none⟩) (out.length + 1) capL, .slice B3 r.bans.length e3] 32 :: own memberD 54 (.slice B1 r.members.length e1) r.members F1 :: own banD 73 (.slice B3 r.bans.length e3) r.bans F3 :: [blk (w.heap.size + 1) #[.bool false, .slice none 0 0, .slice none 0 0, .slice none 0 0] 32, blk w.heap.size #[.bool r.open_, .slice A1 r.members.length c1, .slice A2 r.invites.length c2, .slice A3 r.bans.length c3] 32]) from by (repeat (first | (with_reducible exact HSM.out) | (with_reducible apply St.alloc) | (with_reducible apply St.set0) | (with_reducible apply St.set1) | (with_reducible apply St.set2) | (with_reducible apply St.set3) | (with_reducible apply St.drew) | (with_reducible apply St.drewN))); all_goals (try (first | rfl | (simp; done)))))).toK (St.toK (St.pull1 (St.drop1 (show St w _ (own inviteD 49 (.slice (some ⟨gL, 0, none⟩) (out.length + 1) capL) (insK Invite.id (newI n id u) (dropP (invIs id) r.invites)) FL :: blk w3.heap.size #[.bool r.open_, .slice B1 r.members.length e1, .slice (some ⟨gL, 0, none⟩) (out.length + 1) capL, .slice B3 r.bans.length e3] 32 :: own memberD 54 (.slice B1 r.members.length e1) r.members F1 :: own banD 73 (.slice B3 r.bans.length e3) r.bans F3 :: [blk (w.heap.size + 1) #[.bool false, .slice none 0 0, .slice none 0 0, .slice none 0 0] 32, blk w.heap.size #[.bool r.open_, .slice A1 r.members.length c1, .slice A2 r.invites.length c2, .slice A3 r.bans.length c3] 32]) from by (repeat (first | (with_reducible exact HSM.out) | (with_reducible apply St.alloc) | (with_reducible apply St.set0) | (with_reducible apply St.set1) | (with_reducible apply St.set2) | (with_reducible apply St.set3) | (with_reducible apply St.drew) | (with_reducible apply St.drewN))); all_goals (try (first | rfl | (simp; done)))))).pull1) (St.toK (St.pull1 (St.drop1 (show St w _ (own inviteD 49 (.slice (some ⟨gL, 0, none⟩) (out.length + 1) capL) (insK Invite.id (newI n id u) (dropP (invIs id) r.invites)) FL :: blk w3.heap.size #[.bool r.open_, .slice B1 r.members.length e1, .slice (some ⟨gL, 0, none⟩) (out.length + 1) capL, .slice B3 r.bans.length e3] 32 :: own memberD 54 (.slice B1 r.members.length e1) r.members F1 :: own banD 73 (.slice B3 r.bans.length e3) r.bans F3 :: [blk (w.heap.size + 1) #[.bool false, .slice none 0 0, .slice none 0 0, .slice none 0 0] 32, blk w.heap.size #[.bool r.open_, .slice A1 r.members.length c1, .slice A2 r.invites.length c2, .slice A3 r.bans.length c3] 32]) from by (repeat (first | (with_reducible exact HSM.out) | (with_reducible apply St.alloc) | (with_reducible apply St.set0) | (with_reducible apply St.set1) | (with_reducible apply St.set2) | (with_reducible apply St.set3) | (with_reducible apply St.drew) | (with_reducible apply St.drewN))); all_goals (try (first | rfl | (simp; done)))))).pull2) HV2.out).mono ?_
                         rintro e w6 ⟨rfl, hb⟩
                         have HS7 := hide (St.by (St.pull1 (St.drop1 (show St w _ (own inviteD 49 (.slice (some ⟨gL, 0, none⟩) (out.length + 1) capL) (insK Invite.id (newI n id u) (dropP (invIs id) r.invites)) FL :: blk w3.heap.size #[.bool r.open_, .slice B1 r.members.length e1, .slice (some ⟨gL, 0, none⟩) (out.length + 1) capL, .slice B3 r.bans.length e3] 32 :: own memberD 54 (.slice B1 r.members.length e1) r.members F1 :: own banD 73 (.slice B3 r.bans.length e3) r.bans F3 :: [blk (w.heap.size + 1) #[.bool false, .slice none 0 0, .slice none 0 0, .slice none 0 0] 32, blk w.heap.size #[.bool r.open_, .slice A1 r.members.length c1, .slice A2 r.invites.length c2, .slice A3 r.bans.length c3] 32]) from by (repeat (first | (with_reducible exact HSM.out) | (with_reducible apply St.alloc) | (with_reducible apply St.set0) | (with_reducible apply St.set1) | (with_reducible apply St.set2) | (with_reducible apply St.set3) | (with_reducible apply St.drew) | (with_reducible apply St.drewN))); all_goals (try (first | rfl | (simp; done)))))) hb)
                         (try clear x1_0 x1_1 x1_2 x1_3 xf1)
                         obtain ⟨x1_0, x1_1, x1_2, x1_3⟩ := (St.at3 HS7.out).c4
                         have xf1 := (St.at3 HS7.out).frozen
                         have xz6 := (St.at3 HS7.out).lt
                         clear hb))
                    have HS8 := hide HS7.out.pull3
                    have xz1 := xz6
                    refine bodyPost_ret (v := .tuple #[.agg #[.bool false, .slice none 0 0, .slice none 0 0, .slice none 0 0], .bool false]) (by simp [results, Tryz.results13, go_sem, x1_0, x1_1, x1_2, x1_3, xf1, xz1]) rfl ?_
                    rw [chR_no HOK.out, HOK.out]
                    exact St.ret2 (cs := [.bool false, .slice none 0 0, .slice none 0 0, .slice none 0 0]) (F := []) (St.noRoom (by (repeat (first | (with_reducible exact HS8.out) | (with_reducible apply St.alloc) | (with_reducible apply St.set0) | (with_reducible apply St.set1) | (with_reducible apply St.set2) | (with_reducible apply St.set3) | (with_reducible apply St.drew) | (with_reducible apply St.drewN))); all_goals (try (first | rfl | (simp; done))))) rfl

          · have HBN := hide (show bannB r id = true by simpa using hb)
            have hf1 : decide (0 ≤ idxP (banIs id) r.bans) = true := HBN.out
            have HOK := hide (show chOk r (inviteF n id u a) = false by simp [chOk, inviteF, HBN.out])
            clear hb
            go_enter Tryz.func13, Tryz.ntmps13
            go_wp2_with (first
              | (go_at_call 50
                 refine (l02Above_c r _ _ n id 3 a _ (Blk.rowAt (d := roomD) (x := r) HS0.out.at1 (room_K_mk (H1.out.below HS0.out.below) (H2.out.below HS0.out.below) (H3.out.below HS0.out.below)) rfl)).mono ?_
                 rintro e w1 ⟨rfl, hb⟩
                 rw [HA.out]
                 have HS1 := hide (HS0.out.by hb)
                 (try clear x1_0 x1_1 x1_2 x1_3 xf1 xz1)
                 obtain ⟨x1_0, x1_1, x1_2, x1_3⟩ := HS1.out.at0.c4
                 have xf1 := HS1.out.at0.frozen
                 have xz1 := HS1.out.at0.lt
                 (try clear y2_0 y2_1 y2_2 y2_3 yz2)
                 obtain ⟨y2_0, y2_1, y2_2, y2_3⟩ := HS1.out.at1.c4
                 have yz2 := HS1.out.at1.lt
                 clear hb)
              | (go_at_call 22; refine (l02Tick_c _ _).mono ?_; rintro e w' ⟨rfl, rfl⟩; rw [HT.out])
              | (go_at_call 23
                 refine (l02Find_c r _ _ id _ (Blk.rowAt (d := roomD) (x := r) HS1.out.at1 (room_K_mk (H1.out.below HS1.out.below) (H2.out.below HS1.out.below) (H3.out.below HS1.out.below)) rfl)).mono ?_
                 rintro e w2 ⟨rfl, hb⟩
                 skip
                 have HS2 := hide (HS1.out.by hb)
                 (try clear x1_0 x1_1 x1_2 x1_3 xf1 xz1)
                 obtain ⟨x1_0, x1_1, x1_2, x1_3⟩ := HS2.out.at0.c4
                 have xf1 := HS2.out.at0.frozen
                 have xz1 := HS2.out.at0.lt
                 (try clear y2_0 y2_1 y2_2 y2_3 yz2)
                 obtain ⟨y2_0, y2_1, y2_2, y2_3⟩ := HS2.out.at1.c4
                 have yz2 := HS2.out.at1.lt
                 clear hb)
              | (go_at_call 24
                 refine (l02Banned_c r _ _ id _ (Blk.rowAt (d := roomD) (x := r) HS2.out.at1 (room_K_mk (H1.out.below HS2.out.below) (H2.out.below HS2.out.below) (H3.out.below HS2.out.below)) rfl)).mono ?_
                 rintro e w2b ⟨rfl, hb⟩
                 skip
                 have HS2b := hide (HS2.out.by hb)
                 (try clear x1_0 x1_1 x1_2 x1_3 xf1 xz1)
                 obtain ⟨x1_0, x1_1, x1_2, x1_3⟩ := HS2b.out.at0.c4
                 have xf1 := HS2b.out.at0.frozen
                 have xz1 := HS2b.out.at0.lt
                 (try clear y2_0 y2_1 y2_2 y2_3 yz2)
                 obtain ⟨y2_0, y2_1, y2_2, y2_3⟩ := HS2b.out.at1.c4
                 have yz2 := HS2b.out.at1.lt
                 clear hb))
            refine bodyPost_ret (v := .tuple #[.agg #[.bool false, .slice none 0 0, .slice none 0 0, .slice none 0 0], .bool false]) (by simp [results, Tryz.results13, go_sem, x1_0, x1_1, x1_2, x1_3, xf1, xz1]) rfl ?_
            rw [chR_no HOK.out, HOK.out]
            exact St.ret2 (cs := [.bool false, .slice none 0 0, .slice none 0 0, .slice none 0 0]) (F := []) (St.noRoom (by (repeat (first | (with_reducible exact HS2b.out) | (with_reducible apply St.alloc) | (with_reducible apply St.set0) | (with_reducible apply St.set1) | (with_reducible apply St.set2) | (with_reducible apply St.set3) | (with_reducible apply St.drew) | (with_reducible apply St.drewN))); all_goals (try (first | rfl | (simp; done))))) rfl
        · have HH := hide (show hasId r id = true by simpa using hh)
          have hf0 : decide (0 ≤ idxP (idIs id) r.members) = true := HH.out
          have HOK := hide (show chOk r (inviteF n id u a) = false by simp [chOk, inviteF, HH.out])
          clear hh
          go_enter Tryz.func13, Tryz.ntmps13
          go_wp2_with (first
            | (go_at_call 50
               refine (l02Above_c r _ _ n id 3 a _ (Blk.rowAt (d := roomD) (x := r) HS0.out.at1 (room_K_mk (H1.out.below HS0.out.below) (H2.out.below HS0.out.below) (H3.out.below HS0.out.below)) rfl)).mono ?_
               rintro e w1 ⟨rfl, hb⟩
               rw [HA.out]
               have HS1 := hide (HS0.out.by hb)
               (try clear x1_0 x1_1 x1_2 x1_3 xf1 xz1)
               obtain ⟨x1_0, x1_1, x1_2, x1_3⟩ := HS1.out.at0.c4
               have xf1 := HS1.out.at0.frozen
               have xz1 := HS1.out.at0.lt
               (try clear y2_0 y2_1 y2_2 y2_3 yz2)
               obtain ⟨y2_0, y2_1, y2_2, y2_3⟩ := HS1.out.at1.c4
               have yz2 := HS1.out.at1.lt
               clear hb)
            | (go_at_call 22; refine (l02Tick_c _ _).mono ?_; rintro e w' ⟨rfl, rfl⟩; rw [HT.out])
            | (go_at_call 23
               refine (l02Find_c r _ _ id _ (Blk.rowAt (d := roomD) (x := r) HS1.out.at1 (room_K_mk (H1.out.below HS1.out.below) (H2.out.below HS1.out.below) (H3.out.below HS1.out.below)) rfl)).mono ?_
               rintro e w2 ⟨rfl, hb⟩
               skip
               have HS2 := hide (HS1.out.by hb)
               (try clear x1_0 x1_1 x1_2 x1_3 xf1 xz1)
               obtain ⟨x1_0, x1_1, x1_2, x1_3⟩ := HS2.out.at0.c4
               have xf1 := HS2.out.at0.frozen
               have xz1 := HS2.out.at0.lt
               (try clear y2_0 y2_1 y2_2 y2_3 yz2)
               obtain ⟨y2_0, y2_1, y2_2, y2_3⟩ := HS2.out.at1.c4
               have yz2 := HS2.out.at1.lt
               clear hb))
          refine bodyPost_ret (v := .tuple #[.agg #[.bool false, .slice none 0 0, .slice none 0 0, .slice none 0 0], .bool false]) (by simp [results, Tryz.results13, go_sem, x1_0, x1_1, x1_2, x1_3, xf1, xz1]) rfl ?_
          rw [chR_no HOK.out, HOK.out]
          exact St.ret2 (cs := [.bool false, .slice none 0 0, .slice none 0 0, .slice none 0 0]) (F := []) (St.noRoom (by (repeat (first | (with_reducible exact HS2.out) | (with_reducible apply St.alloc) | (with_reducible apply St.set0) | (with_reducible apply St.set1) | (with_reducible apply St.set2) | (with_reducible apply St.set3) | (with_reducible apply St.drew) | (with_reducible apply St.drewN))); all_goals (try (first | rfl | (simp; done))))) rfl
      · have HOK := hide (show chOk r (inviteF n id u a) = false by simp [chOk, inviteF, hu])
        have hud : decide (u < a) = true := decide_eq_true (by omega)
        clear hu
        go_enter Tryz.func13, Tryz.ntmps13
        go_wp2_with (first
          | (go_at_call 50
             refine (l02Above_c r _ _ n id 3 a _ (Blk.rowAt (d := roomD) (x := r) HS0.out.at1 (room_K_mk (H1.out.below HS0.out.below) (H2.out.below HS0.out.below) (H3.out.below HS0.out.below)) rfl)).mono ?_
             rintro e w1 ⟨rfl, hb⟩
             rw [HA.out]
             have HS1 := hide (HS0.out.by hb)
             (try clear x1_0 x1_1 x1_2 x1_3 xf1 xz1)
             obtain ⟨x1_0, x1_1, x1_2, x1_3⟩ := HS1.out.at0.c4
             have xf1 := HS1.out.at0.frozen
             have xz1 := HS1.out.at0.lt
             (try clear y2_0 y2_1 y2_2 y2_3 yz2)
             obtain ⟨y2_0, y2_1, y2_2, y2_3⟩ := HS1.out.at1.c4
             have yz2 := HS1.out.at1.lt
             clear hb)
          | (go_at_call 22; refine (l02Tick_c _ _).mono ?_; rintro e w' ⟨rfl, rfl⟩; rw [HT.out]))
        refine bodyPost_ret (v := .tuple #[.agg #[.bool false, .slice none 0 0, .slice none 0 0, .slice none 0 0], .bool false]) (by simp [results, Tryz.results13, go_sem, x1_0, x1_1, x1_2, x1_3, xf1, xz1]) rfl ?_
        rw [chR_no HOK.out, HOK.out]
        exact St.ret2 (cs := [.bool false, .slice none 0 0, .slice none 0 0, .slice none 0 0]) (F := []) (St.noRoom (by (repeat (first | (with_reducible exact HS1.out) | (with_reducible apply St.alloc) | (with_reducible apply St.set0) | (with_reducible apply St.set1) | (with_reducible apply St.set2) | (with_reducible apply St.set3) | (with_reducible apply St.drew) | (with_reducible apply St.drewN))); all_goals (try (first | rfl | (simp; done))))) rfl
    · have HT := hide (show inB u 0 1000000 = false by simpa using ht)
      have HOK := hide (invite_bad (r := r) (n := n) (id := id) (a := a) HT.out)
      clear ht
      go_enter Tryz.func13, Tryz.ntmps13
      go_wp2_with (first
        | (go_at_call 50
           refine (l02Above_c r _ _ n id 3 a _ (Blk.rowAt (d := roomD) (x := r) HS0.out.at1 (room_K_mk (H1.out.below HS0.out.below) (H2.out.below HS0.out.below) (H3.out.below HS0.out.below)) rfl)).mono ?_
           rintro e w1 ⟨rfl, hb⟩
           rw [HA.out]
           have HS1 := hide (HS0.out.by hb)
           (try clear x1_0 x1_1 x1_2 x1_3 xf1 xz1)
           obtain ⟨x1_0, x1_1, x1_2, x1_3⟩ := HS1.out.at0.c4
           have xf1 := HS1.out.at0.frozen
           have xz1 := HS1.out.at0.lt
           (try clear y2_0 y2_1 y2_2 y2_3 yz2)
           obtain ⟨y2_0, y2_1, y2_2, y2_3⟩ := HS1.out.at1.c4
           have yz2 := HS1.out.at1.lt
           clear hb)
        | (go_at_call 22; refine (l02Tick_c _ _).mono ?_; rintro e w' ⟨rfl, rfl⟩; rw [HT.out]))
      refine bodyPost_ret (v := .tuple #[.agg #[.bool false, .slice none 0 0, .slice none 0 0, .slice none 0 0], .bool false]) (by simp [results, Tryz.results13, go_sem, x1_0, x1_1, x1_2, x1_3, xf1, xz1]) rfl ?_
      rw [chR_no HOK.out, HOK.out]
      exact St.ret2 (cs := [.bool false, .slice none 0 0, .slice none 0 0, .slice none 0 0]) (F := []) (St.noRoom (by (repeat (first | (with_reducible exact HS1.out) | (with_reducible apply St.alloc) | (with_reducible apply St.set0) | (with_reducible apply St.set1) | (with_reducible apply St.set2) | (with_reducible apply St.set3) | (with_reducible apply St.drew) | (with_reducible apply St.drewN))); all_goals (try (first | rfl | (simp; done))))) rfl
  · have HA := hide (show aboveB r n id 3 a = false by simpa using ha)
    have HOK := hide (show chOk r (inviteF n id u a) = false by
      have h := HA.out
      unfold aboveB at h
      rw [Bool.and_eq_false_iff] at h
      rcases h with h | h <;> simp [chOk, inviteF, h])
    clear ha
    go_enter Tryz.func13, Tryz.ntmps13
    go_wp2_with (
      (go_at_call 50
       refine (l02Above_c r _ _ n id 3 a _ (Blk.rowAt (d := roomD) (x := r) HS0.out.at1 (room_K_mk (H1.out.below HS0.out.below) (H2.out.below HS0.out.below) (H3.out.below HS0.out.below)) rfl)).mono ?_
       rintro e w1 ⟨rfl, hb⟩
       rw [HA.out]
       have HS1 := hide (HS0.out.by hb)
       (try clear x1_0 x1_1 x1_2 x1_3 xf1 xz1)
       obtain ⟨x1_0, x1_1, x1_2, x1_3⟩ := HS1.out.at0.c4
       have xf1 := HS1.out.at0.frozen
       have xz1 := HS1.out.at0.lt
       (try clear y2_0 y2_1 y2_2 y2_3 yz2)
       obtain ⟨y2_0, y2_1, y2_2, y2_3⟩ := HS1.out.at1.c4
       have yz2 := HS1.out.at1.lt
       clear hb))
    refine bodyPost_ret (v := .tuple #[.agg #[.bool false, .slice none 0 0, .slice none 0 0, .slice none 0 0], .bool false]) (by simp [results, Tryz.results13, go_sem, x1_0, x1_1, x1_2, x1_3, xf1, xz1]) rfl ?_
    rw [chR_no HOK.out, HOK.out]
    exact St.ret2 (cs := [.bool false, .slice none 0 0, .slice none 0 0, .slice none 0 0]) (F := []) (St.noRoom (by (repeat (first | (with_reducible exact HS1.out) | (with_reducible apply St.alloc) | (with_reducible apply St.set0) | (with_reducible apply St.set1) | (with_reducible apply St.set2) | (with_reducible apply St.set3) | (with_reducible apply St.drew) | (with_reducible apply St.drewN))); all_goals (try (first | rfl | (simp; done))))) rfl
end Go.Proofs.YtnglccgbenlbjaaGreat
