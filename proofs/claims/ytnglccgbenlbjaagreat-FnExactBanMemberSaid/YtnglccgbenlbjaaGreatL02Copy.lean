/- A room is copied: the reference. -/
import Derived.Test.YtnglccgbenlbjaaGreatRoomCopy
import Derived.Test.YtnglccgbenlbjaaGreatRGround
namespace Go.Proofs.YtnglccgbenlbjaaGreat
open Go Go.RowKit Go.BigFrame
set_option linter.unusedVariables false
set_option linter.unusedSimpArgs false
theorem St.room {w0 w : World} {L : List Piece} {x : Room} {v1 v2 v3 : Value} {F1 F2 F3 : List Nat} (h : St w0 w (own banD 73 v3 x.bans F3 :: own inviteD 49 v2 x.invites F2 :: own memberD 54 v1 x.members F1 :: L)) :
    St w0 w (ownD roomD x [.bool x.open_, v1, v2, v3] (F1 ++ (F2 ++ F3)) :: L) := by
  have h1 := h.drop.drop
  have h2 := h.drop
  have hf : (feet (ownD roomD x [.bool x.open_, v1, v2, v3] (F1 ++ (F2 ++ F3)) :: L)).Perm (feet (own banD 73 v3 x.bans F3 :: own inviteD 49 v2 x.invites F2 :: own memberD 54 v1 x.members F1 :: L)) := by
    simp only [feet_cons, ownD, own]
    rw [← List.append_assoc, ← List.append_assoc, ← List.append_assoc]
    refine List.Perm.append_right _ ?_
    rw [List.append_assoc]
    refine List.perm_append_comm.trans ?_
    refine List.Perm.append_right _ List.perm_append_comm |>.trans ?_
    exact List.Perm.refl _
  refine ⟨h.below, fun p hp => ?_, hf.nodup_iff.2 h.nodup, fun b hb => h.ge b (hf.mem_iff.1 hb)⟩
  rcases List.mem_cons.1 hp with rfl | hp
  · exact room_M_mk h1.head h2.head h.head
  · exact h1.all p (List.mem_cons_of_mem _ hp)
set_option maxHeartbeats 4000000 in
set_option maxRecDepth 100000 in
theorem l02Copy_c (r : Room) (b o : Nat) (w : World) (hp : RowAt roomD w b o [r]) (hf : fewR r) :
    Calls Tryz.prog 26 #[.pointer (some ⟨b, o, none⟩)] w (RetElem roomD w r) := by
  obtain ⟨v1, v2, v3, h1, h2, h3, hbz, hb0, hb1, hb2, hb3⟩ := room_at hp (Below.refl _ _) (j := 0) rfl
  simp only [Nat.zero_mul, Nat.add_zero] at hb0 hb1 hb2 hb3
  obtain ⟨A1, c1, rfl⟩ := h1.shape
  obtain ⟨A2, c2, rfl⟩ := h2.shape
  obtain ⟨A3, c3, rfl⟩ := h3.shape
  have H1 := hide h1
  have H2 := hide h2
  have H3 := hide h3
  have hf1 := hf.1
  have hf2 := hf.2.1
  have hf3 := hf.2.2
  have hbz1 : b < w.heap.size + 1 := by omega
  have hbz2 : b < w.heap.size + 1 + 1 := by omega
  have hbz3 : b < w.heap.size + 1 + 1 + 1 := by omega
  clear h1 h2 h3 hf hp
  go_enter Tryz.func26, Tryz.ntmps26
  go_wp2_with (first
    | (at_builtin
       refine wpList_copy_st (d := memberD) rfl (w0 := w) (L := blk (w.heap.size + 1) #[.bool r.open_, .slice none 0 0, .slice none 0 0, .slice none 0 0] 32 :: blk (w.heap.size) #[.bool false, .slice none 0 0, .slice none 0 0, .slice none 0 0] 32 :: []) _ rfl _ _ _ rfl (.agg #[.int .i64 0, .int .i64 0, .int .i64 0, .int .i64 0]) 32 Tryz.underlying28 infoMember rfl (by omega) (by omega) _ rfl ?s1 A1 _ c1 r.members rfl rfl ?k1 (by omega) ?_
       case s1 => (repeat (first | (with_reducible exact St.start _) | (with_reducible apply St.alloc) | (with_reducible apply St.set0) | (with_reducible apply St.set1) | (with_reducible apply St.set2) | (with_reducible apply St.set3) | (with_reducible apply St.drew) | (with_reducible apply St.drewN))); all_goals (try (first | rfl | (simp; done)))
       case k1 => exact H1.out.below (St.below (w0 := w) (L := blk (w.heap.size + 1 + 1) #[] 54 :: blk (w.heap.size + 1) #[.bool r.open_, .slice none 0 0, .slice none 0 0, .slice none 0 0] 32 :: blk (w.heap.size) #[.bool false, .slice none 0 0, .slice none 0 0, .slice none 0 0] 32 :: []) (by (repeat (first | (with_reducible exact St.start _) | (with_reducible apply St.alloc) | (with_reducible apply St.set0) | (with_reducible apply St.set1) | (with_reducible apply St.set2) | (with_reducible apply St.set3) | (with_reducible apply St.drew) | (with_reducible apply St.drewN))); all_goals (try (first | rfl | (simp; done)))))
       intro D1 d1 w1 F1 hch hS
       have HS1 := hide hS
       (obtain ⟨y1_0, y1_1, y1_2, y1_3⟩ := hS.at1.c4; obtain ⟨x1_0, x1_1, x1_2, x1_3⟩ := hS.at2.c4; have f1 := hS.at1.frozen; have g1 := hS.at2.frozen; have hy1 := hS.at1.lt; have hx1 := hS.at2.lt; have b1_1 := cell_below hS.below hb1; have b1_2 := cell_below hS.below hb2; have b1_3 := cell_below hS.below hb3; have bz1 := Nat.lt_of_lt_of_le hbz hS.size)
       clear hS hch)
    | (at_builtin
       refine wpList_copy_st (d := inviteD) rfl (w0 := w) (L := blk (w.heap.size + 1) #[.bool r.open_, .slice D1 r.members.length d1, .slice none 0 0, .slice none 0 0] 32 :: blk (w.heap.size) #[.bool false, .slice none 0 0, .slice none 0 0, .slice none 0 0] 32 :: [own memberD 54 (.slice D1 r.members.length d1) r.members F1]) _ rfl _ _ _ rfl (.agg #[.int .i64 0, .int .i64 0, .int .i64 0]) 24 Tryz.underlying29 infoInvite rfl (by omega) (by omega) _ rfl ?s2 A2 _ c2 r.invites rfl rfl ?k2 (by omega) ?_
       case s2 => (repeat (first | (with_reducible exact HS1.out.push2) | (with_reducible apply St.alloc) | (with_reducible apply St.set0) | (with_reducible apply St.set1) | (with_reducible apply St.set2) | (with_reducible apply St.set3) | (with_reducible apply St.drew) | (with_reducible apply St.drewN))); all_goals (try (first | rfl | (simp; done)))
       case k2 => exact H2.out.below (St.below (w0 := w) (L := blk (w1.heap.size) #[] 49 :: blk (w.heap.size + 1) #[.bool r.open_, .slice D1 r.members.length d1, .slice none 0 0, .slice none 0 0] 32 :: blk (w.heap.size) #[.bool false, .slice none 0 0, .slice none 0 0, .slice none 0 0] 32 :: [own memberD 54 (.slice D1 r.members.length d1) r.members F1]) (by (repeat (first | (with_reducible exact HS1.out.push2) | (with_reducible apply St.alloc) | (with_reducible apply St.set0) | (with_reducible apply St.set1) | (with_reducible apply St.set2) | (with_reducible apply St.set3) | (with_reducible apply St.drew) | (with_reducible apply St.drewN))); all_goals (try (first | rfl | (simp; done)))))
       intro D2 d2 w2 F2 hch hS
       have HS2 := hide hS
       (obtain ⟨y2_0, y2_1, y2_2, y2_3⟩ := hS.at1.c4; obtain ⟨x2_0, x2_1, x2_2, x2_3⟩ := hS.at2.c4; have f2 := hS.at1.frozen; have g2 := hS.at2.frozen; have hy2 := hS.at1.lt; have hx2 := hS.at2.lt; have b2_1 := cell_below hS.below hb1; have b2_2 := cell_below hS.below hb2; have b2_3 := cell_below hS.below hb3; have bz2 := Nat.lt_of_lt_of_le hbz hS.size)
       clear hS hch)
    | (at_builtin
       refine wpList_copy_st (d := banD) rfl (w0 := w) (L := blk (w.heap.size + 1) #[.bool r.open_, .slice D1 r.members.length d1, .slice D2 r.invites.length d2, .slice none 0 0] 32 :: blk (w.heap.size) #[.bool false, .slice none 0 0, .slice none 0 0, .slice none 0 0] 32 :: [own inviteD 49 (.slice D2 r.invites.length d2) r.invites F2, own memberD 54 (.slice D1 r.members.length d1) r.members F1]) _ rfl _ _ _ rfl (.agg #[.int .i64 0, .int .i64 0]) 16 Tryz.underlying30 infoBan rfl (by omega) (by omega) _ rfl ?s3 A3 _ c3 r.bans rfl rfl ?k3 (by omega) ?_
       case s3 => (repeat (first | (with_reducible exact HS2.out.push2) | (with_reducible apply St.alloc) | (with_reducible apply St.set0) | (with_reducible apply St.set1) | (with_reducible apply St.set2) | (with_reducible apply St.set3) | (with_reducible apply St.drew) | (with_reducible apply St.drewN))); all_goals (try (first | rfl | (simp; done)))
       case k3 => exact H3.out.below (St.below (w0 := w) (L := blk (w2.heap.size) #[] 73 :: blk (w.heap.size + 1) #[.bool r.open_, .slice D1 r.members.length d1, .slice D2 r.invites.length d2, .slice none 0 0] 32 :: blk (w.heap.size) #[.bool false, .slice none 0 0, .slice none 0 0, .slice none 0 0] 32 :: [own inviteD 49 (.slice D2 r.invites.length d2) r.invites F2, own memberD 54 (.slice D1 r.members.length d1) r.members F1]) (by (repeat (first | (with_reducible exact HS2.out.push2) | (with_reducible apply St.alloc) | (with_reducible apply St.set0) | (with_reducible apply St.set1) | (with_reducible apply St.set2) | (with_reducible apply St.set3) | (with_reducible apply St.drew) | (with_reducible apply St.drewN))); all_goals (try (first | rfl | (simp; done)))))
       intro D3 d3 w3 F3 hch hS
       have HS3 := hide hS
       (obtain ⟨y3_0, y3_1, y3_2, y3_3⟩ := hS.at1.c4; obtain ⟨x3_0, x3_1, x3_2, x3_3⟩ := hS.at2.c4; have f3 := hS.at1.frozen; have g3 := hS.at2.frozen; have hy3 := hS.at1.lt; have hx3 := hS.at2.lt; have b3_1 := cell_below hS.below hb1; have b3_2 := cell_below hS.below hb2; have b3_3 := cell_below hS.below hb3; have bz3 := Nat.lt_of_lt_of_le hbz hS.size)
       clear hS hch))
  refine bodyPost_ret (v := .agg #[.bool r.open_, .slice D1 r.members.length d1, .slice D2 r.invites.length d2, .slice D3 r.bans.length d3]) (by simp [results, Tryz.results26, go_sem, y3_0, y3_1, y3_2, y3_3, x3_0, x3_1, x3_2, x3_3, f3, g3, hy3, hx3]) rfl
    (St.ret1 (St.room (F1 := F1) (F2 := F2) (F3 := F3) (L := []) (St.drop (A := blk (w.heap.size + 1) #[.bool r.open_, .slice D1 r.members.length d1, .slice D2 r.invites.length d2, .slice D3 r.bans.length d3] 32) (St.drop (A := blk w.heap.size #[.bool r.open_, .slice D1 r.members.length d1, .slice D2 r.invites.length d2, .slice D3 r.bans.length d3] 32) ?z))) rfl)
  case z => (repeat (first | (with_reducible exact HS3.out.push2.pull1) | (with_reducible apply St.alloc) | (with_reducible apply St.set0) | (with_reducible apply St.set1) | (with_reducible apply St.set2) | (with_reducible apply St.set3) | (with_reducible apply St.drew) | (with_reducible apply St.drewN))); all_goals (try (first | rfl | (simp; done)))
end Go.Proofs.YtnglccgbenlbjaaGreat
