/- Somebody is banned: the reference. -/
import Derived.Test.YtnglccgbenlbjaaGreatJoin
import Derived.Test.YtnglccgbenlbjaaGreatRest
import Derived.Test.YtnglccgbenlbjaaGreatGive
import Derived.Test.YtnglccgbenlbjaaGreatSpecRoom
import Derived.Deep.RegionLaw
import Derived.Deep.DrawnRows
namespace Go.Proofs.YtnglccgbenlbjaaGreat
open Go Go.RowKit Go.BigFrame
set_option linter.unusedVariables false
set_option linter.unusedSimpArgs false
attribute [local go_sem ↓] Go.wp_at_zero Go.wp_at_succ
theorem banish_bad {r : Room} {n id u a : Int} (h : inB u 0 1000000 = false) : chOk r (banishF n id u a) = false := by
  have : validRoomB (banishF n id u a r).1 = false := by
    rw [Bool.eq_false_iff]; intro hv
    have := (valid_iff.1 hv).bok (newB id u) ((insK_mem _ _).2 (.inl rfl))
    simp only [banOkB, newB, Bool.and_eq_true] at this
    rw [h] at this; exact absurd this.1.1.2 (by simp)
  simp [chOk, this]
theorem St.blkne {w0 w : World} {L : List Piece} {k k2 : Nat} {arr arr2 : Array Value} {e e2 : TypeId} (h : St w0 w (blk k arr e :: blk k2 arr2 e2 :: L)) : ¬ k = k2 ∧ ¬ k2 = k := by
  have hn := h.nodup
  simp [feet_cons, blk] at hn
  omega
/-- Where the walk of a ban stands. -/
def BanAt (l : List Ban) (id u : Int) (out : List Ban) (put : Bool) (k : Nat) : Prop :=
  InsAt Ban.id (newB id u) (dropP (banIs id) l) out put (dropP (banIs id) (l.take k)).length
section
variable {l out : List Ban} {id u : Int} {put : Bool} {k : Nat} {x : Ban}
theorem ban_next (hx : l[k]? = some x) (h : banIs id x = false) : (dropP (banIs id) l)[(dropP (banIs id) (l.take k)).length]? = some x := by
  obtain ⟨hl, rfl⟩ := List.getElem?_eq_some_iff.1 hx
  have e : dropP (banIs id) l = dropP (banIs id) (l.take k) ++ dropP (banIs id) (l.drop k) := by
    unfold dropP; rw [← List.filter_append, List.take_append_drop]
  rw [e, List.getElem?_append_right (Nat.le_refl _), Nat.sub_self]
  show (List.filter (fun x => !banIs id x) (l.drop k))[0]? = _
  rw [List.drop_eq_getElem_cons hl, List.filter_cons, if_pos (by simp [h])]
  rfl
theorem ban_keep_len (hx : l[k]? = some x) (h : banIs id x = false) : (dropP (banIs id) (l.take (k + 1))).length = (dropP (banIs id) (l.take k)).length + 1 := by
  rw [dropP_keep hx h]; simp
theorem BanAt.start : BanAt l id u [] false 0 := by
  unfold BanAt; simpa [dropP] using InsAt.start (key := Ban.id) (m := newB id u) (dropP (banIs id) l)
theorem BanAt.len (h : BanAt l id u out put k) : out.length ≤ k + 1 := by
  have h1 := InsAt.len h
  have h2 := dropP_le (banIs id) (l.take k)
  have h3 := List.length_take_le k l
  omega
theorem BanAt.keep (h : BanAt l id u out false k) (hx : l[k]? = some x) (hne : banIs id x = false) (hk : ¬ id ≤ x.id) : BanAt l id u (out ++ [x]) false (k + 1) := by
  unfold BanAt; rw [ban_keep_len hx hne]
  exact InsAt.keep h (ban_next hx hne) (by show ¬ id < x.id; omega)
theorem BanAt.ins (h : BanAt l id u out false k) (hx : l[k]? = some x) (hne : banIs id x = false) (hk : id ≤ x.id) : BanAt l id u (out ++ [newB id u] ++ [x]) true (k + 1) := by
  unfold BanAt; rw [ban_keep_len hx hne]
  refine InsAt.put h (ban_next hx hne) (by show id < x.id; have : x.id ≠ id := by simpa [banIs] using hne
                                           omega)
theorem BanAt.more (h : BanAt l id u out true k) (hx : l[k]? = some x) (hne : banIs id x = false) : BanAt l id u (out ++ [x]) true (k + 1) := by
  unfold BanAt; rw [ban_keep_len hx hne]
  exact InsAt.more h (ban_next hx hne)
theorem BanAt.skip (h : BanAt l id u out true k) (hx : l[k]? = some x) (he : banIs id x = true) : BanAt l id u out true (k + 1) := by
  unfold BanAt; rw [dropP_skip hx he]; exact h
theorem BanAt.same (h : BanAt l id u out false k) (hs : l.Pairwise fun x y => x.id < y.id) (hx : l[k]? = some x) (he : banIs id x = true) : BanAt l id u (out ++ [newB id u]) true (k + 1) := by
  unfold BanAt; rw [dropP_skip hx he]
  obtain ⟨hl, rfl⟩ := List.getElem?_eq_some_iff.1 hx
  have hid : l[k].id = id := by simpa [banIs] using he
  obtain ⟨h0, h1, -⟩ := h
  obtain ⟨h1, h2⟩ := h1 rfl
  refine ⟨h0, by simp, fun _ => ?_⟩
  have e : dropP (banIs id) l = dropP (banIs id) (l.take k) ++ dropP (banIs id) (l.drop k) := by
    unfold dropP; rw [← List.filter_append, List.take_append_drop]
  have e1 : (dropP (banIs id) l).drop (dropP (banIs id) (l.take k)).length = dropP (banIs id) (l.drop k) := by
    rw [e]; simp
  rw [h2, h1, e1, insK_all]
  · simp
  · intro y hy
    unfold dropP at hy
    rw [List.mem_filter] at hy
    obtain ⟨hy, hyn⟩ := hy
    have hyn : y.id ≠ id := by simpa [banIs] using hyn
    rw [List.drop_eq_getElem_cons hl] at hy
    rcases List.mem_cons.1 hy with rfl | hy
    · exact absurd hid hyn
    · obtain ⟨i, hi, rfl⟩ := List.mem_iff_getElem.1 hy
      rw [List.pairwise_iff_getElem] at hs
      rw [List.length_drop] at hi
      have := hs k (k + 1 + i) hl (by omega) (by omega)
      rw [List.getElem_drop]
      show id < _
      omega
theorem BanAt.done (h : BanAt l id u out true l.length) : out = insK Ban.id (newB id u) (dropP (banIs id) l) := by
  unfold BanAt at h; rw [List.take_length] at h; exact InsAt.done h
theorem BanAt.last (h : BanAt l id u out false l.length) : out ++ [newB id u] = insK Ban.id (newB id u) (dropP (banIs id) l) := by
  unfold BanAt at h; rw [List.take_length] at h; exact InsAt.last h
end
set_option maxHeartbeats 4000000 in
set_option maxRecDepth 100000 in
theorem specBanMember_c (r : Room) (n : Int) (id : Int) (u : Int) (a : Int) (v1 v2 v3 : Value) (w : World) (h1 : SliceK memberD w v1 r.members) (h2 : SliceK inviteD w v2 r.invites) (h3 : SliceK banD w v3 r.bans) :
    Calls Tryz.prog 15 #[.agg #[.bool r.open_, v1, v2, v3], .int .i64 n, .int .i64 id, .int .i64 u, .int .i64 a] w (RetElem2 roomD w (banishV r n id u a) (banishOk r n id u a)) := by
  show Calls Tryz.prog 15 #[.agg #[.bool r.open_, v1, v2, v3], .int .i64 n, .int .i64 id, .int .i64 u, .int .i64 a] w (RetElem2 roomD w (chR r (banishF n id u a)) (chOk r (banishF n id u a)))
  obtain ⟨A1, c1, rfl⟩ := h1.shape
  obtain ⟨A2, c2, rfl⟩ := h2.shape
  obtain ⟨A3, c3, rfl⟩ := h3.shape
  have H1 := hide h1
  have H2 := hide h2
  have H3 := hide h3
  clear h1 h2 h3
  have HS0 := hide (show St w ((w.alloc (.cells #[.bool r.open_, .slice A1 r.members.length c1, .slice A2 r.invites.length c2, .slice A3 r.bans.length c3] 32)).alloc (.cells #[.bool false, .slice none 0 0, .slice none 0 0, .slice none 0 0] 32)) [blk (w.heap.size + 1) #[.bool false, .slice none 0 0, .slice none 0 0, .slice none 0 0] 32, blk w.heap.size #[.bool r.open_, .slice A1 r.members.length c1, .slice A2 r.invites.length c2, .slice A3 r.bans.length c3] 32] from (((St.start w).alloc rfl).alloc (by simp)))
  by_cases ha : aboveB r n id 6 a = true
  · have HA := hide ha
    have hvm : validRoomB r = true ∧ mayToB r n id 6 a = true := by simpa [aboveB] using ha
    have HVM := hide hvm
    have HFEW := hide (fewR_of hvm.1)
    have HBP := hide (valid_iff.1 hvm.1).bp
    have h40 := (fewR_of hvm.1).1
    have h41 := (fewR_of hvm.1).2.1
    have h42 := (fewR_of hvm.1).2.2
    have h43 := dropP_le (banIs id) r.bans
    clear ha hvm
    by_cases ht : inB u 0 1000000 = true
    · have HT := hide ht
      clear ht
      by_cases hu : a ≤ u
      · have HU := hide (show decide (a ≤ u) = true from decide_eq_true hu)
        have hud : decide (u < a) = false := decide_eq_false (by omega)
        clear hu
        go_enter Tryz.func15, Tryz.ntmps15
        go_wp2_with (first
          | (go_at_call 50
             refine (l02Above_c r _ _ n id 6 a _ (Blk.rowAt (d := roomD) (x := r) HS0.out.at1 (room_K_mk (H1.out.below HS0.out.below) (H2.out.below HS0.out.below) (H3.out.below HS0.out.below)) rfl)).mono ?_
             rintro e w1 ⟨rfl, hb⟩
             rw [HA.out]
             have HS1 := hide (HS0.out.by hb)
             (try clear x1_0 x1_1 x1_2 x1_3 xf1 xz1)
             obtain ⟨x1_0, x1_1, x1_2, x1_3⟩ := HS1.out.at0.c4
             have xf1 := HS1.out.at0.frozen
             have xz1 := HS1.out.at0.lt
             (try clear y2_0 y2_1 y2_2 y2_3 yz2)
             obtain ⟨y2_0, y2_1, y2_2, y2_3⟩ := HS1.out.at1.c4
             have yz2 := HS1.out.at1.lt
             clear hb)
          | (go_at_call 22; refine (l02Tick_c _ _).mono ?_; rintro e w' ⟨rfl, rfl⟩; rw [HT.out])
          | (go_at_call 26
             refine (l02Copy_c r _ _ _ (Blk.rowAt (d := roomD) (x := r) HS1.out.at1 (room_K_mk (H1.out.below HS1.out.below) (H2.out.below HS1.out.below) (H3.out.below HS1.out.below)) rfl) HFEW.out).mono ?_
             rintro e w3 he
             obtain ⟨cs9, F9, rfl, hK, hb, hS⟩ := HS1.out.elem he
             obtain ⟨u1, u2, u3, rfl, k1, k2, k3⟩ := room_K hK
             obtain ⟨B1, e1, rfl⟩ := k1.shape
             obtain ⟨B2, e2, rfl⟩ := k2.shape
             obtain ⟨B3, e3, rfl⟩ := k3.shape
             obtain ⟨F1, F2, F3, hP⟩ := hS.roomParts
             have HPP := hide hP
             have xz1 := hS.at1.lt
             obtain ⟨y3_0, y3_1, y3_2, y3_3⟩ := (St.at3 hP.drop).c4
             have yz3 := (St.at3 hP.drop).lt
             (try clear x1_0 x1_1 x1_2 x1_3 xf1)
             clear hK k1 k2 k3 hb hS he hP)
          | (go_at_call 53
             refine (l02Rest_c r.members _ id _ (H1.out.below (St.below (w0 := w) (L := blk w3.heap.size #[.bool r.open_, .slice B1 r.members.length e1, .slice B2 r.invites.length e2, .slice B3 r.bans.length e3] 32 :: _) (by (repeat (first | (with_reducible exact HPP.out) | (with_reducible apply St.alloc) | (with_reducible apply St.set0) | (with_reducible apply St.set1) | (with_reducible apply St.set2) | (with_reducible apply St.set3) | (with_reducible apply St.drew) | (with_reducible apply St.drewN))); all_goals (try (first | rfl | (simp; done)))))) (by omega)).mono ?_
             rintro e w4 ⟨v4, rfl, hM, hb⟩
             obtain ⟨A4, c4, rfl⟩ := hM.shape
             obtain ⟨F4, hS⟩ := (show St w _ (blk w3.heap.size #[.bool r.open_, .slice B1 r.members.length e1, .slice B2 r.invites.length e2, .slice B3 r.bans.length e3] 32 :: _) by (repeat (first | (with_reducible exact HPP.out) | (with_reducible apply St.alloc) | (with_reducible apply St.set0) | (with_reducible apply St.set1) | (with_reducible apply St.set2) | (with_reducible apply St.set3) | (with_reducible apply St.drew) | (with_reducible apply St.drewN))); all_goals (try (first | rfl | (simp; done)))).made hM hb
             have HS4 := hide (St.pull1 (St.drop2 hS))
             obtain ⟨x4_0, x4_1, x4_2, x4_3⟩ := hS.at1.c4
             have xf4 := hS.at1.frozen
             have xz4 := hS.at1.lt
             obtain ⟨y4_0, y4_1, y4_2, y4_3⟩ := (St.at3 HS4.out.drop.drop).c4
             have yz4 := (St.at3 HS4.out.drop.drop).lt
             obtain ⟨ne1, ne2⟩ := St.blkne HS4.out.drop1.pull4
             clear hM hb hS)
          | (go_at_call 27
             refine (l02Without_c r.invites _ id _ (H2.out.below (St.below (w0 := w) (L := blk w3.heap.size #[.bool r.open_, .slice A4 (dropP (idIs id) r.members).length c4, .slice B2 r.invites.length e2, .slice B3 r.bans.length e3] 32 :: _) (by (repeat (first | (with_reducible exact HS4.out) | (with_reducible apply St.alloc) | (with_reducible apply St.set0) | (with_reducible apply St.set1) | (with_reducible apply St.set2) | (with_reducible apply St.set3) | (with_reducible apply St.drew) | (with_reducible apply St.drewN))); all_goals (try (first | rfl | (simp; done)))))) (by omega)).mono ?_
             rintro e w5 ⟨v5, rfl, hM, hb⟩
             obtain ⟨A5, c5, rfl⟩ := hM.shape
             obtain ⟨F5, hS⟩ := (show St w _ (blk w3.heap.size #[.bool r.open_, .slice A4 (dropP (idIs id) r.members).length c4, .slice B2 r.invites.length e2, .slice B3 r.bans.length e3] 32 :: _) by (repeat (first | (with_reducible exact HS4.out) | (with_reducible apply St.alloc) | (with_reducible apply St.set0) | (with_reducible apply St.set1) | (with_reducible apply St.set2) | (with_reducible apply St.set3) | (with_reducible apply St.drew) | (with_reducible apply St.drewN))); all_goals (try (first | rfl | (simp; done)))).made hM hb
             have HS5 := hide (St.push2 (St.drop3 (St.drop3 hS)))
             obtain ⟨x5_0, x5_1, x5_2, x5_3⟩ := hS.at1.c4
             have xf5 := hS.at1.frozen
             have xz5 := hS.at1.lt
             clear hM hb hS))
        go_loopg [13, 14] r.bans.length (fun gg s13 s14 wr => ∃ (k : Nat) (out : List Ban) (put : Bool) (A9 : Option Addr) (c9 : Nat) (F9 : List Nat), k ≤ r.bans.length ∧ r.bans.length - k ≤ gg ∧ s13 = .bool put ∧ s14 = .int .i64 k ∧ Hid (BanAt r.bans id u out put k) ∧ Hid (St w wr (own banD 73 (.slice A9 out.length c9) out F9 :: blk w3.heap.size #[.bool r.open_, .slice A4 (dropP (idIs id) r.members).length c4, .slice A5 (dropP (invIs id) r.invites).length c5, .slice A9 out.length c9] 32 :: own memberD 54 (.slice A4 (dropP (idIs id) r.members).length c4) (dropP (idIs id) r.members) F4 :: own inviteD 49 (.slice A5 (dropP (invIs id) r.invites).length c5) (dropP (invIs id) r.invites) F5 :: [blk (w.heap.size + 1) #[.bool false, .slice none 0 0, .slice none 0 0, .slice none 0 0] 32, blk w.heap.size #[.bool r.open_, .slice A1 r.members.length c1, .slice A2 r.invites.length c2, .slice A3 r.bans.length c3] 32])))
        case atStart =>
          exact ⟨0, [], false, _, _, _, Nat.zero_le _, by omega, rfl, rfl, hide BanAt.start, hide (St.empty (show St w _ (blk w5.heap.size #[] 73 :: blk w3.heap.size #[.bool r.open_, .slice A4 (dropP (idIs id) r.members).length c4, .slice A5 (dropP (invIs id) r.invites).length c5, .slice (some ⟨w5.heap.size, 0, none⟩) 0 0] 32 :: own memberD 54 (.slice A4 (dropP (idIs id) r.members).length c4) (dropP (idIs id) r.members) F4 :: own inviteD 49 (.slice A5 (dropP (invIs id) r.invites).length c5) (dropP (invIs id) r.invites) F5 :: [blk (w.heap.size + 1) #[.bool false, .slice none 0 0, .slice none 0 0, .slice none 0 0] 32, blk w.heap.size #[.bool r.open_, .slice A1 r.members.length c1, .slice A2 r.invites.length c2, .slice A3 r.bans.length c3] 32]) from by (repeat (first | (with_reducible exact HS5.out) | (with_reducible apply St.alloc) | (with_reducible apply St.set0) | (with_reducible apply St.set1) | (with_reducible apply St.set2) | (with_reducible apply St.set3) | (with_reducible apply St.drew) | (with_reducible apply St.drewN))); all_goals (try (first | rfl | (simp; done)))))⟩
        case round =>
          obtain ⟨k, out, put, A9, c9, F9, hk, hg, rfl, rfl, HI, HS⟩ := hrel
          have hol := HI.out.len
          obtain ⟨x0, x1, x2, x3⟩ := HS.out.at1.c4
          have xf := HS.out.at1.frozen
          have xz := HS.out.at1.lt
          obtain ⟨ne3, ne4⟩ := St.blkne HS.out.drop.pull4
          have hOB := HS.out.drop.headG w3.heap.size (by simp [blk])
          by_cases hlt : k < r.bans.length
          · obtain ⟨x, hx⟩ : ∃ x, r.bans[k]? = some x := ⟨_, List.getElem?_eq_getElem hlt⟩
            obtain ⟨A, c, heq, -, -, hra⟩ := H3.out
            simp only [Value.slice.injEq] at heq
            obtain ⟨rfl, -, rfl⟩ := heq
            rcases hra with hnil | ⟨q, o2, rfl, hra⟩
            · rw [hnil] at hlt; simp at hlt
            have HRA := hide hra
            have hqw := (ban_at hra (St.start w).below hx).1
            obtain ⟨hq, hc0, hc1⟩ := ban_at hra HS.out.below hx
            obtain ⟨y0, y1, y2, y3⟩ := (St.at3 HS.out.drop.drop).c4
            have yz := (St.at3 HS.out.drop.drop).lt
            have nq1 : ¬ q = w3.heap.size := by omega
            have nq2 : ¬ w3.heap.size = q := by omega
            have HX := hide hx
            have hlt2 : (k : Int) < (r.bans.length : Int) := by omega
            clear hx hra
            by_cases hne : x.id = id
            · have HNE := hide (show banIs id x = true by simp [banIs, hne])
              have hn1 : (x.id != id) = false := by simp [hne]
              have hge : decide (id ≤ x.id) = true := decide_eq_true (by omega)
              clear hne
              cases put with
              | true =>
                go_wp2_with fail
                go_roundg (r.bans.length - (k + 1))
                case measure => omega
                case rel => exact ⟨k + 1, out, true, A9, c9, F9, by omega, by omega, by first | rfl | simp, by go_num, hide (HI.out.skip HX.out HNE.out), HS⟩
              | false =>
                go_wp2_with (first
                  | (at_builtin
                     refine wpList_app1_st (d := banD) (w0 := w) rfl _ rfl _ _ _ rfl (.agg #[.int .i64 0, .int .i64 0]) 16 Tryz.underlying30 infoBan rfl (by omega) (by omega) (.slice A9 out.length c9) (out) F9 rfl wr.heap.size #[.int .i64 id, .int .i64 u] (by (repeat (first | (with_reducible exact HS.out) | (with_reducible apply St.alloc) | (with_reducible apply St.set0) | (with_reducible apply St.set1) | (with_reducible apply St.set2) | (with_reducible apply St.set3) | (with_reducible apply St.drew) | (with_reducible apply St.drewN))); all_goals (try (first | rfl | (simp; done)))) 1 rfl (newB id u) rfl (by first | omega | (simp; omega)) ?_
                     intro gA capA wA FA hS
                     have HSA := hide hS
                     obtain ⟨zA0, zA1, zA2, zA3⟩ := hS.at1.c4
                     have zfA := hS.at1.frozen
                     have zzA := hS.at1.lt
                     obtain ⟨yA0, yA1, yA2, yA3⟩ := (St.at3 hS.drop.drop).c4; have yzA := (St.at3 hS.drop.drop).lt; obtain ⟨hqA, ec0, ec1⟩ := ban_at HRA.out hS.below HX.out
                     clear hS))
                go_roundg (r.bans.length - (k + 1))
                case measure => omega
                case rel =>
                  refine ⟨k + 1, out ++ [newB id u], true, some ⟨gA, 0, none⟩, capA, FA, by omega, by omega, by first | rfl | simp, by go_num, hide (HI.out.same HBP.out HX.out HNE.out), hide ?_⟩
                  have hlen : (out ++ [newB id u]).length = (out).length + 1 := by simp
                  rw [hlen]
                  (repeat (first | (with_reducible exact HSA.out) | (with_reducible apply St.alloc) | (with_reducible apply St.set0) | (with_reducible apply St.set1) | (with_reducible apply St.set2) | (with_reducible apply St.set3) | (with_reducible apply St.drew) | (with_reducible apply St.drewN))); all_goals (try (first | rfl | (simp; done)))
            · have HNE := hide (show banIs id x = false by simp [banIs, hne])
              have hn1 : (x.id != id) = true := by simp [hne]
              clear hne
              cases put with
              | true =>
                go_wp2_with fail
                go_region_law (
                  refine step_app_st (d := banD) (w0 := w) rfl rfl (.tmp 80) (.tmp 86) 30 rfl (.agg #[.int .i64 0, .int .i64 0]) 16 Tryz.underlying30 infoBan rfl (by omega) (by omega) (.slice A9 out.length c9) (out) F9 (by simp [Act.eval, Act.put]) wr.heap.size #[.int .i64 x.id, .int .i64 x.until_] (by (repeat (first | (with_reducible exact HS.out) | (with_reducible apply St.alloc) | (with_reducible apply St.set0) | (with_reducible apply St.set1) | (with_reducible apply St.set2) | (with_reducible apply St.set3) | (with_reducible apply St.drew) | (with_reducible apply St.drewN))); all_goals (try (first | rfl | (simp; done)))) 1 (by simp [Act.eval, Act.put]) x rfl (by first | omega | (simp; omega)) ?_
                  intro gB capB wB FB hS
                  have HSB := hide hS
                  obtain ⟨zB0, zB1, zB2, zB3⟩ := hS.at1.c4
                  have zfB := hS.at1.frozen
                  have zzB := hS.at1.lt
                  clear hS)
                all_goals
                  go_wp2_with fail
                  go_roundg (r.bans.length - (k + 1))
                  case measure => omega
                  case rel =>
                    refine ⟨k + 1, out ++ [x], true, some ⟨gB, 0, none⟩, capB, FB, by omega, by omega, by first | rfl | simp, by go_num, hide (HI.out.more HX.out HNE.out), hide ?_⟩
                    have hlen : (out ++ [x]).length = (out).length + 1 := by simp
                    rw [hlen]
                    (repeat (first | (with_reducible exact HSB.out) | (with_reducible apply St.alloc) | (with_reducible apply St.set0) | (with_reducible apply St.set1) | (with_reducible apply St.set2) | (with_reducible apply St.set3) | (with_reducible apply St.drew) | (with_reducible apply St.drewN))); all_goals (try (first | rfl | (simp; done)))
              | false =>
                by_cases hid : id ≤ x.id
                · have HID := hide hid
                  have hge : decide (id ≤ x.id) = true := decide_eq_true hid
                  clear hid
                  go_wp2_with (first
                    | (at_builtin
                       refine wpList_app1_st (d := banD) (w0 := w) rfl _ rfl _ _ _ rfl (.agg #[.int .i64 0, .int .i64 0]) 16 Tryz.underlying30 infoBan rfl (by omega) (by omega) (.slice A9 out.length c9) (out) F9 rfl wr.heap.size #[.int .i64 id, .int .i64 u] (by (repeat (first | (with_reducible exact HS.out) | (with_reducible apply St.alloc) | (with_reducible apply St.set0) | (with_reducible apply St.set1) | (with_reducible apply St.set2) | (with_reducible apply St.set3) | (with_reducible apply St.drew) | (with_reducible apply St.drewN))); all_goals (try (first | rfl | (simp; done)))) 1 rfl (newB id u) rfl (by first | omega | (simp; omega)) ?_
                       intro gA capA wA FA hS
                       have HSA := hide hS
                       obtain ⟨zA0, zA1, zA2, zA3⟩ := hS.at1.c4
                       have zfA := hS.at1.frozen
                       have zzA := hS.at1.lt
                       obtain ⟨yA0, yA1, yA2, yA3⟩ := (St.at3 hS.drop.drop).c4; have yzA := (St.at3 hS.drop.drop).lt; obtain ⟨hqA, ec0, ec1⟩ := ban_at HRA.out hS.below HX.out
                       clear hS))
                  go_region_law (
                    refine step_app_st (d := banD) (w0 := w) rfl rfl (.tmp 80) (.tmp 86) 30 rfl (.agg #[.int .i64 0, .int .i64 0]) 16 Tryz.underlying30 infoBan rfl (by omega) (by omega) (.slice (some ⟨gA, 0, none⟩) (out.length + 1) capA) ((out ++ [newB id u])) FA (by simp [Act.eval, Act.put]) wA.heap.size #[.int .i64 x.id, .int .i64 x.until_] (by (repeat (first | (with_reducible exact HSA.out) | (with_reducible apply St.alloc) | (with_reducible apply St.set0) | (with_reducible apply St.set1) | (with_reducible apply St.set2) | (with_reducible apply St.set3) | (with_reducible apply St.drew) | (with_reducible apply St.drewN))); all_goals (try (first | rfl | (simp; done)))) 1 (by simp [Act.eval, Act.put]) x rfl (by first | omega | (simp; omega)) ?_
                    intro gB capB wB FB hS
                    have HSB := hide hS
                    obtain ⟨zB0, zB1, zB2, zB3⟩ := hS.at1.c4
                    have zfB := hS.at1.frozen
                    have zzB := hS.at1.lt
                    clear hS)
                  all_goals
                    go_wp2_with fail
                    go_roundg (r.bans.length - (k + 1))
                    case measure => omega
                    case rel =>
                      refine ⟨k + 1, out ++ [newB id u] ++ [x], true, some ⟨gB, 0, none⟩, capB, FB, by omega, by omega, by first | rfl | simp, by go_num, hide (HI.out.ins HX.out HNE.out HID.out), hide ?_⟩
                      have hlen : (out ++ [newB id u] ++ [x]).length = (out ++ [newB id u]).length + 1 := by simp
                      rw [hlen]
                      (repeat (first | (with_reducible exact HSB.out) | (with_reducible apply St.alloc) | (with_reducible apply St.set0) | (with_reducible apply St.set1) | (with_reducible apply St.set2) | (with_reducible apply St.set3) | (with_reducible apply St.drew) | (with_reducible apply St.drewN))); all_goals (try (first | rfl | (simp; done)))
                · have HID := hide (show x.id < id by omega)
                  have hge : decide (id ≤ x.id) = false := decide_eq_false hid
                  clear hid
                  go_wp2_with fail
                  go_region_law (
                    refine step_app_st (d := banD) (w0 := w) rfl rfl (.tmp 80) (.tmp 86) 30 rfl (.agg #[.int .i64 0, .int .i64 0]) 16 Tryz.underlying30 infoBan rfl (by omega) (by omega) (.slice A9 out.length c9) (out) F9 (by simp [Act.eval, Act.put]) wr.heap.size #[.int .i64 x.id, .int .i64 x.until_] (by (repeat (first | (with_reducible exact HS.out) | (with_reducible apply St.alloc) | (with_reducible apply St.set0) | (with_reducible apply St.set1) | (with_reducible apply St.set2) | (with_reducible apply St.set3) | (with_reducible apply St.drew) | (with_reducible apply St.drewN))); all_goals (try (first | rfl | (simp; done)))) 1 (by simp [Act.eval, Act.put]) x rfl (by first | omega | (simp; omega)) ?_
                    intro gB capB wB FB hS
                    have HSB := hide hS
                    obtain ⟨zB0, zB1, zB2, zB3⟩ := hS.at1.c4
                    have zfB := hS.at1.frozen
                    have zzB := hS.at1.lt
                    clear hS)
                  all_goals
                    go_wp2_with fail
                    go_roundg (r.bans.length - (k + 1))
                    case measure => omega
                    case rel =>
                      refine ⟨k + 1, out ++ [x], false, some ⟨gB, 0, none⟩, capB, FB, by omega, by omega, by first | rfl | simp, by go_num, hide (HI.out.keep HX.out HNE.out (Int.not_le.2 HID.out)), hide ?_⟩
                      have hlen : (out ++ [x]).length = (out).length + 1 := by simp
                      rw [hlen]
                      (repeat (first | (with_reducible exact HSB.out) | (with_reducible apply St.alloc) | (with_reducible apply St.set0) | (with_reducible apply St.set1) | (with_reducible apply St.set2) | (with_reducible apply St.set3) | (with_reducible apply St.drew) | (with_reducible apply St.drewN))); all_goals (try (first | rfl | (simp; done)))
          · obtain rfl : k = r.bans.length := by omega
            clear hlt hk hg
            obtain ⟨v0, v1, v2, v3⟩ := (St.at2 HS.out.drop.drop).c4
            have vf := (St.at2 HS.out.drop.drop).frozen
            obtain ⟨y0, y1, y2, y3⟩ := (St.at3 HS.out.drop.drop).c4
            have yz := (St.at3 HS.out.drop.drop).lt
            cases put with
            | true =>
              have hd := HI.out.done
              subst hd
              have HSD := hide HS.out
              by_cases hv2 : validRoomB ({ r with members := (dropP (idIs id) r.members), invites := (dropP (invIs id) r.invites), bans := (insK Ban.id (newB id u) (dropP (banIs id) r.bans)) }) = true
              · have HV2 := hide hv2
                have HOK := hide (show chOk r (banishF n id u a) = true by simp only [chOk, banishF]; rw [HV2.out, HVM.out.1, HVM.out.2, HU.out]; rfl)
                clear hv2
                go_wp2_with (first
                  | (go_at_call 29
                     refine (l02Give_yes ({ r with members := (dropP (idIs id) r.members), invites := (dropP (invIs id) r.invites), bans := (insK Ban.id (newB id u) (dropP (banIs id) r.bans)) }) _ _ _ _ _ _ _ _ _ _ (St.push2 (St.drop1 (show St w _ (own banD 73 (.slice A9 (insK Ban.id (newB id u) (dropP (banIs id) r.bans)).length c9) (insK Ban.id (newB id u) (dropP (banIs id) r.bans)) F9 :: blk w3.heap.size #[.bool r.open_, .slice A4 (dropP (idIs id) r.members).length c4, .slice A5 (dropP (invIs id) r.invites).length c5, .slice A9 (insK Ban.id (newB id u) (dropP (banIs id) r.bans)).length c9] 32 :: own memberD 54 (.slice A4 (dropP (idIs id) r.members).length c4) (dropP (idIs id) r.members) F4 :: own inviteD 49 (.slice A5 (dropP (invIs id) r.invites).length c5) (dropP (invIs id) r.invites) F5 :: [blk (w.heap.size + 1) #[.bool false, .slice none 0 0, .slice none 0 0, .slice none 0 0] 32, blk w.heap.size #[.bool r.open_, .slice A1 r.members.length c1, .slice A2 r.invites.length c2, .slice A3 r.bans.length c3] 32]) from by (repeat (first | (with_reducible exact HSD.out) | (with_reducible apply St.alloc) | (with_reducible apply St.set0) | (with_reducible apply St.set1) | (with_reducible apply St.set2) | (with_reducible apply St.set3) | (with_reducible apply St.drew) | (with_reducible apply St.drewN))); all_goals (try (first | rfl | (simp; done)))))).toK (St.toK (St.push2 (St.drop1 (show St w _ (own banD 73 (.slice A9 (insK Ban.id (newB id u) (dropP (banIs id) r.bans)).length c9) (insK Ban.id (newB id u) (dropP (banIs id) r.bans)) F9 :: blk w3.heap.size #[.bool r.open_, .slice A4 (dropP (idIs id) r.members).length c4, .slice A5 (dropP (invIs id) r.invites).length c5, .slice A9 (insK Ban.id (newB id u) (dropP (banIs id) r.bans)).length c9] 32 :: own memberD 54 (.slice A4 (dropP (idIs id) r.members).length c4) (dropP (idIs id) r.members) F4 :: own inviteD 49 (.slice A5 (dropP (invIs id) r.invites).length c5) (dropP (invIs id) r.invites) F5 :: [blk (w.heap.size + 1) #[.bool false, .slice none 0 0, .slice none 0 0, .slice none 0 0] 32, blk w.heap.size #[.bool r.open_, .slice A1 r.members.length c1, .slice A2 r.invites.length c2, .slice A3 r.bans.length c3] 32]) from by (repeat (first | (with_reducible exact HSD.out) | (with_reducible apply St.alloc) | (with_reducible apply St.set0) | (with_reducible apply St.set1) | (with_reducible apply St.set2) | (with_reducible apply St.set3) | (with_reducible apply St.drew) | (with_reducible apply St.drewN))); all_goals (try (first | rfl | (simp; done)))))).pull1) (St.toK (St.push2 (St.drop1 (show St w _ (own banD 73 (.slice A9 (insK Ban.id (newB id u) (dropP (banIs id) r.bans)).length c9) (insK Ban.id (newB id u) (dropP (banIs id) r.bans)) F9 :: blk w3.heap.size #[.bool r.open_, .slice A4 (dropP (idIs id) r.members).length c4, .slice A5 (dropP (invIs id) r.invites).length c5, .slice A9 (insK Ban.id (newB id u) (dropP (banIs id) r.bans)).length c9] 32 :: own memberD 54 (.slice A4 (dropP (idIs id) r.members).length c4) (dropP (idIs id) r.members) F4 :: own inviteD 49 (.slice A5 (dropP (invIs id) r.invites).length c5) (dropP (invIs id) r.invites) F5 :: [blk (w.heap.size + 1) #[.bool false, .slice none 0 0, .slice none 0 0, .slice none 0 0] 32, blk w.heap.size #[.bool r.open_, .slice A1 r.members.length c1, .slice A2 r.invites.length c2, .slice A3 r.bans.length c3] 32]) from by (repeat (first | (with_reducible exact HSD.out) | (with_reducible apply St.alloc) | (with_reducible apply St.set0) | (with_reducible apply St.set1) | (with_reducible apply St.set2) | (with_reducible apply St.set3) | (with_reducible apply St.drew) | (with_reducible apply St.drewN))); all_goals (try (first | rfl | (simp; done)))))).pull2) HV2.out).mono ?_
                     rintro e w6 ⟨rfl, hb⟩
                     have HS7 := hide (St.by (St.push2 (St.drop1 (show St w _ (own banD 73 (.slice A9 (insK Ban.id (newB id u) (dropP (banIs id) r.bans)).length c9) (insK Ban.id (newB id u) (dropP (banIs id) r.bans)) F9 :: blk w3.heap.size #[.bool r.open_, .slice A4 (dropP (idIs id) r.members).length c4, .slice A5 (dropP (invIs id) r.invites).length c5, .slice A9 (insK Ban.id (newB id u) (dropP (banIs id) r.bans)).length c9] 32 :: own memberD 54 (.slice A4 (dropP (idIs id) r.members).length c4) (dropP (idIs id) r.members) F4 :: own inviteD 49 (.slice A5 (dropP (invIs id) r.invites).length c5) (dropP (invIs id) r.invites) F5 :: [blk (w.heap.size + 1) #[.bool false, .slice none 0 0, .slice none 0 0, .slice none 0 0] 32, blk w.heap.size #[.bool r.open_, .slice A1 r.members.length c1, .slice A2 r.invites.length c2, .slice A3 r.bans.length c3] 32]) from by (repeat (first | (with_reducible exact HSD.out) | (with_reducible apply St.alloc) | (with_reducible apply St.set0) | (with_reducible apply St.set1) | (with_reducible apply St.set2) | (with_reducible apply St.set3) | (with_reducible apply St.drew) | (with_reducible apply St.drewN))); all_goals (try (first | rfl | (simp; done)))))) hb)
                     (try clear x1_0 x1_1 x1_2 x1_3 xf1)
                     obtain ⟨x1_0, x1_1, x1_2, x1_3⟩ := (St.at3 HS7.out).c4
                     have xf1 := (St.at3 HS7.out).frozen
                     have xz6 := (St.at3 HS7.out).lt
                     clear hb))
                refine bodyPost_ret (v := .tuple #[.agg #[.bool r.open_, .slice A4 (dropP (idIs id) r.members).length c4, .slice A5 (dropP (invIs id) r.invites).length c5, .slice A9 (insK Ban.id (newB id u) (dropP (banIs id) r.bans)).length c9], .bool true]) (by simp [results, Tryz.results15, go_sem, x1_0, x1_1, x1_2, x1_3, xf1, xz6]) rfl ?_
                rw [show chR r (banishF n id u a) = ({ r with members := (dropP (idIs id) r.members), invites := (dropP (invIs id) r.invites), bans := (insK Ban.id (newB id u) (dropP (banIs id) r.bans)) }) from chR_yes HOK.out, HOK.out]
                exact St.ret2 (cs := [.bool r.open_, .slice A4 (dropP (idIs id) r.members).length c4, .slice A5 (dropP (invIs id) r.invites).length c5, .slice A9 (insK Ban.id (newB id u) (dropP (banIs id) r.bans)).length c9]) (F := F4 ++ (F5 ++ F9)) (St.room2 (x := { r with members := (dropP (idIs id) r.members), invites := (dropP (invIs id) r.invites), bans := (insK Ban.id (newB id u) (dropP (banIs id) r.bans)) }) (by (repeat (first | (with_reducible exact HS7.out) | (with_reducible apply St.alloc) | (with_reducible apply St.set0) | (with_reducible apply St.set1) | (with_reducible apply St.set2) | (with_reducible apply St.set3) | (with_reducible apply St.drew) | (with_reducible apply St.drewN))); all_goals (try (first | rfl | (simp; done))))) rfl
              · have HV2 := hide (show validRoomB ({ r with members := (dropP (idIs id) r.members), invites := (dropP (invIs id) r.invites), bans := (insK Ban.id (newB id u) (dropP (banIs id) r.bans)) }) = false by simpa using hv2)
                have HOK := hide (show chOk r (banishF n id u a) = false by simp only [chOk, banishF]; rw [HV2.out]; simp)
                clear hv2
                go_wp2_with (first
                  | (go_at_call 29
                     refine (l02Give_no ({ r with members := (dropP (idIs id) r.members), invites := (dropP (invIs id) r.invites), bans := (insK Ban.id (newB id u) (dropP (banIs id) r.bans)) }) _ _ _ _ _ _ _ _ _ _ (St.push2 (St.drop1 (show St w _ (own banD 73 (.slice A9 (insK Ban.id (newB id u) (dropP (banIs id) r.bans)).length c9) (insK Ban.id (newB id u) (dropP (banIs id) r.bans)) F9 :: blk w3.heap.size #[.bool r.open_, .slice A4 (dropP (idIs id) r.members).length c4, .slice A5 (dropP (invIs id) r.invites).length c5, .slice A9 (insK Ban.id (newB id u) (dropP (banIs id) r.bans)).length c9] 32 :: own memberD 54 (.slice A4 (dropP (idIs id) r.members).length c4) (dropP (idIs id) r.members) F4 :: own inviteD 49 (.slice A5 (dropP (invIs id) r.invites).length c5) (dropP (invIs id) r.invites) F5 :: [blk (w.heap.size + 1) #[.bool false, .slice none 0 0, .slice none 0 0, .slice none 0 0] 32, blk w.heap.size #[.bool r.open_, .slice A1 r.members.length c1, .slice A2 r.invites.length c2, .slice A3 r.bans.length c3] 32]) from by (repeat (first | (with_reducible exact HSD.out) | (with_reducible apply St.alloc) | (with_reducible apply St.set0) | (with_reducible apply St.set1) | (with_reducible apply St.set2) | (with_reducible apply St.set3) | (with_reducible apply St.drew) | (with_reducible apply St.drewN))); all_goals (try (first | rfl | (simp; done)))))).toK (St.toK (St.push2 (St.drop1 (show St w _ (own banD 73 (.slice A9 (insK Ban.id (newB id u) (dropP (banIs id) r.bans)).length c9) (insK Ban.id (newB id u) (dropP (banIs id) r.bans)) F9 :: blk w3.heap.size #[.bool r.open_, .slice A4 (dropP (idIs id) r.members).length c4, .slice A5 (dropP (invIs id) r.invites).length c5, .slice A9 (insK Ban.id (newB id u) (dropP (banIs id) r.bans)).length c9] 32 :: own memberD 54 (.slice A4 (dropP (idIs id) r.members).length c4) (dropP (idIs id) r.members) F4 :: own inviteD 49 (.slice A5 (dropP (invIs id) r.invites).length c5) (dropP (invIs id) r.invites) F5 :: [blk (w.heap.size + 1) #[.bool false, .slice none 0 0, .slice none 0 0, .slice none 0 0] 32, blk w.heap.size #[.bool r.open_, .slice A1 r.members.length c1, .slice A2 r.invites.length c2, .slice A3 r.bans.length c3] 32]) from by (repeat (first | (with_reducible exact HSD.out) | (with_reducible apply St.alloc) | (with_reducible apply St.set0) | (with_reducible apply St.set1) | (with_reducible apply St.set2) | (with_reducible apply St.set3) | (with_reducible apply St.drew) | (with_reducible apply St.drewN))); all_goals (try (first | rfl | (simp; done)))))).pull1) (St.toK (St.push2 (St.drop1 (show St w _ (own banD 73 (.slice A9 (insK Ban.id (newB id u) (dropP (banIs id) r.bans)).length c9) (insK Ban.id (newB id u) (dropP (banIs id) r.bans)) F9 :: blk w3.heap.size #[.bool r.open_, .slice A4 (dropP (idIs id) r.members).length c4, .slice A5 (dropP (invIs id) r.invites).length c5, .slice A9 (insK Ban.id (newB id u) (dropP (banIs id) r.bans)).length c9] 32 :: own memberD 54 (.slice A4 (dropP (idIs id) r.members).length c4) (dropP (idIs id) r.members) F4 :: own inviteD 49 (.slice A5 (dropP (invIs id) r.invites).length c5) (dropP (invIs id) r.invites) F5 :: [blk (w.heap.size + 1) #[.bool false, .slice none 0 0, .slice none 0 0, .slice none 0 0] 32, blk w.heap.size #[.bool r.open_, .slice A1 r.members.length c1, .slice A2 r.invites.length c2, .slice A3 r.bans.length c3] 32]) from by (repeat (first | (with_reducible exact HSD.out) | (with_reducible apply St.alloc) | (with_reducible apply St.set0) | (with_reducible apply St.set1) | (with_reducible apply St.set2) | (with_reducible apply St.set3) | (with_reducible apply St.drew) | (with_reducible apply St.drewN))); all_goals (try (first | rfl | (simp; done)))))).pull2) HV2.out).mono ?_
                     rintro e w6 ⟨rfl, hb⟩
                     have HS7 := hide (St.by (St.push2 (St.drop1 (show St w _ (own banD 73 (.slice A9 (insK Ban.id (newB id u) (dropP (banIs id) r.bans)).length c9) (insK Ban.id (newB id u) (dropP (banIs id) r.bans)) F9 :: blk w3.heap.size #[.bool r.open_, .slice A4 (dropP (idIs id) r.members).length c4, .slice A5 (dropP (invIs id) r.invites).length c5, .slice A9 (insK Ban.id (newB id u) (dropP (banIs id) r.bans)).length c9] 32 :: own memberD 54 (.slice A4 (dropP (idIs id) r.members).length c4) (dropP (idIs id) r.members) F4 :: own inviteD 49 (.slice A5 (dropP (invIs id) r.invites).length c5) (dropP (invIs id) r.invites) F5 :: [blk (w.heap.size + 1) #[.bool false, .slice none 0 0, .slice none 0 0, .slice none 0 0] 32, blk w.heap.size #[.bool r.open_, .slice A1 r.members.length c1, .slice A2 r.invites.length c2, .slice A3 r.bans.length c3] 32]) from by (repeat (first | (with_reducible exact HSD.out) | (with_reducible apply St.alloc) | (with_reducible apply St.set0) | (with_reducible apply St.set1) | (with_reducible apply St.set2) | (with_reducible apply St.set3) | (with_reducible apply St.drew) | (with_reducible apply St.drewN))); all_goals (try (first | rfl | (simp; done)))))) hb)
                     (try clear x1_0 x1_1 x1_2 x1_3 xf1)
                     obtain ⟨x1_0, x1_1, x1_2, x1_3⟩ := (St.at3 HS7.out).c4
                     have xf1 := (St.at3 HS7.out).frozen
                     have xz6 := (St.at3 HS7.out).lt
                     clear hb))
                have HS8 := hide HS7.out.pull3
                have xz1 := xz6
                refine bodyPost_ret (v := .tuple #[.agg #[.bool false, .slice none 0 0, .slice none 0 0, .slice none 0 0], .bool false]) (by simp [results, Tryz.results15, go_sem, x1_0, x1_1, x1_2, x1_3, xf1, xz1]) rfl ?_
                rw [chR_no HOK.out, HOK.out]
                exact St.ret2 (cs := [.bool false, .slice none 0 0, .slice none 0 0, .slice none 0 0]) (F := []) (St.noRoom (by (repeat (first | (with_reducible exact HS8.out) | (with_reducible apply St.alloc) | (with_reducible apply St.set0) | (with_reducible apply St.set1) | (with_reducible apply St.set2) | (with_reducible apply St.set3) | (with_reducible apply St.drew) | (with_reducible apply St.drewN))); all_goals (try (first | rfl | (simp; done))))) rfl

            | false =>
              have HLA := hide HI.out.last
              have hlen9 : (insK Ban.id (newB id u) (dropP (banIs id) r.bans)).length = out.length + 1 := by rw [← HLA.out]; simp
              by_cases hv2 : validRoomB ({ r with members := (dropP (idIs id) r.members), invites := (dropP (invIs id) r.invites), bans := (insK Ban.id (newB id u) (dropP (banIs id) r.bans)) }) = true
              · have HV2 := hide hv2
                have HOK := hide (show chOk r (banishF n id u a) = true by simp only [chOk, banishF]; rw [HV2.out, HVM.out.1, HVM.out.2, HU.out]; rfl)
                clear hv2
                go_wp2_with (first
                  | (at_builtin
                     refine wpList_app1_st (d := banD) (w0 := w) rfl _ rfl _ _ _ rfl (.agg #[.int .i64 0, .int .i64 0]) 16 Tryz.underlying30 infoBan rfl (by omega) (by omega) (.slice A9 out.length c9) (out) F9 rfl wr.heap.size #[.int .i64 id, .int .i64 u] (by (repeat (first | (with_reducible exact HS.out) | (with_reducible apply St.alloc) | (with_reducible apply St.set0) | (with_reducible apply St.set1) | (with_reducible apply St.set2) | (with_reducible apply St.set3) | (with_reducible apply St.drew) | (with_reducible apply St.drewN))); all_goals (try (first | rfl | (simp; done)))) 1 rfl (newB id u) rfl (by first | omega | (simp; omega)) ?_
                     intro gL capL wL FL hS
                     have HSL := hide hS
                     obtain ⟨zL0, zL1, zL2, zL3⟩ := hS.at1.c4
                     have zfL := hS.at1.frozen
                     have zzL := hS.at1.lt
                     rw [HLA.out] at hS; have HSM := hide hS; obtain ⟨v0, v1, v2, v3⟩ := (St.at2 hS.drop.drop).c4
                     clear hS)
                  | (go_at_call 29
                     refine (l02Give_yes ({ r with members := (dropP (idIs id) r.members), invites := (dropP (invIs id) r.invites), bans := (insK Ban.id (newB id u) (dropP (banIs id) r.bans)) }) _ _ _ _ _ _ _ _ _ _ (St.push2 (St.drop1 (show St w _ (own banD 73 (.slice (some ⟨gL, 0, none⟩) (out.length + 1) capL) (insK Ban.id (newB id u) (dropP (banIs id) r.bans)) FL :: blk w3.heap.size #[.bool r.open_, .slice A4 (dropP (idIs id) r.members).length c4, .slice A5 (dropP (invIs id) r.invites).length c5, .slice (some ⟨gL, 0, none⟩) (out.length + 1) capL] 32 :: own memberD 54 (.slice A4 (dropP (idIs id) r.members).length c4) (dropP (idIs id) r.members) F4 :: own inviteD 49 (.slice A5 (dropP (invIs id) r.invites).length c5) (dropP (invIs id) r.invites) F5 :: [blk (w.heap.size + 1) #[.bool false, .slice none 0 0, .slice none 0 0, .slice none 0 0] 32, blk w.heap.size #[.bool r.open_, .slice A1 r.members.length c1, .slice A2 r.invites.length c2, .slice A3 r.bans.length c3] 32]) from by (repeat (first | (with_reducible exact HSM.out) | (with_reducible apply St.alloc) | (with_reducible apply St.set0) | (with_reducible apply St.set1) | (with_reducible apply St.set2) | (with_reducible apply St.set3) | (with_reducible apply St.drew) | (with_reducible apply St.drewN))); all_goals (try (first | rfl | (simp; done)))))).toK (St.toK (St.push2 (St.drop1 (show St w _ (own banD 73 (.slice (some ⟨gL, 0, none⟩) (out.length + 1) capL) (insK Ban.id (newB id u) (dropP (banIs id) r.bans)) FL :: blk w3.heap.size #[.bool r.open_, .slice A4 (dropP (idIs id) r.members).length c4, .slice A5 (dropP (invIs id) r.invites).length c5, .slice (some ⟨gL, 0, none⟩) (out.length + 1) capL] 32 :: own memberD 54 (.slice A4 (dropP (idIs id) r.members).length c4) (dropP (idIs id) r.members) F4 :: own inviteD 49 (.slice A5 (dropP (invIs id) r.invites).length c5) (dropP (invIs id) r.invites) F5 :: [blk (w.heap.size + 1) #[.bool false, .slice none 0 0, .slice none 0 0, .slice none 0 0] 32, blk w.heap.size #[.bool r.open_, .slice A1 r.members.length c1, .slice A2 r.invites.length c2, .slice A3 r.bans.length c3] 32]) from by (repeat (first | (with_reducible exact HSM.out) | (with_reducible apply St.alloc) | (with_reducible apply St.set0) | (with_reducible apply St.set1) | (with_reducible apply St.set2) | (with_reducible apply St.set3) | (with_reducible apply St.drew) | (with_reducible apply St.drewN))); all_goals (try (first | rfl | (simp; done)))))).pull1) (St.toK (St.push2 (St.drop1 (show St w _ (own banD 73 (.slice (some ⟨gL, 0, none⟩) (out.length + 1) capL) (insK Ban.id (newB id u) (dropP (banIs id) r.bans)) FL :: blk w3.heap.size #[.bool r.open_, .slice A4 (dropP (idIs id) r.members).length c4, .slice A5 (dropP (invIs id) r.invites).length c5, .slice (some ⟨gL, 0, none⟩) (out.length + 1) capL] 32 :: own memberD 54 (.slice A4 (dropP (idIs id) r.members).length c4) (dropP (idIs id) r.members) F4 :: own inviteD 49 (.slice A5 (dropP (invIs id) r.invites).length c5) (dropP (invIs id) r.invites) F5 :: [blk (w.heap.size + 1) #[.bool false, .slice none 0 0, .slice none 0 0, .slice none 0 0] 32, blk w.heap.size #[.bool r.open_, .slice A1 r.members.length c1, .slice A2 r.invites.length c2, .slice A3 r.bans.length c3] 32]) from by (repeat (first | (with_reducible exact HSM.out) | (with_reducible apply St.alloc) | (with_reducible apply St.set0) | (with_reducible apply St.set1) | (with_reducible apply St.set2) | (with_reducible apply St.set3) | (with_reducible apply St.drew) | (with_reducible apply St.drewN))); all_goals (try (first | rfl | (simp; done)))))).pull2) HV2.out).mono ?_
                     rintro e w6 ⟨rfl, hb⟩
                     have HS7 := hide (St.by (St.push2 (St.drop1 (show St w _ (own banD 73 (.slice (some ⟨gL, 0, none⟩) (out.length + 1) capL) (insK Ban.id (newB id u) (dropP (banIs id) r.bans)) FL :: blk w3.heap.size #[.bool r.open_, .slice A4 (dropP (idIs id) r.members).length c4, .slice A5 (dropP (invIs id) r.invites).length c5, .slice (some ⟨gL, 0, none⟩) (out.length + 1) capL] 32 :: own memberD 54 (.slice A4 (dropP (idIs id) r.members).length c4) (dropP (idIs id) r.members) F4 :: own inviteD 49 (.slice A5 (dropP (invIs id) r.invites).length c5) (dropP (invIs id) r.invites) F5 :: [blk (w.heap.size + 1) #[.bool false, .slice none 0 0, .slice none 0 0, .slice none 0 0] 32, blk w.heap.size #[.bool r.open_, .slice A1 r.members.length c1, .slice A2 r.invites.length c2, .slice A3 r.bans.length c3] 32]) from by (repeat (first | (with_reducible exact HSM.out) | (with_reducible apply St.alloc) | (with_reducible apply St.set0) | (with_reducible apply St.set1) | (with_reducible apply St.set2) | (with_reducible apply St.set3) | (with_reducible apply St.drew) | (with_reducible apply St.drewN))); all_goals (try (first | rfl | (simp; done)))))) hb)
                     (try clear x1_0 x1_1 x1_2 x1_3 xf1)
                     obtain ⟨x1_0, x1_1, x1_2, x1_3⟩ := (St.at3 HS7.out).c4
                     have xf1 := (St.at3 HS7.out).frozen
                     have xz6 := (St.at3 HS7.out).lt
                     clear hb))
                refine bodyPost_ret (v := .tuple #[.agg #[.bool r.open_, .slice A4 (dropP (idIs id) r.members).length c4, .slice A5 (dropP (invIs id) r.invites).length c5, .slice (some ⟨gL, 0, none⟩) (out.length + 1) capL], .bool true]) (by simp [results, Tryz.results15, go_sem, x1_0, x1_1, x1_2, x1_3, xf1, xz6]) rfl ?_
                rw [show chR r (banishF n id u a) = ({ r with members := (dropP (idIs id) r.members), invites := (dropP (invIs id) r.invites), bans := (insK Ban.id (newB id u) (dropP (banIs id) r.bans)) }) from chR_yes HOK.out, HOK.out]
                exact St.ret2 (cs := [.bool r.open_, .slice A4 (dropP (idIs id) r.members).length c4, .slice A5 (dropP (invIs id) r.invites).length c5, .slice (some ⟨gL, 0, none⟩) (out.length + 1) capL]) (F := F4 ++ (F5 ++ FL)) (St.room2 (x := { r with members := (dropP (idIs id) r.members), invites := (dropP (invIs id) r.invites), bans := (insK Ban.id (newB id u) (dropP (banIs id) r.bans)) }) (by (repeat (first | (with_reducible exact HS7.out) | (with_reducible apply St.alloc) | (with_reducible apply St.set0) | (with_reducible apply St.set1) | (with_reducible apply St.set2) | (with_reducible apply St.set3) | (with_reducible apply St.drew) | (with_reducible apply St.drewN))); all_goals (try (first | rfl | (simp; done))))) rfl
              · have HV2 := hide (show validRoomB ({ r with members := (dropP (idIs id) r.members), invites := (dropP (invIs id) r.invites), bans := (insK Ban.id (newB id u) (dropP (banIs id) r.bans)) }) = false by simpa using hv2)
                have HOK := hide (show chOk r (banishF n id u a) = false by simp only [chOk, banishF]; rw [HV2.out]; simp)
                clear hv2
                go_wp2_with (first
                  | (at_builtin
                     refine wpList_app1_st (d := banD) (w0 := w) rfl _ rfl _ _ _ rfl (.agg #[.int .i64 0, .int .i64 0]) 16 Tryz.underlying30 infoBan rfl (by omega) (by omega) (.slice A9 out.length c9) (out) F9 rfl wr.heap.size #[.int .i64 id, .int .i64 u] (by (repeat (first | (with_reducible exact HS.out) | (with_reducible apply St.alloc) | (with_reducible apply St.set0) | (with_reducible apply St.set1) | (with_reducible apply St.set2) | (with_reducible apply St.set3) | (with_reducible apply St.drew) | (with_reducible apply St.drewN))); all_goals (try (first | rfl | (simp; done)))) 1 rfl (newB id u) rfl (by first | omega | (simp; omega)) ?_
                     intro gL capL wL FL hS
                     have HSL := hide hS
                     obtain ⟨zL0, zL1, zL2, zL3⟩ := hS.at1.c4
                     have zfL := hS.at1.frozen
                     have zzL := hS.at1.lt
                     rw [HLA.out] at hS; have HSM := hide hS; obtain ⟨v0, v1, v2, v3⟩ := (St.at2 hS.drop.drop).c4
                     clear hS)
                  | (go_at_call 29
                     refine (l02Give_no ({ r with members := (dropP (idIs id) r.members), invites := (dropP (invIs id) r.invites), bans := (insK Ban.id (newB id u) (dropP (banIs id) r.bans)) }) _ _ _ _ _ _ _ _ _ _ (St.push2 (St.drop1 (show St w _ (own banD 73 (.slice (some ⟨gL, 0, none⟩) (out.length + 1) capL) (insK Ban.id (newB id u) (dropP (banIs id) r.bans)) FL :: blk w3.heap.size #[.bool r.open_, .slice A4 (dropP (idIs id) r.members).length c4, .slice A5 (dropP (invIs id) r.invites).length c5, .slice (some ⟨gL, 0, none⟩) (out.length + 1) capL] 32 :: own memberD 54 (.slice A4 (dropP (idIs id) r.members).length c4) (dropP (idIs id) r.members) F4 :: own inviteD 49 (.slice A5 (dropP (invIs id) r.invites).length c5) (dropP (invIs id) r.invites) F5 :: [blk (w.heap.size + 1) #[.bool false, .slice none 0 0, .slice none 0 0, .slice none 0 0] 32, blk w.heap.size #[.bool r.open_, .slice A1 r.members.length c1, .slice A2 r.invites.length c2, .slice A3 r.bans.length c3] 32]) from by (repeat (first | (with_reducible exact HSM.out) | (with_reducible apply St.alloc) | (with_reducible apply St.set0) | (with_reducible apply St.set1) | (with_reducible apply St.set2) | (with_reducible apply St.set3) | (with_reducible apply St.drew) | (with_reducible apply St.drewN))); all_goals (try (first | rfl | (simp; done)))))).toK (St.toK (St.push2 (St.drop1 (show St w _ (own banD 73 (.slice (some ⟨gL, 0, none⟩) (out.length + 1) capL) (insK Ban.id (newB id u) (dropP (banIs id) r.bans)) FL :: blk w3.heap.size #[.bool r.open_, .slice A4 (dropP (idIs id) r.members).length c4, .slice A5 (dropP (invIs id) r.invites).length c5, .slice (some ⟨gL, 0, none⟩) (out.length + 1) capL] 32 :: own memberD 54 (.slice A4 (dropP (idIs id) r.members).length c4) (dropP (idIs id) r.members) F4 :: own inviteD 49 (.slice A5 (dropP (invIs id) r.invites).length c5) (dropP (invIs id) r.invites) F5 :: [blk (w.heap.size + 1) #[.bool false, .slice none 0 0, .slice none 0 0, .slice none 0 0] 32, blk w.heap.size #[.bool r.open_, .slice A1 r.members.length c1, .slice A2 r.invites.length c2, .slice A3 r.bans.length c3] 32]) from by (repeat (first | (with_reducible exact HSM.out) | (with_reducible apply St.alloc) | (with_reducible apply St.set0) | (with_reducible apply St.set1) | (with_reducible apply St.set2) | (with_reducible apply St.set3) | (with_reducible apply St.drew) | (with_reducible apply St.drewN))); all_goals (try (first | rfl | (simp; done)))))).pull1) (St.toK (St.push2 (St.drop1 (show St w _ (own banD 73 (.slice (some ⟨gL, 0, none⟩) (out.length + 1) capL) (insK Ban.id (newB id u) (dropP (banIs id) r.bans)) FL :: blk w3.heap.size #[.bool r.open_, .slice A4 (dropP (idIs id) r.members).length c4, .slice A5 (dropP (invIs id) r.invites).length c5, .slice (some ⟨gL, 0, none⟩) (out.length + 1) capL] 32 :: own memberD 54 (.slice A4 (dropP (idIs id) r.members).length c4) (dropP (idIs id) r.members) F4 :: own inviteD 49 (.slice A5 (dropP (invIs id) r.invites).length c5) (dropP (invIs id) r.invites) F5 :: [blk (w.heap.size + 1) #[.bool false, .slice none 0 0, .slice none 0 0, .slice none 0 0] 32, blk w.heap.size #[.bool r.open_, .slice A1 r.members.length c1, .slice A2 r.invites.length c2, .slice A3 r.bans.length c3] 32]) from by (repeat (first | (with_reducible exact HSM.out) | (with_reducible apply St.alloc) | (with_reducible apply St.set0) | (with_reducible apply St.set1) | (with_reducible apply St.set2) | (with_reducible apply St.set3) | (with_reducible apply St.drew) | (with_reducible apply St.drewN))); all_goals (try (first | rfl | (simp; done)))))).pull2) HV2.out).mono ?_
                     rintro e w6 ⟨rfl, hb⟩
                     have HS7 := hide (St.by (St.push2 (St.drop1 (show St w _ (own banD 73 (.slice (some ⟨gL, 0, none⟩) (out.length + 1) capL) (insK Ban.id (newB id u) (dropP (banIs id) r.bans)) FL :: blk w3.heap.size #[.bool r.open_, .slice A4 (dropP (idIs id) r.members).length c4, .slice A5 (dropP (invIs id) r.invites).length c5, .slice (some ⟨gL, 0, none⟩) (out.length + 1) capL] 32 :: own memberD 54 (.slice A4 (dropP (idIs id) r.members).length c4) (dropP (idIs id) r.members) F4 :: own inviteD 49 (.slice A5 (dropP (invIs id) r.invites).length c5) (dropP (invIs id) r.invites) F5 :: [blk (w.heap.size + 1) #[.bool false, .slice none 0 0, .slice none 0 0, .slice none 0 0] 32, blk w.heap.size #[.bool r.open_, .slice A1 r.members.length c1, .slice A2 r.invites.length c2, .slice A3 r.bans.length c3] 32]) from by (repeat (first | (with_reducible exact HSM.out) | (with_reducible apply St.alloc) | (with_reducible apply St.set0) | (with_reducible apply St.set1) | (with_reducible apply St.set2) | (with_reducible apply St.set3) | (with_reducible apply St.drew) | (with_reducible apply St.drewN))); all_goals (try (first | rfl | (simp; done)))))) hb)
                     (try clear x1_0 x1_1 x1_2 x1_3 xf1)
                     obtain ⟨x1_0, x1_1, x1_2, x1_3⟩ := (St.at3 HS7.out).c4
                     have xf1 := (St.at3 HS7.out).frozen
                     have xz6 := (St.at3 HS7.out).lt
                     clear hb))
                have HS8 := hide HS7.out.pull3
                have xz1 := xz6
                refine bodyPost_ret (v := .tuple #[.agg #[.bool false, .slice none 0 0, .slice none 0 0, .slice none 0 0], .bool false]) (by simp [results, Tryz.results15, go_sem, x1_0, x1_1, x1_2, x1_3, xf1, xz1]) rfl ?_
                rw [chR_no HOK.out, HOK.out]
                exact St.ret2 (cs := [.bool false, .slice none 0 0, .slice none 0 0, .slice none 0 0]) (F := []) (St.noRoom (by (repeat (first | (with_reducible exact HS8.out) | (with_reducible apply St.alloc) | (with_reducible apply St.set0) | (with_reducible apply St.set1) | (with_reducible apply St.set2) | (with_reducible apply St.set3) | (with_reducible apply St.drew) | (with_reducible apply St.drewN))); all_goals (try (first | rfl | (simp; done))))) rfl

      · have HOK := hide (show chOk r (banishF n id u a) = false by simp [chOk, banishF, hu])
        have hud : decide (u < a) = true := decide_eq_true (by omega)
        clear hu
        go_enter Tryz.func15, Tryz.ntmps15
        go_wp2_with (first
          | (go_at_call 50
             refine (l02Above_c r _ _ n id 6 a _ (Blk.rowAt (d := roomD) (x := r) HS0.out.at1 (room_K_mk (H1.out.below HS0.out.below) (H2.out.below HS0.out.below) (H3.out.below HS0.out.below)) rfl)).mono ?_
             rintro e w1 ⟨rfl, hb⟩
             rw [HA.out]
             have HS1 := hide (HS0.out.by hb)
             (try clear x1_0 x1_1 x1_2 x1_3 xf1 xz1)
             obtain ⟨x1_0, x1_1, x1_2, x1_3⟩ := HS1.out.at0.c4
             have xf1 := HS1.out.at0.frozen
             have xz1 := HS1.out.at0.lt
             (try clear y2_0 y2_1 y2_2 y2_3 yz2)
             obtain ⟨y2_0, y2_1, y2_2, y2_3⟩ := HS1.out.at1.c4
             have yz2 := HS1.out.at1.lt
             clear hb)
          | (go_at_call 22; refine (l02Tick_c _ _).mono ?_; rintro e w' ⟨rfl, rfl⟩; rw [HT.out]))
        refine bodyPost_ret (v := .tuple #[.agg #[.bool false, .slice none 0 0, .slice none 0 0, .slice none 0 0], .bool false]) (by simp [results, Tryz.results15, go_sem, x1_0, x1_1, x1_2, x1_3, xf1, xz1]) rfl ?_
        rw [chR_no HOK.out, HOK.out]
        exact St.ret2 (cs := [.bool false, .slice none 0 0, .slice none 0 0, .slice none 0 0]) (F := []) (St.noRoom (by (repeat (first | (with_reducible exact HS1.out) | (with_reducible apply St.alloc) | (with_reducible apply St.set0) | (with_reducible apply St.set1) | (with_reducible apply St.set2) | (with_reducible apply St.set3) | (with_reducible apply St.drew) | (with_reducible apply St.drewN))); all_goals (try (first | rfl | (simp; done))))) rfl
    · have HT := hide (show inB u 0 1000000 = false by simpa using ht)
      have HOK := hide (banish_bad (r := r) (n := n) (id := id) (a := a) HT.out)
      clear ht
      go_enter Tryz.func15, Tryz.ntmps15
      go_wp2_with (first
        | (go_at_call 50
           refine (l02Above_c r _ _ n id 6 a _ (Blk.rowAt (d := roomD) (x := r) HS0.out.at1 (room_K_mk (H1.out.below HS0.out.below) (H2.out.below HS0.out.below) (H3.out.below HS0.out.below)) rfl)).mono ?_
           rintro e w1 ⟨rfl, hb⟩
           rw [HA.out]
           have HS1 := hide (HS0.out.by hb)
           (try clear x1_0 x1_1 x1_2 x1_3 xf1 xz1)
           obtain ⟨x1_0, x1_1, x1_2, x1_3⟩ := HS1.out.at0.c4
           have xf1 := HS1.out.at0.frozen
           have xz1 := HS1.out.at0.lt
           (try clear y2_0 y2_1 y2_2 y2_3 yz2)
           obtain ⟨y2_0, y2_1, y2_2, y2_3⟩ := HS1.out.at1.c4
           have yz2 := HS1.out.at1.lt
           clear hb)
        | (go_at_call 22; refine (l02Tick_c _ _).mono ?_; rintro e w' ⟨rfl, rfl⟩; rw [HT.out]))
      refine bodyPost_ret (v := .tuple #[.agg #[.bool false, .slice none 0 0, .slice none 0 0, .slice none 0 0], .bool false]) (by simp [results, Tryz.results15, go_sem, x1_0, x1_1, x1_2, x1_3, xf1, xz1]) rfl ?_
      rw [chR_no HOK.out, HOK.out]
      exact St.ret2 (cs := [.bool false, .slice none 0 0, .slice none 0 0, .slice none 0 0]) (F := []) (St.noRoom (by (repeat (first | (with_reducible exact HS1.out) | (with_reducible apply St.alloc) | (with_reducible apply St.set0) | (with_reducible apply St.set1) | (with_reducible apply St.set2) | (with_reducible apply St.set3) | (with_reducible apply St.drew) | (with_reducible apply St.drewN))); all_goals (try (first | rfl | (simp; done))))) rfl
  · have HA := hide (show aboveB r n id 6 a = false by simpa using ha)
    have HOK := hide (show chOk r (banishF n id u a) = false by
      have h := HA.out
      unfold aboveB at h
      rw [Bool.and_eq_false_iff] at h
      rcases h with h | h <;> simp [chOk, banishF, h])
    clear ha
    go_enter Tryz.func15, Tryz.ntmps15
    go_wp2_with (
      (go_at_call 50
       refine (l02Above_c r _ _ n id 6 a _ (Blk.rowAt (d := roomD) (x := r) HS0.out.at1 (room_K_mk (H1.out.below HS0.out.below) (H2.out.below HS0.out.below) (H3.out.below HS0.out.below)) rfl)).mono ?_
       rintro e w1 ⟨rfl, hb⟩
       rw [HA.out]
       have HS1 := hide (HS0.out.by hb)
       (try clear x1_0 x1_1 x1_2 x1_3 xf1 xz1)
       obtain ⟨x1_0, x1_1, x1_2, x1_3⟩ := HS1.out.at0.c4
       have xf1 := HS1.out.at0.frozen
       have xz1 := HS1.out.at0.lt
       (try clear y2_0 y2_1 y2_2 y2_3 yz2)
       obtain ⟨y2_0, y2_1, y2_2, y2_3⟩ := HS1.out.at1.c4
       have yz2 := HS1.out.at1.lt
       clear hb))
    refine bodyPost_ret (v := .tuple #[.agg #[.bool false, .slice none 0 0, .slice none 0 0, .slice none 0 0], .bool false]) (by simp [results, Tryz.results15, go_sem, x1_0, x1_1, x1_2, x1_3, xf1, xz1]) rfl ?_
    rw [chR_no HOK.out, HOK.out]
    exact St.ret2 (cs := [.bool false, .slice none 0 0, .slice none 0 0, .slice none 0 0]) (F := []) (St.noRoom (by (repeat (first | (with_reducible exact HS1.out) | (with_reducible apply St.alloc) | (with_reducible apply St.set0) | (with_reducible apply St.set1) | (with_reducible apply St.set2) | (with_reducible apply St.set3) | (with_reducible apply St.drew) | (with_reducible apply St.drewN))); all_goals (try (first | rfl | (simp; done))))) rfl
end Go.Proofs.YtnglccgbenlbjaaGreat
