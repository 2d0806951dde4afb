/- A room is swept: the program. -/
import Derived.Test.YtglhepbcbildpaaWithout
import Derived.Test.YtglhepbcbildpaaLiftSpec
namespace Go.Proofs.Ytglhepbcbildpaa
open Go Go.RowKit Go.BigFrame
set_option linter.unusedVariables false
set_option linter.unusedSimpArgs false
def swM (a : Int) (m : Member) : Member := if m.quiet ≤ a then { m with quiet := 0 } else m
def oldI (a : Int) (v : Invite) : Bool := decide (v.until_ < a)
def oldB (a : Int) (v : Ban) : Bool := decide (v.until_ < a)
def sweepR (a : Int) (r : Room) : Room := { r with members := r.members.map (swM a), invites := dropP (oldI a) r.invites, bans := dropP (oldB a) r.bans }
def sweepF (a : Int) (r : Room) : Room × Bool := (sweepR a r, inB a 0 1000000)
def sweepV (r : Room) (a : Int) : Room := chR r (sweepF a)
def sweepOk (r : Room) (a : Int) : Bool := chOk r (sweepF a)
theorem swM_id (a : Int) (m : Member) : (swM a m).id = m.id := by unfold swM; split <;> rfl
theorem swM_role (a : Int) (m : Member) : (swM a m).role = m.role := by unfold swM; split <;> rfl
theorem swM_ok {a : Int} {m : Member} (h : memOkB m = true) : memOkB (swM a m) = true := by
  unfold swM
  split
  · simp only [memOkB, Bool.and_eq_true] at h ⊢
    exact ⟨h.1, by simp [inB]⟩
  · exact h
theorem sweep_valid {r : Room} (hv : validRoomB r = true) (a : Int) : validRoomB (sweepR a r) = true := by
  have hV := valid_iff.1 hv
  have hids : ((r.members.map (swM a)).map Member.id) = r.members.map Member.id := by simp [List.map_map, Function.comp_def, swM_id]
  have hrol : ((r.members.map (swM a)).map Member.role) = r.members.map Member.role := by simp [List.map_map, Function.comp_def, swM_role]
  have hh : ∀ n, hasId (sweepR a r) n = hasId r n := hasId_ids hids
  refine valid_iff.2 ⟨by simpa [sweepR] using hV.m1, by simpa [sweepR] using hV.m32, Nat.le_trans (dropP_le _ _) hV.i16, Nat.le_trans (dropP_le _ _) hV.b16, ?_, pair_map _ hids hV.mp, ?_, hV.ip.filter _, ?_, hV.bp.filter _, ?_⟩
  · intro x hx
    obtain ⟨y, hy, rfl⟩ := List.mem_map.1 hx
    exact swM_ok (hV.mok y hy)
  · intro v hv2
    have := hV.iok v (List.mem_filter.1 hv2).1
    simpa [invOkB, hh] using this
  · intro b hb
    have h1 := hV.bok b (List.mem_filter.1 hb).1
    simp only [banOkB, Bool.and_eq_true, Bool.not_eq_true'] at h1 ⊢
    refine ⟨⟨h1.1.1, by rw [hh]; exact h1.1.2⟩, ?_⟩
    rw [Bool.eq_false_iff]
    intro h2
    obtain ⟨v, hv3, he⟩ := invd_true.1 h2
    have : invd r b.id = true := invd_true.2 ⟨v, (List.mem_filter.1 hv3).1, he⟩
    rw [h1.2] at this; cases this
  · show ownB (r.members.map (swM a)) = true
    rw [ownB_roles hrol]; exact hV.own
/-- The members, the first k of them swept. -/
def swAt (a : Int) (ms : List Member) (k : Nat) : List Member := (ms.take k).map (swM a) ++ ms.drop k
theorem swAt_len (a : Int) (ms : List Member) (k : Nat) : (swAt a ms k).length = ms.length := by
  unfold swAt; rw [List.length_append, List.length_map, ← List.length_append, List.take_append_drop]
theorem swAt_zero (a : Int) (ms : List Member) : swAt a ms 0 = ms := by simp [swAt]
theorem swAt_all (a : Int) (ms : List Member) : swAt a ms ms.length = ms.map (swM a) := by simp [swAt]
theorem swAt_get {a : Int} {ms : List Member} {k : Nat} {m : Member} (hx : ms[k]? = some m) : (swAt a ms k)[k]? = some m := by
  have hk := (List.getElem?_eq_some_iff.1 hx).1
  unfold swAt
  rw [List.getElem?_append_right (by simp; omega)]
  simpa [show min k ms.length = k by omega] using hx
theorem swAt_set {a : Int} {ms : List Member} {k : Nat} {m : Member} (hx : ms[k]? = some m) : (swAt a ms k).set k (swM a m) = swAt a ms (k + 1) := by
  obtain ⟨hk, rfl⟩ := List.getElem?_eq_some_iff.1 hx
  unfold swAt
  rw [List.set_append_right _ _ (by simp; omega), List.take_succ_eq_append_getElem hk, List.map_append]
  simp [show min k ms.length = k by omega]
  rw [List.drop_eq_getElem_cons hk, List.set_cons_zero]
theorem swAt_same {a : Int} {ms : List Member} {k : Nat} {m : Member} (hx : ms[k]? = some m) (h : swM a m = m) : swAt a ms k = swAt a ms (k + 1) := by
  rw [← swAt_set hx, h]
  apply List.ext_getElem?
  intro i
  rw [List.getElem?_set]
  split
  · rename_i e; subst e
    rw [swAt_get hx]
    have hk := (List.getElem?_eq_some_iff.1 hx).1
    rw [if_pos (by rw [swAt_len]; exact hk)]
  · rfl
theorem swept1_c (m : Invite) (b1 : Nat) (a : Int) (W : World) (h1 : W.cell? ⟨b1, 0, none⟩ = some (.int .i64 a)) :
    Calls Try.prog 19 (#[.agg #[.int .i64 m.id, .int .i64 m.by_, .int .i64 m.until_]] ++ #[.pointer (some ⟨b1, 0, none⟩)]) W fun e W' => e = .returned (.bool (oldI a m)) ∧ Below W.heap.size W W' := by
  show Calls Try.prog 19 #[.agg #[.int .i64 m.id, .int .i64 m.by_, .int .i64 m.until_], .pointer (some ⟨b1, 0, none⟩)] W _
  have hlt : b1 < W.heap.size := World.block_lt_of_cell? W _ h1
  have hlt2 : b1 < W.heap.size + 1 := by omega
  have hne : ¬ b1 = W.heap.size := by omega
  go_enter Try.func19, Try.ntmps19
  go_wp2_with fail
  all_goals try go_quiet (fail)
  all_goals go_wp2
  all_goals go_ret
  all_goals first
    | exact ⟨by simp [oldI], (Below.refl _ _).alloc (Nat.le_refl _) _⟩
    | exact ⟨by simp [oldI], below_drewN ((Below.refl _ _).alloc (Nat.le_refl _) _) _⟩
    | exact ⟨by simp [oldI], ((Below.refl _ _).alloc (Nat.le_refl _) _).drew⟩
theorem swept2_c (m : Ban) (b1 : Nat) (a : Int) (W : World) (h1 : W.cell? ⟨b1, 0, none⟩ = some (.int .i64 a)) :
    Calls Try.prog 21 (#[.agg #[.int .i64 m.id, .int .i64 m.until_]] ++ #[.pointer (some ⟨b1, 0, none⟩)]) W fun e W' => e = .returned (.bool (oldB a m)) ∧ Below W.heap.size W W' := by
  show Calls Try.prog 21 #[.agg #[.int .i64 m.id, .int .i64 m.until_], .pointer (some ⟨b1, 0, none⟩)] W _
  have hlt : b1 < W.heap.size := World.block_lt_of_cell? W _ h1
  have hlt2 : b1 < W.heap.size + 1 := by omega
  have hne : ¬ b1 = W.heap.size := by omega
  go_enter Try.func21, Try.ntmps21
  go_wp2_with fail
  all_goals try go_quiet (fail)
  all_goals go_wp2
  all_goals go_ret
  all_goals first
    | exact ⟨by simp [oldB], (Below.refl _ _).alloc (Nat.le_refl _) _⟩
    | exact ⟨by simp [oldB], below_drewN ((Below.refl _ _).alloc (Nat.le_refl _) _) _⟩
    | exact ⟨by simp [oldB], ((Below.refl _ _).alloc (Nat.le_refl _) _).drew⟩
set_option maxHeartbeats 8000000 in
set_option maxRecDepth 100000 in
theorem sweepRoom1_c (a : Int) (w : World) {b1 : Nat} (h1 : w.cell? ⟨b1, 0, none⟩ = some (.int .i64 a)) :
    TurnsS Try.prog roomD 28 17 #[.pointer (some ⟨b1, 0, none⟩)] (fun r => validRoomB r = true) (sweepF a) w := by
  intro x b F W L hS hv
  show Calls Try.prog 17 #[.pointer (some ⟨b, 0, none⟩), .pointer (some ⟨b1, 0, none⟩)] W _
  have HC := hide h1
  have hbn : b1 < w.heap.size := World.block_lt_of_cell? w _ h1
  have hge := hS.headG b hS.head.mem
  have hn1 : ¬ b1 = b := by omega
  have hn2 : ¬ b = b1 := by omega
  obtain ⟨A1, c1, A2, c2, A3, c3, F1, F2, F3, hO⟩ := hS.roomOpen
  have HO := hide hO
  obtain ⟨x0, x1, x2, x3⟩ := hO.at0.c4
  have xf := hO.at0.frozen
  have xz := hO.at0.lt
  have hf := fewR_of hv
  have hf1 := hf.1
  have hf2 := hf.2.1
  have hf3 := hf.2.2
  have hm1 := (valid_iff.1 hv).m1
  have eg1 := enters_of Try.func19 (by kernel_rfl) rfl
  have eg2 := enters_of Try.func21 (by kernel_rfl) rfl
  obtain ⟨⟨q, rfl⟩, -, hlc⟩ := St.hasBlk (d := memberD) rfl hO.pull1 (List.getElem?_eq_getElem (show 0 < x.members.length by omega))
  clear hS hf hO hv h1 hge hbn
  go_enter Try.func17, Try.ntmps17
  go_wp2_with (first
    | (go_at_call 18
       refine (delInvite_c _ _ (oldI a) x.invites _ _ _ w _ _ (St.pull2 (show St w _ (blk b #[.bool x.open_, .slice (some ⟨q, 0, none⟩) x.members.length c1, .slice A2 x.invites.length c2, .slice A3 x.bans.length c3] 28 :: own memberD 55 (.slice (some ⟨q, 0, none⟩) x.members.length c1) x.members F1 :: own inviteD 39 (.slice A2 x.invites.length c2) x.invites F2 :: own banD 41 (.slice A3 x.bans.length c3) x.bans F3 :: L) from by (repeat (first | (with_reducible exact HO.out) | (with_reducible apply St.alloc) | (with_reducible apply St.set0) | (with_reducible apply St.set1) | (with_reducible apply St.set2) | (with_reducible apply St.set3) | (with_reducible apply St.drew) | (with_reducible apply St.drewN))); all_goals (try (first | rfl | (simp; done))))) (by omega) eg1 (fun m W' B hB => swept1_c m _ a W' (cell_below hB.below HC.out))).mono ?_
       rintro e w1 ⟨D2, d2, G2, rfl, hq⟩
       have HQ1 := hide (St.push2 hq)
       obtain ⟨y1_0, y1_1, y1_2, y1_3⟩ := HQ1.out.at0.c4
       have yf1 := HQ1.out.at0.frozen
       have yz1 := HQ1.out.at0.lt
       have kk1 := cell_below HQ1.out.below HC.out
       have kz1 := World.block_lt_of_cell? _ _ kk1
       clear hq)
    | (go_at_call 20
       refine (delBan_c _ _ (oldB a) x.bans _ _ _ w _ _ (St.pull3 (show St w _ (blk b #[.bool x.open_, .slice (some ⟨q, 0, none⟩) x.members.length c1, .slice D2 (dropP (oldI a) x.invites).length d2, .slice A3 x.bans.length c3] 28 :: own memberD 55 (.slice (some ⟨q, 0, none⟩) x.members.length c1) x.members F1 :: own inviteD 39 (.slice D2 (dropP (oldI a) x.invites).length d2) (dropP (oldI a) x.invites) G2 :: own banD 41 (.slice A3 x.bans.length c3) x.bans F3 :: L) from by (repeat (first | (with_reducible exact HQ1.out) | (with_reducible apply St.alloc) | (with_reducible apply St.set0) | (with_reducible apply St.set1) | (with_reducible apply St.set2) | (with_reducible apply St.set3) | (with_reducible apply St.drew) | (with_reducible apply St.drewN))); all_goals (try (first | rfl | (simp; done))))) (by omega) eg2 (fun m W' B hB => swept2_c m _ a W' (cell_below hB.below HC.out))).mono ?_
       rintro e w2 ⟨D3, d3, G3, rfl, hq⟩
       have HQ2 := hide (St.push3 hq)
       obtain ⟨y2_0, y2_1, y2_2, y2_3⟩ := HQ2.out.at0.c4
       have yf2 := HQ2.out.at0.frozen
       have yz2 := HQ2.out.at0.lt
       have kk2 := cell_below HQ2.out.below HC.out
       have kz2 := World.block_lt_of_cell? _ _ kk2
       clear hq))
  go_loopg [28] x.members.length (fun gg s28 wr => ∃ k : Nat, k ≤ x.members.length ∧ x.members.length - k ≤ gg ∧ s28 = .int .i64 k ∧ Hid (St w wr (blk b #[.bool x.open_, .slice (some ⟨q, 0, none⟩) x.members.length c1, .slice D2 (dropP (oldI a) x.invites).length d2, .slice D3 (dropP (oldB a) x.bans).length d3] 28 :: own memberD 55 (.slice (some ⟨q, 0, none⟩) x.members.length c1) (swAt a x.members k) F1 :: own inviteD 39 (.slice D2 (dropP (oldI a) x.invites).length d2) (dropP (oldI a) x.invites) G2 :: own banD 41 (.slice D3 (dropP (oldB a) x.bans).length d3) (dropP (oldB a) x.bans) G3 :: L)))
  case atStart =>
    refine ⟨0, Nat.zero_le _, by omega, rfl, hide ?_⟩
    rw [swAt_zero]
    (repeat (first | (with_reducible exact HQ2.out) | (with_reducible apply St.alloc) | (with_reducible apply St.set0) | (with_reducible apply St.set1) | (with_reducible apply St.set2) | (with_reducible apply St.set3) | (with_reducible apply St.drew) | (with_reducible apply St.drewN))); all_goals (try (first | rfl | (simp; done)))
  case round =>
    obtain ⟨k, hk, hg, rfl, HS⟩ := hrel
    obtain ⟨z0, z1, z2, z3⟩ := HS.out.at0.c4
    have zz := HS.out.at0.lt
    have kk := cell_below HS.out.below HC.out
    have kz := World.block_lt_of_cell? _ _ kk
    by_cases hlt : k < x.members.length
    · obtain ⟨m, hx⟩ : ∃ m, x.members[k]? = some m := ⟨_, List.getElem?_eq_getElem hlt⟩
      obtain ⟨hcw, hfw, hzw⟩ := St.flatCell (d := memberD) (xs := swAt a x.members k) rfl (by rw [swAt_len]; exact HS.out.pull1) (swAt_get hx)
      have d3 := hcw 3 _ rfl
      have HX := hide hx
      have hlt2 : (k : Int) < (x.members.length : Int) := by omega
      obtain ⟨hq1, hq2⟩ := St.apart (d := memberD) rfl HS.out
      clear hx hcw
      by_cases hqu : m.quiet ≤ a
      · have HM := hide (show swM a m = { m with quiet := 0 } by simp [swM, hqu])
        go_wp2_with fail
        all_goals try go_quiet (fail)
        all_goals go_wp2_with fail
        go_roundg (x.members.length - (k + 1))
        case measure => omega
        case rel =>
          refine ⟨k + 1, by omega, by omega, by go_num, hide ?_⟩
          rw [← swAt_set HX.out, HM.out]
          have h9 := fun n => St.setFlat (d := memberD) (x' := { m with quiet := 0 }) (j := 3) (u := .int .i64 0) (xs := swAt a x.members k) rfl (by rw [swAt_len]; exact (St.pull1 (HS.out.drewN n))) (swAt_get HX.out) (by omega) rfl rfl
          rw [swAt_len] at h9
          exact St.pull1 (h9 _)
      · have HM := hide (show swM a m = m by simp [swM, hqu])
        go_wp2_with fail
        all_goals try go_quiet (fail)
        all_goals go_wp2_with fail
        go_roundg (x.members.length - (k + 1))
        case measure => omega
        case rel =>
          refine ⟨k + 1, by omega, by omega, by go_num, hide ?_⟩
          rw [← swAt_same HX.out HM.out]
          exact HS.out.drewN _
    · obtain rfl : k = x.members.length := by omega
      clear hlt
      go_wp2_with (go_at_call 22; refine (isTick_c _ _).mono ?_; rintro e w' ⟨rfl, rfl⟩)
      go_ret
      have h9 := HS.out
      rw [swAt_all] at h9
      exact ⟨rfl, _, St.roomShut (x := sweepR a x) h9, fun _ => ⟨_, rfl⟩⟩
set_option maxHeartbeats 4000000 in
set_option maxRecDepth 100000 in
theorem sweepRoom_c (r : Room) (a : Int) (v1 v2 v3 : Value) (w : World) (h1 : SliceK memberD w v1 r.members) (h2 : SliceK inviteD w v2 r.invites) (h3 : SliceK banD w v3 r.bans) :
    Calls Try.prog 7 #[.agg #[.bool r.open_, v1, v2, v3], .int .i64 a] w (RetElem2 roomD w (sweepV r a) (sweepOk r a)) := by
  show Calls Try.prog 7 #[.agg #[.bool r.open_, v1, v2, v3], .int .i64 a] w (RetElem2 roomD w (chR r (sweepF a)) (chOk r (sweepF a)))
  obtain ⟨A1, c1, rfl⟩ := h1.shape
  obtain ⟨A2, c2, rfl⟩ := h2.shape
  obtain ⟨A3, c3, rfl⟩ := h3.shape
  have H1 := hide h1
  have H2 := hide h2
  have H3 := hide h3
  clear h1 h2 h3
  have HS0 := hide (show St w (((w.alloc (.cells #[.bool r.open_, .slice A1 r.members.length c1, .slice A2 r.invites.length c2, .slice A3 r.bans.length c3] 28)).alloc (.cells #[.int .i64 a] 2)).alloc (.cells #[.bool false, .slice none 0 0, .slice none 0 0, .slice none 0 0] 28)) [blk (w.heap.size + 1 + 1) #[.bool false, .slice none 0 0, .slice none 0 0, .slice none 0 0] 28, blk (w.heap.size + 1) #[.int .i64 a] 2, blk w.heap.size #[.bool r.open_, .slice A1 r.members.length c1, .slice A2 r.invites.length c2, .slice A3 r.bans.length c3] 28] from ((((St.start w).alloc rfl).alloc (by simp)).alloc (by simp)))
  have HE0 := hide (St.at1 HS0.out).c1
  have eg2 := enters_of Try.func17 (by kernel_rfl) rfl
  go_enter Try.func7, Try.ntmps7
  go_wp2_with (
    go_at_call 16
    refine (changed_c _ _ (sweepF a) r _ _ _ _ (H1.out.below HS0.out.below) (H2.out.below HS0.out.below) (H3.out.below HS0.out.below) eg2 (sweepRoom1_c a _ HE0.out)).mono ?_
    rintro e w1 he
    obtain ⟨cs, F, rfl, hK, hb, hS⟩ := HS0.out.elem2 he
    obtain ⟨u1, u2, u3, rfl, k1, k2, k3⟩ := room_K hK
    obtain ⟨G1, g1, rfl⟩ := k1.shape
    obtain ⟨G2, g2, rfl⟩ := k2.shape
    obtain ⟨G3, g3, rfl⟩ := k3.shape
    have HS1 := hide hS
    obtain ⟨x1_0, x1_1, x1_2, x1_3⟩ := hS.at1.c4
    have xf1 := hS.at1.frozen
    have xz1 := hS.at1.lt
    clear hK k1 k2 k3 hb hS he)
  refine bodyPost_ret (v := .tuple #[.agg #[.bool (chR r (sweepF a)).open_, .slice G1 (chR r (sweepF a)).members.length g1, .slice G2 (chR r (sweepF a)).invites.length g2, .slice G3 (chR r (sweepF a)).bans.length g3], .bool (chOk r (sweepF a))]) (by simp [results, Try.results7, go_sem, x1_0, x1_1, x1_2, x1_3, xf1, xz1]) rfl ?_
  exact St.ret2 (cs := [.bool (chR r (sweepF a)).open_, .slice G1 (chR r (sweepF a)).members.length g1, .slice G2 (chR r (sweepF a)).invites.length g2, .slice G3 (chR r (sweepF a)).bans.length g3]) (F := F) (by (repeat (first | (with_reducible exact HS1.out) | (with_reducible apply St.alloc) | (with_reducible apply St.set0) | (with_reducible apply St.set1) | (with_reducible apply St.set2) | (with_reducible apply St.set3) | (with_reducible apply St.drew) | (with_reducible apply St.drewN))); all_goals (try (first | rfl | (simp; done)))) rfl
end Go.Proofs.Ytglhepbcbildpaa
