/- A ban is lifted: the program. -/
import Derived.Test.YtglhepbcbildpaaGreatWithout
import Derived.Test.YtglhepbcbildpaaGreatRoomPlain2
namespace Go.Proofs.YtglhepbcbildpaaGreat
open Go Go.RowKit Go.BigFrame
set_option linter.unusedVariables false
set_option linter.unusedSimpArgs false
def bannd (r : Room) (n : Int) : Bool := decide (0 ≤ idxP (banIs n) r.bans)
def liftF (n id a : Int) (r : Room) : Room × Bool := (withoutR r id, mayToB r n id 6 a && bannd r id)
def liftV (r : Room) (n id a : Int) : Room := chR r (liftF n id a)
def liftOk (r : Room) (n id a : Int) : Bool := chOk r (liftF n id a)
set_option maxHeartbeats 8000000 in
theorem liftBan1_c (n id a : Int) (w : World) {b1 b2 b3 : Nat} (h1 : w.cell? ⟨b1, 0, none⟩ = some (.int .i64 n)) (h2 : w.cell? ⟨b2, 0, none⟩ = some (.int .i64 id)) (h3 : w.cell? ⟨b3, 0, none⟩ = some (.int .i64 a)) :
    TurnsS Tryz.prog roomD 28 47 #[.pointer (some ⟨b1, 0, none⟩), .pointer (some ⟨b2, 0, none⟩), .pointer (some ⟨b3, 0, none⟩)] (fun r => validRoomB r = true) (liftF n id a) w := by
  intro x b F W L hS hv
  show Calls Tryz.prog 47 #[.pointer (some ⟨b, 0, none⟩), .pointer (some ⟨b1, 0, none⟩), .pointer (some ⟨b2, 0, none⟩), .pointer (some ⟨b3, 0, none⟩)] W _
  have k1 := cell_below hS.below h1
  have k2 := cell_below hS.below h2
  have k3 := cell_below hS.below h3
  have HS := hide hS
  have HFE := hide (fewR_of hv)
  clear hS hv h1 h2 h3
  by_cases hm : mayToB x n id 6 a = true
  · have HM := hide hm
    clear hm
    by_cases hb : bannd x id = true
    · have HB := hide hb
      have HOK := hide (show (liftF n id a x).2 = true by simp [liftF, HM.out, HB.out])
      clear hb
      go_enter Tryz.func47, Tryz.ntmps47
      go_wp2_with (first
        | (go_at_call 45
           refine (mayTo_c x b 0 n id 6 a _ HS.out.boxRow).mono ?_
           rintro e w1 ⟨rfl, hb⟩
           rw [HM.out]
           have HS1 := hide (HS.out.by hb)
           have j2 := cell_below hb k2
           clear hb)
        | (go_at_call 27
           refine (roomBan_c x b 0 id _ HS1.out.boxRow).mono ?_
           rintro e w2 ⟨rfl, hb⟩
           rw [show decide (0 ≤ idxP (banIs id) x.bans) = _ from HB.out]
           have HS2 := hide (HS1.out.by hb)
           have i2 := cell_below hb j2
           clear hb)
        | (go_at_call 28
           refine (without_c x id b F w _ L HS2.out HFE.out).mono ?_
           rintro e w3 ⟨rfl, F3, hS3⟩
           have HS3 := hide hS3
           clear hS3))
      go_ret
      exact ⟨by rw [HOK.out]; rfl, _, HS3.out, fun _ => ⟨_, rfl⟩⟩
    · have HB := hide (show bannd x id = false by simpa using hb)
      have HOK := hide (show (liftF n id a x).2 = false by simp [liftF, HB.out])
      clear hb
      go_enter Tryz.func47, Tryz.ntmps47
      go_wp2_with (first
        | (go_at_call 45
           refine (mayTo_c x b 0 n id 6 a _ HS.out.boxRow).mono ?_
           rintro e w1 ⟨rfl, hb⟩
           rw [HM.out]
           have HS1 := hide (HS.out.by hb)
           have j2 := cell_below hb k2
           clear hb)
        | (go_at_call 27
           refine (roomBan_c x b 0 id _ HS1.out.boxRow).mono ?_
           rintro e w2 ⟨rfl, hb⟩
           rw [show decide (0 ≤ idxP (banIs id) x.bans) = _ from HB.out]
           have HS2 := hide (HS1.out.by hb)
           have i2 := cell_below hb j2
           clear hb))
      go_ret
      exact ⟨by rw [HOK.out]; rfl, _, HS2.out, fun h => by rw [HOK.out] at h; cases h⟩
  · have HM := hide (show mayToB x n id 6 a = false by simpa using hm)
    have HOK := hide (show (liftF n id a x).2 = false by simp [liftF, HM.out])
    clear hm
    go_enter Tryz.func47, Tryz.ntmps47
    go_wp2_with (
      (go_at_call 45
       refine (mayTo_c x b 0 n id 6 a _ HS.out.boxRow).mono ?_
       rintro e w1 ⟨rfl, hb⟩
       rw [HM.out]
       have HS1 := hide (HS.out.by hb)
       have j2 := cell_below hb k2
       clear hb))
    go_ret
    exact ⟨by rw [HOK.out]; rfl, _, HS1.out, fun h => by rw [HOK.out] at h; cases h⟩
set_option maxHeartbeats 4000000 in
set_option maxRecDepth 100000 in
theorem liftBan_c (r : Room) (n id a : Int) (v1 v2 v3 : Value) (w : World) (h1 : SliceK memberD w v1 r.members) (h2 : SliceK inviteD w v2 r.invites) (h3 : SliceK banD w v3 r.bans) :
    Calls Tryz.prog 18 #[.agg #[.bool r.open_, v1, v2, v3], .int .i64 n, .int .i64 id, .int .i64 a] w (RetElem2 roomD w (liftV r n id a) (liftOk r n id a)) := by
  show Calls Tryz.prog 18 #[.agg #[.bool r.open_, v1, v2, v3], .int .i64 n, .int .i64 id, .int .i64 a] w (RetElem2 roomD w (chR r (liftF n id a)) (chOk r (liftF n id a)))
  obtain ⟨A1, c1, rfl⟩ := h1.shape
  obtain ⟨A2, c2, rfl⟩ := h2.shape
  obtain ⟨A3, c3, rfl⟩ := h3.shape
  have H1 := hide h1
  have H2 := hide h2
  have H3 := hide h3
  clear h1 h2 h3
  have HS0 := hide (show St w (((((w.alloc (.cells #[.bool r.open_, .slice A1 r.members.length c1, .slice A2 r.invites.length c2, .slice A3 r.bans.length c3] 28)).alloc (.cells #[.int .i64 n] 2)).alloc (.cells #[.int .i64 id] 2)).alloc (.cells #[.int .i64 a] 2)).alloc (.cells #[.bool false, .slice none 0 0, .slice none 0 0, .slice none 0 0] 28)) [blk (w.heap.size + 1 + 1 + 1 + 1) #[.bool false, .slice none 0 0, .slice none 0 0, .slice none 0 0] 28, blk (w.heap.size + 1 + 1 + 1) #[.int .i64 a] 2, blk (w.heap.size + 1 + 1) #[.int .i64 id] 2, blk (w.heap.size + 1) #[.int .i64 n] 2, blk w.heap.size #[.bool r.open_, .slice A1 r.members.length c1, .slice A2 r.invites.length c2, .slice A3 r.bans.length c3] 28] from ((((((St.start w).alloc rfl).alloc (by simp)).alloc (by simp)).alloc (by simp)).alloc (by simp)))
  have HE0 := hide (St.at3 HS0.out).c1
  have HE1 := hide (St.at2 HS0.out).c1
  have HE2 := hide (St.at1 HS0.out).c1
  have eg2 := enters_of Tryz.func47 (by kernel_rfl) rfl
  go_enter Tryz.func18, Tryz.ntmps18
  go_wp2_with (
    go_at_call 22
    refine (changed_c _ _ (liftF n id a) r _ _ _ _ (H1.out.below HS0.out.below) (H2.out.below HS0.out.below) (H3.out.below HS0.out.below) eg2 (liftBan1_c n id a _ HE0.out HE1.out HE2.out)).mono ?_
    rintro e w1 he
    obtain ⟨cs, F, rfl, hK, hb, hS⟩ := HS0.out.elem2 he
    obtain ⟨u1, u2, u3, rfl, k1, k2, k3⟩ := room_K hK
    obtain ⟨G1, g1, rfl⟩ := k1.shape
    obtain ⟨G2, g2, rfl⟩ := k2.shape
    obtain ⟨G3, g3, rfl⟩ := k3.shape
    have HS1 := hide hS
    obtain ⟨x1_0, x1_1, x1_2, x1_3⟩ := hS.at1.c4
    have xf1 := hS.at1.frozen
    have xz1 := hS.at1.lt
    clear hK k1 k2 k3 hb hS he)
  refine bodyPost_ret (v := .tuple #[.agg #[.bool (chR r (liftF n id a)).open_, .slice G1 (chR r (liftF n id a)).members.length g1, .slice G2 (chR r (liftF n id a)).invites.length g2, .slice G3 (chR r (liftF n id a)).bans.length g3], .bool (chOk r (liftF n id a))]) (by simp [results, Tryz.results18, go_sem, x1_0, x1_1, x1_2, x1_3, xf1, xz1]) rfl ?_
  exact St.ret2 (cs := [.bool (chR r (liftF n id a)).open_, .slice G1 (chR r (liftF n id a)).members.length g1, .slice G2 (chR r (liftF n id a)).invites.length g2, .slice G3 (chR r (liftF n id a)).bans.length g3]) (F := F) (by (repeat (first | (with_reducible exact HS1.out) | (with_reducible apply St.alloc) | (with_reducible apply St.set0) | (with_reducible apply St.set1) | (with_reducible apply St.set2) | (with_reducible apply St.set3) | (with_reducible apply St.drew) | (with_reducible apply St.drewN))); all_goals (try (first | rfl | (simp; done)))) rfl
end Go.Proofs.YtglhepbcbildpaaGreat
