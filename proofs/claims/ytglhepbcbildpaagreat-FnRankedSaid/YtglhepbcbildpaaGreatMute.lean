/- A member is muted, or gets a role: the program. -/
import Derived.Test.YtglhepbcbildpaaGreatMember
namespace Go.Proofs.YtglhepbcbildpaaGreat
open Go Go.RowKit Go.BigFrame
set_option linter.unusedVariables false
set_option linter.unusedSimpArgs false
set_option maxHeartbeats 4000000 in
set_option maxRecDepth 100000 in
theorem withMember_c (r : Room) (g : Nat) (caps : Array Value) (f : Member → Member) (n id act a : Int) (v1 v2 v3 : Value) (w : World) (h1 : SliceK memberD w v1 r.members) (h2 : SliceK inviteD w v2 r.invites) (h3 : SliceK banD w v3 r.bans) (eg : ∀ args w, (callFunc g args).run Tryz.prog w = .ok (.enter g args) w) (hu : TurnsM Tryz.prog g caps f w) :
    Calls Tryz.prog 41 #[.agg #[.bool r.open_, v1, v2, v3], .int .i64 n, .int .i64 id, .int .i64 act, .int .i64 a, .func (.func g) #[] caps] w (RetElem2 roomD w (chR r (wmF n id act a f)) (chOk r (wmF n id act a f))) := by
  show Calls Tryz.prog 41 #[.agg #[.bool r.open_, v1, v2, v3], .int .i64 n, .int .i64 id, .int .i64 act, .int .i64 a, .func (.func g) #[] caps] w (RetElem2 roomD w (chR r (wmF n id act a f)) (chOk r (wmF n id act a f)))
  obtain ⟨A1, c1, rfl⟩ := h1.shape
  obtain ⟨A2, c2, rfl⟩ := h2.shape
  obtain ⟨A3, c3, rfl⟩ := h3.shape
  have H1 := hide h1
  have H2 := hide h2
  have H3 := hide h3
  clear h1 h2 h3
  have HS0 := hide (show St w (((((((w.alloc (.cells #[.bool r.open_, .slice A1 r.members.length c1, .slice A2 r.invites.length c2, .slice A3 r.bans.length c3] 28)).alloc (.cells #[.int .i64 n] 2)).alloc (.cells #[.int .i64 id] 2)).alloc (.cells #[.int .i64 act] 2)).alloc (.cells #[.int .i64 a] 2)).alloc (.cells #[.func (.func g) #[] caps] 65)).alloc (.cells #[.bool false, .slice none 0 0, .slice none 0 0, .slice none 0 0] 28)) [blk (w.heap.size + 1 + 1 + 1 + 1 + 1 + 1) #[.bool false, .slice none 0 0, .slice none 0 0, .slice none 0 0] 28, blk (w.heap.size + 1 + 1 + 1 + 1 + 1) #[.func (.func g) #[] caps] 65, blk (w.heap.size + 1 + 1 + 1 + 1) #[.int .i64 a] 2, blk (w.heap.size + 1 + 1 + 1) #[.int .i64 act] 2, blk (w.heap.size + 1 + 1) #[.int .i64 id] 2, blk (w.heap.size + 1) #[.int .i64 n] 2, blk w.heap.size #[.bool r.open_, .slice A1 r.members.length c1, .slice A2 r.invites.length c2, .slice A3 r.bans.length c3] 28] from ((((((((St.start w).alloc rfl).alloc (by simp)).alloc (by simp)).alloc (by simp)).alloc (by simp)).alloc (by simp)).alloc (by simp)))
  have HE0 := hide (St.at3 HS0.out.drop.drop).c1
  have HE1 := hide (St.at3 HS0.out.drop).c1
  have HE2 := hide (St.at3 HS0.out).c1
  have HE3 := hide (St.at2 HS0.out).c1
  have HE4 := hide (St.at1 HS0.out).c1
  have eg2 := enters_of Tryz.func79 (by kernel_rfl) rfl
  have HTU := hide hu
  clear hu
  go_enter Tryz.func41, Tryz.ntmps41
  go_wp2_with (
    go_at_call 22
    refine (changed_c _ _ (wmF n id act a f) r _ _ _ _ (H1.out.below HS0.out.below) (H2.out.below HS0.out.below) (H3.out.below HS0.out.below) eg2 (withMember1_c g caps f n id act a _ HE1.out HE0.out HE2.out HE3.out HE4.out eg (HTU.out.mono HS0.out.below))).mono ?_
    rintro e w1 he
    obtain ⟨cs, F, rfl, hK, hb, hS⟩ := HS0.out.elem2 he
    obtain ⟨u1, u2, u3, rfl, k1, k2, k3⟩ := room_K hK
    obtain ⟨G1, g1, rfl⟩ := k1.shape
    obtain ⟨G2, g2, rfl⟩ := k2.shape
    obtain ⟨G3, g3, rfl⟩ := k3.shape
    have HS1 := hide hS
    obtain ⟨x1_0, x1_1, x1_2, x1_3⟩ := hS.at1.c4
    have xf1 := hS.at1.frozen
    have xz1 := hS.at1.lt
    clear hK k1 k2 k3 hb hS he)
  refine bodyPost_ret (v := .tuple #[.agg #[.bool (chR r (wmF n id act a f)).open_, .slice G1 (chR r (wmF n id act a f)).members.length g1, .slice G2 (chR r (wmF n id act a f)).invites.length g2, .slice G3 (chR r (wmF n id act a f)).bans.length g3], .bool (chOk r (wmF n id act a f))]) (by simp [results, Tryz.results41, go_sem, x1_0, x1_1, x1_2, x1_3, xf1, xz1]) rfl ?_
  exact St.ret2 (cs := [.bool (chR r (wmF n id act a f)).open_, .slice G1 (chR r (wmF n id act a f)).members.length g1, .slice G2 (chR r (wmF n id act a f)).invites.length g2, .slice G3 (chR r (wmF n id act a f)).bans.length g3]) (F := F) (by (repeat (first | (with_reducible exact HS1.out) | (with_reducible apply St.alloc) | (with_reducible apply St.set0) | (with_reducible apply St.set1) | (with_reducible apply St.set2) | (with_reducible apply St.set3) | (with_reducible apply St.drew) | (with_reducible apply St.drewN))); all_goals (try (first | rfl | (simp; done)))) rfl
def muteV (r : Room) (n id u a : Int) : Room := chR r (wmF n id 4 a (fun m => { m with quiet := u }))
def muteOk (r : Room) (n id u a : Int) : Bool := chOk r (wmF n id 4 a (fun m => { m with quiet := u }))
set_option maxHeartbeats 4000000 in
set_option maxRecDepth 100000 in
theorem muteMember_c (r : Room) (n id u a : Int) (v1 v2 v3 : Value) (w : World) (h1 : SliceK memberD w v1 r.members) (h2 : SliceK inviteD w v2 r.invites) (h3 : SliceK banD w v3 r.bans) :
    Calls Tryz.prog 14 #[.agg #[.bool r.open_, v1, v2, v3], .int .i64 n, .int .i64 id, .int .i64 u, .int .i64 a] w (RetElem2 roomD w (muteV r n id u a) (muteOk r n id u a)) := by
  show Calls Tryz.prog 14 #[.agg #[.bool r.open_, v1, v2, v3], .int .i64 n, .int .i64 id, .int .i64 u, .int .i64 a] w (RetElem2 roomD w (chR r (wmF n id 4 a (fun m => { m with quiet := u }))) (chOk r (wmF n id 4 a (fun m => { m with quiet := u }))))
  obtain ⟨A1, c1, rfl⟩ := h1.shape
  obtain ⟨A2, c2, rfl⟩ := h2.shape
  obtain ⟨A3, c3, rfl⟩ := h3.shape
  have H1 := hide h1
  have H2 := hide h2
  have H3 := hide h3
  clear h1 h2 h3
  have HS0 := hide (show St w (((w.alloc (.cells #[.bool r.open_, .slice A1 r.members.length c1, .slice A2 r.invites.length c2, .slice A3 r.bans.length c3] 28)).alloc (.cells #[.int .i64 u] 2)).alloc (.cells #[.bool false, .slice none 0 0, .slice none 0 0, .slice none 0 0] 28)) [blk (w.heap.size + 1 + 1) #[.bool false, .slice none 0 0, .slice none 0 0, .slice none 0 0] 28, blk (w.heap.size + 1) #[.int .i64 u] 2, blk w.heap.size #[.bool r.open_, .slice A1 r.members.length c1, .slice A2 r.invites.length c2, .slice A3 r.bans.length c3] 28] from ((((St.start w).alloc rfl).alloc (by simp)).alloc (by simp)))
  have HE0 := hide (St.at1 HS0.out).c1
  have eg2 := enters_of Tryz.func42 (by kernel_rfl) rfl
  go_enter Tryz.func14, Tryz.ntmps14
  go_wp2_with (
    go_at_call 41
    refine (withMember_c r _ _ _ n id 4 a _ _ _ _ (H1.out.below HS0.out.below) (H2.out.below HS0.out.below) (H3.out.below HS0.out.below) eg2 (mute1_c u _ HE0.out)).mono ?_
    rintro e w1 he
    obtain ⟨cs, F, rfl, hK, hb, hS⟩ := HS0.out.elem2 he
    obtain ⟨u1, u2, u3, rfl, k1, k2, k3⟩ := room_K hK
    obtain ⟨G1, g1, rfl⟩ := k1.shape
    obtain ⟨G2, g2, rfl⟩ := k2.shape
    obtain ⟨G3, g3, rfl⟩ := k3.shape
    have HS1 := hide hS
    obtain ⟨x1_0, x1_1, x1_2, x1_3⟩ := hS.at1.c4
    have xf1 := hS.at1.frozen
    have xz1 := hS.at1.lt
    clear hK k1 k2 k3 hb hS he)
  refine bodyPost_ret (v := .tuple #[.agg #[.bool (chR r (wmF n id 4 a (fun m => { m with quiet := u }))).open_, .slice G1 (chR r (wmF n id 4 a (fun m => { m with quiet := u }))).members.length g1, .slice G2 (chR r (wmF n id 4 a (fun m => { m with quiet := u }))).invites.length g2, .slice G3 (chR r (wmF n id 4 a (fun m => { m with quiet := u }))).bans.length g3], .bool (chOk r (wmF n id 4 a (fun m => { m with quiet := u })))]) (by simp [results, Tryz.results14, go_sem, x1_0, x1_1, x1_2, x1_3, xf1, xz1]) rfl ?_
  exact St.ret2 (cs := [.bool (chR r (wmF n id 4 a (fun m => { m with quiet := u }))).open_, .slice G1 (chR r (wmF n id 4 a (fun m => { m with quiet := u }))).members.length g1, .slice G2 (chR r (wmF n id 4 a (fun m => { m with quiet := u }))).invites.length g2, .slice G3 (chR r (wmF n id 4 a (fun m => { m with quiet := u }))).bans.length g3]) (F := F) (by (repeat (first | (with_reducible exact HS1.out) | (with_reducible apply St.alloc) | (with_reducible apply St.set0) | (with_reducible apply St.set1) | (with_reducible apply St.set2) | (with_reducible apply St.set3) | (with_reducible apply St.drew) | (with_reducible apply St.drewN))); all_goals (try (first | rfl | (simp; done)))) rfl
def giveF (n id u a : Int) (r : Room) : Room × Bool := (setMem r id (fun m => { m with role := u }), inB u 0 3 && (hasId r id && mayToB r n id 7 a))
def giveV (r : Room) (n id u a : Int) : Room := chR r (giveF n id u a)
def giveOk (r : Room) (n id u a : Int) : Bool := chOk r (giveF n id u a)
set_option maxHeartbeats 4000000 in
set_option maxRecDepth 100000 in
theorem giveRole_c (r : Room) (n id u a : Int) (v1 v2 v3 : Value) (w : World) (h1 : SliceK memberD w v1 r.members) (h2 : SliceK inviteD w v2 r.invites) (h3 : SliceK banD w v3 r.bans) :
    Calls Tryz.prog 15 #[.agg #[.bool r.open_, v1, v2, v3], .int .i64 n, .int .i64 id, .int .i64 u, .int .i64 a] w (RetElem2 roomD w (giveV r n id u a) (giveOk r n id u a)) := by
  obtain ⟨A1, c1, rfl⟩ := h1.shape
  obtain ⟨A2, c2, rfl⟩ := h2.shape
  obtain ⟨A3, c3, rfl⟩ := h3.shape
  have H1 := hide h1
  have H2 := hide h2
  have H3 := hide h3
  clear h1 h2 h3
  have HS0 := hide (show St w (((w.alloc (.cells #[.bool r.open_, .slice A1 r.members.length c1, .slice A2 r.invites.length c2, .slice A3 r.bans.length c3] 28)).alloc (.cells #[.int .i64 u] 2)).alloc (.cells #[.bool false, .slice none 0 0, .slice none 0 0, .slice none 0 0] 28)) [blk (w.heap.size + 1 + 1) #[.bool false, .slice none 0 0, .slice none 0 0, .slice none 0 0] 28, blk (w.heap.size + 1) #[.int .i64 u] 2, blk w.heap.size #[.bool r.open_, .slice A1 r.members.length c1, .slice A2 r.invites.length c2, .slice A3 r.bans.length c3] 28] from (((St.start w).alloc rfl).alloc (by simp)).alloc (by simp))
  have HE0 := hide HS0.out.at1.c1
  have eg2 := enters_of Tryz.func43 (by kernel_rfl) rfl
  by_cases hu : inB u 0 3 = true
  · have HU := hide hu
    have hfx : giveF n id u a = wmF n id 7 a (fun m => { m with role := u }) := by
      funext r; simp [giveF, wmF, hu]
    show Calls Tryz.prog 15 #[.agg #[.bool r.open_, .slice A1 r.members.length c1, .slice A2 r.invites.length c2, .slice A3 r.bans.length c3], .int .i64 n, .int .i64 id, .int .i64 u, .int .i64 a] w (RetElem2 roomD w (chR r (giveF n id u a)) (chOk r (giveF n id u a)))
    rw [hfx]
    clear hu hfx
    go_enter Tryz.func15, Tryz.ntmps15
    go_wp2_with (first
      | (go_at_call 36
         refine (roleOk_c u _).mono ?_
         rintro e w' ⟨rfl, rfl⟩
         rw [HU.out])
      | (go_at_call 41
         refine (withMember_c r _ _ _ n id 7 a _ _ _ _ (H1.out.below HS0.out.below) (H2.out.below HS0.out.below) (H3.out.below HS0.out.below) eg2 (give1_c u _ HE0.out)).mono ?_
         rintro e w1 he
         obtain ⟨cs, F, rfl, hK, hb, hS⟩ := HS0.out.elem2 he
         obtain ⟨u1, u2, u3, rfl, k1, k2, k3⟩ := room_K hK
         obtain ⟨G1, g1, rfl⟩ := k1.shape
         obtain ⟨G2, g2, rfl⟩ := k2.shape
         obtain ⟨G3, g3, rfl⟩ := k3.shape
         have HS1 := hide hS
         obtain ⟨x1_0, x1_1, x1_2, x1_3⟩ := hS.at1.c4
         have xf1 := hS.at1.frozen
         have xz1 := hS.at1.lt
         clear hK k1 k2 k3 hb hS he))
    refine bodyPost_ret (v := .tuple #[.agg #[.bool (chR r (wmF n id 7 a (fun m => { m with role := u }))).open_, .slice G1 (chR r (wmF n id 7 a (fun m => { m with role := u }))).members.length g1, .slice G2 (chR r (wmF n id 7 a (fun m => { m with role := u }))).invites.length g2, .slice G3 (chR r (wmF n id 7 a (fun m => { m with role := u }))).bans.length g3], .bool (chOk r (wmF n id 7 a (fun m => { m with role := u })))]) (by simp [results, Tryz.results15, go_sem, x1_0, x1_1, x1_2, x1_3, xf1, xz1]) rfl ?_
    exact St.ret2 (cs := [.bool (chR r (wmF n id 7 a (fun m => { m with role := u }))).open_, .slice G1 (chR r (wmF n id 7 a (fun m => { m with role := u }))).members.length g1, .slice G2 (chR r (wmF n id 7 a (fun m => { m with role := u }))).invites.length g2, .slice G3 (chR r (wmF n id 7 a (fun m => { m with role := u }))).bans.length g3]) (F := F) (by (repeat (first | (with_reducible exact HS1.out) | (with_reducible apply St.alloc) | (with_reducible apply St.set0) | (with_reducible apply St.set1) | (with_reducible apply St.set2) | (with_reducible apply St.set3) | (with_reducible apply St.drew) | (with_reducible apply St.drewN))); all_goals (try (first | rfl | (simp; done)))) rfl
  · have HU := hide (show inB u 0 3 = false by simpa using hu)
    have HOK := hide (show chOk r (giveF n id u a) = false by simp [chOk, giveF, HU.out])
    show Calls Tryz.prog 15 #[.agg #[.bool r.open_, .slice A1 r.members.length c1, .slice A2 r.invites.length c2, .slice A3 r.bans.length c3], .int .i64 n, .int .i64 id, .int .i64 u, .int .i64 a] w (RetElem2 roomD w (chR r (giveF n id u a)) (chOk r (giveF n id u a)))
    clear hu
    go_enter Tryz.func15, Tryz.ntmps15
    go_wp2_with (
      go_at_call 36
      refine (roleOk_c u _).mono ?_
      rintro e w' ⟨rfl, rfl⟩
      rw [HU.out])
    refine bodyPost_ret (v := .tuple #[.agg #[.bool false, .slice none 0 0, .slice none 0 0, .slice none 0 0], .bool false]) (by simp [results, Tryz.results15, go_sem]) rfl ?_
    rw [chR_no HOK.out, HOK.out]
    exact St.ret2 (cs := [.bool false, .slice none 0 0, .slice none 0 0, .slice none 0 0]) (F := []) (St.noRoom HS0.out) rfl
end Go.Proofs.YtglhepbcbildpaaGreat
