/- A member, an invite and a ban are taken out of a room: the program. -/
import Derived.Test.YtglhepbcbildpaaGreatDelRoom
import Derived.Test.YtglhepbcbildpaaGreatMayTo
import Derived.Test.YtglhepbcbildpaaGreatRTypes
namespace Go.Proofs.YtglhepbcbildpaaGreat
open Go Go.RowKit Go.BigFrame
set_option linter.unusedVariables false
set_option linter.unusedSimpArgs false
def withoutR (r : Room) (id : Int) : Room := { r with members := dropP (idIs id) r.members, invites := dropP (invIs id) r.invites, bans := dropP (banIs id) r.bans }
theorem without1_c (m : Member) (b1 : Nat) (n : Int) (W : World) (h1 : W.cell? ⟨b1, 0, none⟩ = some (.int .i64 n)) :
    Calls Tryz.prog 56 (#[.agg #[.int .i64 m.id, .int .i64 m.role, .int .i64 m.since, .int .i64 m.quiet]] ++ #[.pointer (some ⟨b1, 0, none⟩)]) W fun e W' => e = .returned (.bool (idIs n m)) ∧ Below W.heap.size W W' := by
  show Calls Tryz.prog 56 #[.agg #[.int .i64 m.id, .int .i64 m.role, .int .i64 m.since, .int .i64 m.quiet], .pointer (some ⟨b1, 0, none⟩)] W _
  have hlt : b1 < W.heap.size := World.block_lt_of_cell? W _ h1
  have hlt2 : b1 < W.heap.size + 1 := by omega
  have hne : ¬ b1 = W.heap.size := by omega
  go_enter Tryz.func56, Tryz.ntmps56
  go_wp2_with fail
  all_goals try go_quiet (fail)
  all_goals go_wp2
  all_goals go_ret
  all_goals first
    | exact ⟨by simp [idIs]; rw [Bool.eq_iff_iff]; simp, (Below.refl _ _).alloc (Nat.le_refl _) _⟩
    | exact ⟨by simp [idIs]; rw [Bool.eq_iff_iff]; simp, below_drewN ((Below.refl _ _).alloc (Nat.le_refl _) _) _⟩
    | exact ⟨by simp [idIs]; rw [Bool.eq_iff_iff]; simp, ((Below.refl _ _).alloc (Nat.le_refl _) _).drew⟩
theorem without2_c (m : Invite) (b1 : Nat) (n : Int) (W : World) (h1 : W.cell? ⟨b1, 0, none⟩ = some (.int .i64 n)) :
    Calls Tryz.prog 58 (#[.agg #[.int .i64 m.id, .int .i64 m.by_, .int .i64 m.until_]] ++ #[.pointer (some ⟨b1, 0, none⟩)]) W fun e W' => e = .returned (.bool (invIs n m)) ∧ Below W.heap.size W W' := by
  show Calls Tryz.prog 58 #[.agg #[.int .i64 m.id, .int .i64 m.by_, .int .i64 m.until_], .pointer (some ⟨b1, 0, none⟩)] W _
  have hlt : b1 < W.heap.size := World.block_lt_of_cell? W _ h1
  have hlt2 : b1 < W.heap.size + 1 := by omega
  have hne : ¬ b1 = W.heap.size := by omega
  go_enter Tryz.func58, Tryz.ntmps58
  go_wp2_with fail
  all_goals try go_quiet (fail)
  all_goals go_wp2
  all_goals go_ret
  all_goals first
    | exact ⟨by simp [invIs]; rw [Bool.eq_iff_iff]; simp, (Below.refl _ _).alloc (Nat.le_refl _) _⟩
    | exact ⟨by simp [invIs]; rw [Bool.eq_iff_iff]; simp, below_drewN ((Below.refl _ _).alloc (Nat.le_refl _) _) _⟩
    | exact ⟨by simp [invIs]; rw [Bool.eq_iff_iff]; simp, ((Below.refl _ _).alloc (Nat.le_refl _) _).drew⟩
theorem without3_c (m : Ban) (b1 : Nat) (n : Int) (W : World) (h1 : W.cell? ⟨b1, 0, none⟩ = some (.int .i64 n)) :
    Calls Tryz.prog 60 (#[.agg #[.int .i64 m.id, .int .i64 m.until_]] ++ #[.pointer (some ⟨b1, 0, none⟩)]) W fun e W' => e = .returned (.bool (banIs n m)) ∧ Below W.heap.size W W' := by
  show Calls Tryz.prog 60 #[.agg #[.int .i64 m.id, .int .i64 m.until_], .pointer (some ⟨b1, 0, none⟩)] W _
  have hlt : b1 < W.heap.size := World.block_lt_of_cell? W _ h1
  have hlt2 : b1 < W.heap.size + 1 := by omega
  have hne : ¬ b1 = W.heap.size := by omega
  go_enter Tryz.func60, Tryz.ntmps60
  go_wp2_with fail
  all_goals try go_quiet (fail)
  all_goals go_wp2
  all_goals go_ret
  all_goals first
    | exact ⟨by simp [banIs]; rw [Bool.eq_iff_iff]; simp, (Below.refl _ _).alloc (Nat.le_refl _) _⟩
    | exact ⟨by simp [banIs]; rw [Bool.eq_iff_iff]; simp, below_drewN ((Below.refl _ _).alloc (Nat.le_refl _) _) _⟩
    | exact ⟨by simp [banIs]; rw [Bool.eq_iff_iff]; simp, ((Below.refl _ _).alloc (Nat.le_refl _) _).drew⟩
def Turned (w0 : World) (L : List Piece) (b : Nat) (x : Room) (r : Ending) (W' : World) : Prop := r = .returned (.tuple #[]) ∧ ∃ F', St w0 W' (boxP roomD 28 b x F' :: L)
set_option maxHeartbeats 8000000 in
set_option maxRecDepth 100000 in
theorem without_c (x : Room) (id : Int) (b : Nat) (F : List Nat) (w0 W : World) (L : List Piece) (hS : St w0 W (boxP roomD 28 b x F :: L)) (hf : fewR x) :
    Calls Tryz.prog 28 #[.pointer (some ⟨b, 0, none⟩), .int .i64 id] W (Turned w0 L b (withoutR x id)) := by
  obtain ⟨A1, c1, A2, c2, A3, c3, F1, F2, F3, hO⟩ := hS.roomOpen
  have HO := hide hO
  obtain ⟨x0, x1, x2, x3⟩ := hO.at0.c4
  have xf := hO.at0.frozen
  have xz := hO.at0.lt
  have hf1 := hf.1
  have hf2 := hf.2.1
  have hf3 := hf.2.2
  have eg1 := enters_of Tryz.func56 (by kernel_rfl) rfl
  have eg2 := enters_of Tryz.func58 (by kernel_rfl) rfl
  have eg3 := enters_of Tryz.func60 (by kernel_rfl) rfl
  have HS0 := hide (show St w0 (W.alloc (.cells #[.int .i64 id] 2)) (blk b #[.bool x.open_, .slice A1 x.members.length c1, .slice A2 x.invites.length c2, .slice A3 x.bans.length c3] 28 :: own memberD 55 (.slice A1 x.members.length c1) x.members F1 :: own inviteD 36 (.slice A2 x.invites.length c2) x.invites F2 :: own banD 38 (.slice A3 x.bans.length c3) x.bans F3 :: blk W.heap.size #[.int .i64 id] 2 :: L) from St.push4 (hO.alloc rfl))
  clear hS hf hO
  go_enter Tryz.func28, Tryz.ntmps28
  go_wp2_with (first
    | (go_at_call 55
       refine (delMember_c _ _ (idIs id) x.members _ _ _ w0 _ _ (St.pull1 (show St w0 _ (blk b #[.bool x.open_, .slice A1 x.members.length c1, .slice A2 x.invites.length c2, .slice A3 x.bans.length c3] 28 :: own memberD 55 (.slice A1 x.members.length c1) x.members F1 :: own inviteD 36 (.slice A2 x.invites.length c2) x.invites F2 :: own banD 38 (.slice A3 x.bans.length c3) x.bans F3 :: blk W.heap.size #[.int .i64 id] 2 :: L) from by (repeat (first | (with_reducible exact HS0.out) | (with_reducible apply St.alloc) | (with_reducible apply St.set0) | (with_reducible apply St.set1) | (with_reducible apply St.set2) | (with_reducible apply St.set3) | (with_reducible apply St.drew) | (with_reducible apply St.drewN))); all_goals (try (first | rfl | (simp; done))))) (by omega) eg1 (fun m W' B hB => without1_c m _ id W' (St.at3 hB.drop).c1)).mono ?_
       rintro e w1 ⟨D1, d1, G1, rfl, hq⟩
       have HQ1 := hide (St.push1 hq)
       obtain ⟨y1_0, y1_1, y1_2, y1_3⟩ := HQ1.out.at0.c4
       have yf1 := HQ1.out.at0.frozen
       have yz1 := HQ1.out.at0.lt
       clear hq)
    | (go_at_call 57
       refine (delInvite_c _ _ (invIs id) x.invites _ _ _ w0 _ _ (St.pull2 (show St w0 _ (blk b #[.bool x.open_, .slice D1 (dropP (idIs id) x.members).length d1, .slice A2 x.invites.length c2, .slice A3 x.bans.length c3] 28 :: own memberD 55 (.slice D1 (dropP (idIs id) x.members).length d1) (dropP (idIs id) x.members) G1 :: own inviteD 36 (.slice A2 x.invites.length c2) x.invites F2 :: own banD 38 (.slice A3 x.bans.length c3) x.bans F3 :: blk W.heap.size #[.int .i64 id] 2 :: L) from by (repeat (first | (with_reducible exact HQ1.out) | (with_reducible apply St.alloc) | (with_reducible apply St.set0) | (with_reducible apply St.set1) | (with_reducible apply St.set2) | (with_reducible apply St.set3) | (with_reducible apply St.drew) | (with_reducible apply St.drewN))); all_goals (try (first | rfl | (simp; done))))) (by omega) eg2 (fun m W' B hB => without2_c m _ id W' (St.at3 hB.drop).c1)).mono ?_
       rintro e w2 ⟨D2, d2, G2, rfl, hq⟩
       have HQ2 := hide (St.push2 hq)
       obtain ⟨y2_0, y2_1, y2_2, y2_3⟩ := HQ2.out.at0.c4
       have yf2 := HQ2.out.at0.frozen
       have yz2 := HQ2.out.at0.lt
       clear hq)
    | (go_at_call 59
       refine (delBan_c _ _ (banIs id) x.bans _ _ _ w0 _ _ (St.pull3 (show St w0 _ (blk b #[.bool x.open_, .slice D1 (dropP (idIs id) x.members).length d1, .slice D2 (dropP (invIs id) x.invites).length d2, .slice A3 x.bans.length c3] 28 :: own memberD 55 (.slice D1 (dropP (idIs id) x.members).length d1) (dropP (idIs id) x.members) G1 :: own inviteD 36 (.slice D2 (dropP (invIs id) x.invites).length d2) (dropP (invIs id) x.invites) G2 :: own banD 38 (.slice A3 x.bans.length c3) x.bans F3 :: blk W.heap.size #[.int .i64 id] 2 :: L) from by (repeat (first | (with_reducible exact HQ2.out) | (with_reducible apply St.alloc) | (with_reducible apply St.set0) | (with_reducible apply St.set1) | (with_reducible apply St.set2) | (with_reducible apply St.set3) | (with_reducible apply St.drew) | (with_reducible apply St.drewN))); all_goals (try (first | rfl | (simp; done))))) (by omega) eg3 (fun m W' B hB => without3_c m _ id W' (St.at3 hB.drop).c1)).mono ?_
       rintro e w3 ⟨D3, d3, G3, rfl, hq⟩
       have HQ3 := hide (St.push3 hq)
       obtain ⟨y3_0, y3_1, y3_2, y3_3⟩ := HQ3.out.at0.c4
       have yf3 := HQ3.out.at0.frozen
       have yz3 := HQ3.out.at0.lt
       clear hq))
  refine bodyPost_end (v := .tuple #[]) (by simp [results, Tryz.results28, go_sem]) rfl ⟨rfl, _, St.drop1 (St.roomShut (x := withoutR x id) (show St w0 _ (blk b #[.bool x.open_, .slice D1 (dropP (idIs id) x.members).length d1, .slice D2 (dropP (invIs id) x.invites).length d2, .slice D3 (dropP (banIs id) x.bans).length d3] 28 :: own memberD 55 (.slice D1 (dropP (idIs id) x.members).length d1) (dropP (idIs id) x.members) G1 :: own inviteD 36 (.slice D2 (dropP (invIs id) x.invites).length d2) (dropP (invIs id) x.invites) G2 :: own banD 38 (.slice D3 (dropP (banIs id) x.bans).length d3) (dropP (banIs id) x.bans) G3 :: blk W.heap.size #[.int .i64 id] 2 :: L) from by (repeat (first | (with_reducible exact HQ3.out) | (with_reducible apply St.alloc) | (with_reducible apply St.set0) | (with_reducible apply St.set1) | (with_reducible apply St.set2) | (with_reducible apply St.set3) | (with_reducible apply St.drew) | (with_reducible apply St.drewN))); all_goals (try (first | rfl | (simp; done)))))⟩
end Go.Proofs.YtglhepbcbildpaaGreat
