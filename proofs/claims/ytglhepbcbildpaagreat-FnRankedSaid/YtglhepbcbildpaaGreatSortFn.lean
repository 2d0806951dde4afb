/- A room's rows are sorted: the program. -/
import Derived.Test.YtglhepbcbildpaaGreatInsPlain
import Derived.Test.YtglhepbcbildpaaGreatSortRoom
import Derived.Test.YtglhepbcbildpaaGreatChanged
import Derived.Test.YtglhepbcbildpaaGreatRanks
namespace Go.Proofs.YtglhepbcbildpaaGreat
open Go Go.RowKit Go.BigFrame
set_option linter.unusedVariables false
set_option linter.unusedSimpArgs false
set_option maxHeartbeats 2000000 in
theorem sort1_c (x y : Member) (W : World) : Calls Tryz.prog 62 #[.agg #[.int .i64 x.id, .int .i64 x.role, .int .i64 x.since, .int .i64 x.quiet], .agg #[.int .i64 y.id, .int .i64 y.role, .int .i64 y.since, .int .i64 y.quiet]] W fun r w' => r = .returned (.int .i64 (cmpI x.id y.id)) ∧ Grew W w' := by
  have HG := hide (((Grew.refl W).alloc (.cells #[.int .i64 x.id, .int .i64 x.role, .int .i64 x.since, .int .i64 x.quiet] 55)).alloc (.cells #[.int .i64 y.id, .int .i64 y.role, .int .i64 y.since, .int .i64 y.quiet] 55))
  go_enter Tryz.func62, Tryz.ntmps62
  go_wp2_with (go_at_call 63; refine (compare_c _ _ _).mono ?_; rintro e w' ⟨rfl, rfl⟩)
  all_goals go_ret
  all_goals exact ⟨rfl, HG.out⟩
theorem sort1_of : CmpOf Tryz.prog 62 #[] (fun x : Member => [.int .i64 x.id, .int .i64 x.role, .int .i64 x.since, .int .i64 x.quiet]) (fun x y => cmpI x.id y.id) := fun x y W => sort1_c x y W
set_option maxHeartbeats 2000000 in
theorem sort2_c (x y : Invite) (W : World) : Calls Tryz.prog 65 #[.agg #[.int .i64 x.id, .int .i64 x.by_, .int .i64 x.until_], .agg #[.int .i64 y.id, .int .i64 y.by_, .int .i64 y.until_]] W fun r w' => r = .returned (.int .i64 (cmpI x.id y.id)) ∧ Grew W w' := by
  have HG := hide (((Grew.refl W).alloc (.cells #[.int .i64 x.id, .int .i64 x.by_, .int .i64 x.until_] 36)).alloc (.cells #[.int .i64 y.id, .int .i64 y.by_, .int .i64 y.until_] 36))
  go_enter Tryz.func65, Tryz.ntmps65
  go_wp2_with (go_at_call 63; refine (compare_c _ _ _).mono ?_; rintro e w' ⟨rfl, rfl⟩)
  all_goals go_ret
  all_goals exact ⟨rfl, HG.out⟩
theorem sort2_of : CmpOf Tryz.prog 65 #[] (fun x : Invite => [.int .i64 x.id, .int .i64 x.by_, .int .i64 x.until_]) (fun x y => cmpI x.id y.id) := fun x y W => sort2_c x y W
set_option maxHeartbeats 2000000 in
theorem sort3_c (x y : Ban) (W : World) : Calls Tryz.prog 67 #[.agg #[.int .i64 x.id, .int .i64 x.until_], .agg #[.int .i64 y.id, .int .i64 y.until_]] W fun r w' => r = .returned (.int .i64 (cmpI x.id y.id)) ∧ Grew W w' := by
  have HG := hide (((Grew.refl W).alloc (.cells #[.int .i64 x.id, .int .i64 x.until_] 38)).alloc (.cells #[.int .i64 y.id, .int .i64 y.until_] 38))
  go_enter Tryz.func67, Tryz.ntmps67
  go_wp2_with (go_at_call 63; refine (compare_c _ _ _).mono ?_; rintro e w' ⟨rfl, rfl⟩)
  all_goals go_ret
  all_goals exact ⟨rfl, HG.out⟩
theorem sort3_of : CmpOf Tryz.prog 67 #[] (fun x : Ban => [.int .i64 x.id, .int .i64 x.until_]) (fun x y => cmpI x.id y.id) := fun x y W => sort3_c x y W
def SortedB (w0 : World) (L : List Piece) (b : Nat) (x : Room) (r : Ending) (W' : World) : Prop := r = .returned (.tuple #[]) ∧
  ∃ s1 s2 s3 F', s1.Perm x.members ∧ s1.Pairwise (fun a b => a.id ≤ b.id) ∧ s2.Perm x.invites ∧ s2.Pairwise (fun a b => a.id ≤ b.id) ∧ s3.Perm x.bans ∧ s3.Pairwise (fun a b => a.id ≤ b.id) ∧
    St w0 W' (boxP roomD 28 b { x with members := s1, invites := s2, bans := s3 } F' :: L)
set_option maxHeartbeats 8000000 in
set_option maxRecDepth 100000 in
theorem roomSort_c (x : Room) (b : Nat) (F : List Nat) (w0 W : World) (L : List Piece) (hS : St w0 W (boxP roomD 28 b x F :: L)) (hf : x.members.length ≤ 1000 ∧ x.invites.length ≤ 1000 ∧ x.bans.length ≤ 1000) :
    Calls Tryz.prog 29 #[.pointer (some ⟨b, 0, none⟩)] W (SortedB w0 L b x) := by
  obtain ⟨A1, c1, A2, c2, A3, c3, F1, F2, F3, hO⟩ := hS.roomOpen
  have HO := hide hO
  obtain ⟨x0, x1, x2, x3⟩ := hO.at0.c4
  have xz := hO.at0.lt
  have hf1 := hf.1
  have hf2 := hf.2.1
  have hf3 := hf.2.2
  have eg1 := enters_of Tryz.func62 (by kernel_rfl) rfl
  have eg2 := enters_of Tryz.func65 (by kernel_rfl) rfl
  have eg3 := enters_of Tryz.func67 (by kernel_rfl) rfl
  clear hS hf hO
  go_enter Tryz.func29, Tryz.ntmps29
  go_wp2_with (first
    | (go_at_call 61
       refine (sortMember_c (fun x y => cmpI x.id y.id) (swoKey Member.id) _ #[] A1 (St.pull1 (show St w0 _ (blk b #[.bool x.open_, .slice A1 x.members.length c1, .slice A2 x.invites.length c2, .slice A3 x.bans.length c3] 28 :: own memberD 55 (.slice A1 x.members.length c1) x.members F1 :: own inviteD 36 (.slice A2 x.invites.length c2) x.invites F2 :: own banD 38 (.slice A3 x.bans.length c3) x.bans F3 :: L) from HO.out)) (by omega) eg1 sort1_of).mono ?_
       rintro e w1 ⟨rfl, s1, hp1, hw1, hq⟩
       have HQ1 := hide (St.push1 hq)
       have HP1 := hide (And.intro hp1 hw1)
       obtain ⟨y1_0, y1_1, y1_2, y1_3⟩ := HQ1.out.at0.c4
       have yz1 := HQ1.out.at0.lt
       clear hq hp1 hw1)
    | (go_at_call 64
       refine (sortInvite_c (fun x y => cmpI x.id y.id) (swoKey Invite.id) _ #[] A2 (St.pull2 (show St w0 _ (blk b #[.bool x.open_, .slice A1 x.members.length c1, .slice A2 x.invites.length c2, .slice A3 x.bans.length c3] 28 :: own memberD 55 (.slice A1 x.members.length c1) s1 F1 :: own inviteD 36 (.slice A2 x.invites.length c2) x.invites F2 :: own banD 38 (.slice A3 x.bans.length c3) x.bans F3 :: L) from HQ1.out)) (by omega) eg2 sort2_of).mono ?_
       rintro e w2 ⟨rfl, s2, hp2, hw2, hq⟩
       have HQ2 := hide (St.push2 hq)
       have HP2 := hide (And.intro hp2 hw2)
       obtain ⟨y2_0, y2_1, y2_2, y2_3⟩ := HQ2.out.at0.c4
       have yz2 := HQ2.out.at0.lt
       clear hq hp2 hw2)
    | (go_at_call 66
       refine (sortBan_c (fun x y => cmpI x.id y.id) (swoKey Ban.id) _ #[] A3 (St.pull3 (show St w0 _ (blk b #[.bool x.open_, .slice A1 x.members.length c1, .slice A2 x.invites.length c2, .slice A3 x.bans.length c3] 28 :: own memberD 55 (.slice A1 x.members.length c1) s1 F1 :: own inviteD 36 (.slice A2 x.invites.length c2) s2 F2 :: own banD 38 (.slice A3 x.bans.length c3) x.bans F3 :: L) from HQ2.out)) (by omega) eg3 sort3_of).mono ?_
       rintro e w3 ⟨rfl, s3, hp3, hw3, hq⟩
       have HQ3 := hide (St.push3 hq)
       have HP3 := hide (And.intro hp3 hw3)
       obtain ⟨y3_0, y3_1, y3_2, y3_3⟩ := HQ3.out.at0.c4
       have yz3 := HQ3.out.at0.lt
       clear hq hp3 hw3))
  have l1 := HP1.out.1.length_eq
  have l2 := HP2.out.1.length_eq
  have l3 := HP3.out.1.length_eq
  have hk : ∀ {α : Type} {key : α → Int} {l : List α}, l.Pairwise (fun x y => 0 ≤ cmpI (key y) (key x)) → l.Pairwise (fun x y => key x ≤ key y) := fun h => h.imp fun h => Int.not_lt.1 fun h2 => (by have := cmpI_neg.2 h2; omega)
  refine bodyPost_end (v := .tuple #[]) (by simp [results, Tryz.results29, go_sem]) rfl ⟨rfl, s1, s2, s3, _, HP1.out.1, hk HP1.out.2, HP2.out.1, hk HP2.out.2, HP3.out.1, hk HP3.out.2, St.roomShut (x := { x with members := s1, invites := s2, bans := s3 }) (v1 := .slice A1 x.members.length c1) (v2 := .slice A2 x.invites.length c2) (v3 := .slice A3 x.bans.length c3) HQ3.out⟩
end Go.Proofs.YtglhepbcbildpaaGreat
