/- The room that a law draws. -/
import Derived.Test.YtglhepbcbildpaaDrawRoom
namespace Go.Proofs.Ytglhepbcbildpaa
open Go Go.RowKit Go.BigFrame
set_option linter.unusedVariables false
set_option linter.unusedSimpArgs false
set_option maxRecDepth 100000
set_option maxHeartbeats 4000000 in
theorem r8Room_c (code : List UInt8) (A : Option Addr) (c : Nat) (w : World) (hc : SliceK srcD w (.slice A code.length c) code) :
    Calls Try.prog 5 #[.slice A code.length c] w fun e W' => ∃ (r : Room) (v1 v2 v3 : Value) (F : List Nat), e = .returned (.agg #[.bool r.open_, v1, v2, v3]) ∧ Drawn r ∧ St w W' [ownD roomD r [.bool r.open_, v1, v2, v3] F] := by
  have HC := hide hc
  clear hc
  have HS0 := hide (show St w (w.alloc (.cells #[.bool false, .slice none 0 0, .slice none 0 0, .slice none 0 0] 28)) [blk w.heap.size #[.bool false, .slice none 0 0, .slice none 0 0, .slice none 0 0] 28] by (repeat (first | (with_reducible exact St.start w) | (with_reducible apply St.alloc) | (with_reducible apply St.set0) | (with_reducible apply St.set1) | (with_reducible apply St.set2) | (with_reducible apply St.set3) | (with_reducible apply St.drew) | (with_reducible apply St.drewN))); all_goals (try (first | rfl | (simp; done))))
  go_enter Try.func5, Try.ntmps5
  go_wp2_with fail
  refine (l00From_c A code.length c w _ _ HS0.out).mono ?_
  rintro e w1 ⟨rfl, hS1⟩
  simp only [World.size_alloc] at hS1
  have HS1 := hide hS1
  clear hS1
  go_wp2_with fail
  refine (drawOk_c code A c _ 0 w _ _ HS1.out HC.out (by omega)).mono ?_
  rintro e w2 ⟨r, v1, v2, v3, F, rfl, hD, hS2⟩
  obtain ⟨g1, g2, g3⟩ := room_MK hS2.head
  obtain ⟨A1, c1, rfl⟩ := g1.shape
  obtain ⟨A2, c2, rfl⟩ := g2.shape
  obtain ⟨A3, c3, rfl⟩ := g3.shape
  have HD := hide hD
  have HS2 := hide hS2
  have z := hS2.at1
  obtain ⟨z0, z1, z2, z3⟩ := z.c4
  have zf := z.frozen
  have zz := z.lt
  clear hD hS2 g1 g2 g3 z
  go_wp2_with fail
  refine bodyPost_ret (v := .agg #[.bool r.open_, .slice A1 r.members.length c1, .slice A2 r.invites.length c2, .slice A3 r.bans.length c3]) (by simp [results, Try.results5, go_sem, z0, z1, z2, z3, zf, zz]) rfl ?_
  exact ⟨r, _, _, _, F, rfl, HD.out, St.drop1 (show St w _ (ownD roomD r [.bool r.open_, .slice A1 r.members.length c1, .slice A2 r.invites.length c2, .slice A3 r.bans.length c3] F :: blk w.heap.size #[.bool r.open_, .slice A1 r.members.length c1, .slice A2 r.invites.length c2, .slice A3 r.bans.length c3] 28 :: []) from by (repeat (first | (with_reducible exact HS2.out) | (with_reducible apply St.alloc) | (with_reducible apply St.set0) | (with_reducible apply St.set1) | (with_reducible apply St.set2) | (with_reducible apply St.set3) | (with_reducible apply St.drew) | (with_reducible apply St.drewN))); all_goals (try (first | rfl | (simp; done))))⟩
end Go.Proofs.Ytglhepbcbildpaa
