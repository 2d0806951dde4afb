/- A room that the reference draws: it is valid and small. -/
import Derived.Test.YtglhepbcbildpaaSrc
import Derived.Test.YtglhepbcbildpaaDrawPlain
import Derived.Test.YtglhepbcbildpaaRGround
import Derived.Test.YtglhepbcbildpaaRoomPlain2
namespace Go.Proofs.Ytglhepbcbildpaa
open Go Go.RowKit Go.BigFrame
set_option linter.unusedVariables false
set_option linter.unusedSimpArgs false
set_option maxRecDepth 100000
set_option maxHeartbeats 32000000 in
theorem drawOk_c (code : List UInt8) (A : Option Addr) (c b N : Nat) (w0 W : World) (L : List Piece) (hS : St w0 W (srcP 67 A code.length c b (N) :: L)) (hc : SliceK srcD w0 (.slice A code.length c) code) (hN : N ≤ 100000) :
    Calls Try.prog 15 #[.pointer (some ⟨b, 0, none⟩)] W fun e W' => ∃ (r : Room) (v1 v2 v3 : Value) (F : List Nat), e = .returned (.agg #[.bool r.open_, v1, v2, v3]) ∧ Drawn r ∧ St w0 W' (ownD roomD r [.bool r.open_, v1, v2, v3] F :: L) := by
  have HS := hide hS
  have HC := hide hc
  clear hS hc
  go_enter Try.func15, Try.ntmps15
  go_wp2_with fail
  refine (one_c code A c b N 2 w0 _ _ (St.pull1 (show St w0 _ (blk W.heap.size #[.bool false, .slice none 0 0, .slice none 0 0, .slice none 0 0] 28 :: srcP 67 A code.length c b (N) :: L) from by (repeat (first | (with_reducible exact HS.out) | (with_reducible apply St.alloc) | (with_reducible apply St.set0) | (with_reducible apply St.set1) | (with_reducible apply St.set2) | (with_reducible apply St.set3) | (with_reducible apply St.drew) | (with_reducible apply St.drewN))); all_goals (try (first | rfl | (simp; done))))) HC.out (by omega)).mono ?_
  rintro e w1 ⟨op, rfl, hS1⟩
  have HS1 := hide hS1
  clear hS1
  go_wp2_with fail
  refine (pick_c code A c b _ 6 w0 _ _ (St.pull1 (show St w0 _ (blk w1.heap.size #[.bool op, .slice none 0 0, .slice none 0 0, .slice none 0 0] 28 :: srcP 67 A code.length c b (N + 2) :: blk W.heap.size #[.bool false, .slice none 0 0, .slice none 0 0, .slice none 0 0] 28 :: L) from by (repeat (first | (with_reducible exact HS1.out) | (with_reducible apply St.alloc) | (with_reducible apply St.set0) | (with_reducible apply St.set1) | (with_reducible apply St.set2) | (with_reducible apply St.set3) | (with_reducible apply St.drew) | (with_reducible apply St.drewN))); all_goals (try (first | rfl | (simp; done))))) HC.out (by omega)).mono ?_
  rintro e w2 ⟨x0, rfl, o0, o1, hS2⟩
  replace o1 := o1 (by omega)
  have HS2 := hide hS2
  clear hS2
  go_wp2_with fail
  obtain ⟨ow, how⟩ : ∃ ow, ow = 1 + x0 := ⟨_, rfl⟩
  rw [← how]
  have ho1 : 1 ≤ ow := by omega
  have ho6 : ow ≤ 6 := by omega
  clear how
  go_loopg [5, 6, 7, 8, 9, 53, 67] 6 (fun gg s5 s6 s7 s8 s9 s53 s67 wr => ∃ (k : Nat) (r : Room) (Am : Option Addr) (cm : Nat) (Ai : Option Addr) (ci : Nat) (Ab : Option Addr) (cb : Nat) (Fm Fi Fb : List Nat), k ≤ 6 ∧ 6 - k ≤ gg ∧ s5 = .int .i64 ((k : Int) + 1) ∧ Hid (DrawR ((k : Int) + 1) ow r) ∧ Hid (St w0 wr (srcP 67 A code.length c b (N + 4 + 16 * k) :: own memberD 55 (.slice Am r.members.length cm) r.members Fm :: own inviteD 39 (.slice Ai r.invites.length ci) r.invites Fi :: own banD 41 (.slice Ab r.bans.length cb) r.bans Fb :: blk w1.heap.size #[.bool r.open_, .slice Am r.members.length cm, .slice Ai r.invites.length ci, .slice Ab r.bans.length cb] 28 :: blk W.heap.size #[.bool false, .slice none 0 0, .slice none 0 0, .slice none 0 0] 28 :: L)))
  case atStart => exact ⟨0, ⟨op, [], [], []⟩, none, 0, none, 0, none, 0, [], [], [], by omega, by omega, rfl, hide (DrawR.start op ow ho1), hide (St.srcMore (St.pull3 (St.nil (d := memberD) (St.nil (d := inviteD) (St.nil (d := banD) HS2.out)))) (by omega))⟩
  case round =>
    obtain ⟨k, r, Am, cm, Ai, ci, Ab, cb, Fm, Fi, Fb, hk, hg, rfl, HD, HS⟩ := hrel
    have hlen := HD.out.len
    by_cases hlt : k ≤ 5
    · have hlt2 : (k : Int) + 1 ≤ 6 := by omega
      go_wp2_with fail
      refine (pick_c code A c b _ 4 w0 _ _ HS.out HC.out (by omega)).mono ?_
      rintro e w3 ⟨x1, rfl, p0, p1, hS3⟩
      replace p1 := p1 (by omega)
      have HS3 := hide hS3
      clear hS3
      go_wp2_with fail
      refine (pick_c code A c b _ 20 w0 _ _ (St.pull1 (show St w0 _ (blk w3.heap.size #[.int .i64 ((k : Int) + 1), .int .i64 x1, .int .i64 0, .int .i64 0] 55 :: srcP 67 A code.length c b (N + 4 + 16 * k + 2) :: own memberD 55 (.slice Am r.members.length cm) r.members Fm :: own inviteD 39 (.slice Ai r.invites.length ci) r.invites Fi :: own banD 41 (.slice Ab r.bans.length cb) r.bans Fb :: blk w1.heap.size #[.bool r.open_, .slice Am r.members.length cm, .slice Ai r.invites.length ci, .slice Ab r.bans.length cb] 28 :: blk W.heap.size #[.bool false, .slice none 0 0, .slice none 0 0, .slice none 0 0] 28 :: L) from by (repeat (first | (with_reducible exact HS3.out) | (with_reducible apply St.alloc) | (with_reducible apply St.set0) | (with_reducible apply St.set1) | (with_reducible apply St.set2) | (with_reducible apply St.set3) | (with_reducible apply St.drew) | (with_reducible apply St.drewN))); all_goals (try (first | rfl | (simp; done))))) HC.out (by omega)).mono ?_
      rintro e w4 ⟨x2, rfl, q0, q1, hS4⟩
      replace q1 := q1 (by omega)
      have HS4 := hide hS4
      have y := hS4.at1
      obtain ⟨y0, y1, y2, y3⟩ := y.c4
      have yf := y.frozen
      have yz := y.lt
      clear y
      clear hS4
      go_wp2_with fail
      refine (one_c code A c b _ 4 w0 _ _ (show St w0 _ (srcP 67 A code.length c b (N + 4 + 16 * k + 2 + 2) :: blk w3.heap.size #[.int .i64 ((k : Int) + 1), .int .i64 x1, .int .i64 x2, .int .i64 0] 55 :: own memberD 55 (.slice Am r.members.length cm) r.members Fm :: own inviteD 39 (.slice Ai r.invites.length ci) r.invites Fi :: own banD 41 (.slice Ab r.bans.length cb) r.bans Fb :: blk w1.heap.size #[.bool r.open_, .slice Am r.members.length cm, .slice Ai r.invites.length ci, .slice Ab r.bans.length cb] 28 :: blk W.heap.size #[.bool false, .slice none 0 0, .slice none 0 0, .slice none 0 0] 28 :: L) from by (repeat (first | (with_reducible exact HS4.out) | (with_reducible apply St.alloc) | (with_reducible apply St.set0) | (with_reducible apply St.set1) | (with_reducible apply St.set2) | (with_reducible apply St.set3) | (with_reducible apply St.drew) | (with_reducible apply St.drewN))); all_goals (try (first | rfl | (simp; done)))) HC.out (by omega)).mono ?_
      rintro e w5 ⟨pq, rfl, hS5⟩
      have HS5 := hide hS5
      clear y0 y1 y2 y3 yf yz
      have y := hS5.at1
      obtain ⟨y0, y1, y2, y3⟩ := y.c4
      have yf := y.frozen
      have yz := y.lt
      clear y
      clear hS5
      cases pq with
      | true =>
        go_wp2_with fail
        refine (pick_c code A c b _ 40 w0 _ _ HS5.out HC.out (by omega)).mono ?_
        rintro e w6 ⟨x3, rfl, r0, r1, hS6⟩
        replace r1 := r1 (by omega)
        have HS6 := hide hS6
        clear y0 y1 y2 y3 yf yz
        have y := hS6.at1
        obtain ⟨y0, y1, y2, y3⟩ := y.c4
        have yf := y.frozen
        have yz := y.lt
        clear y
        clear hS6
        by_cases hno : (k : Int) + 1 = ow
        · subst hno
          go_wp2_with fail
          refine (pick_c code A c b (N + 4 + 16 * k + 8) 40 w0 _ _ (show St w0 _ (srcP 67 A code.length c b (N + 4 + 16 * k + 8) :: blk w3.heap.size #[.int .i64 ((k : Int) + 1), .int .i64 3, .int .i64 x2, .int .i64 x3] 55 :: own memberD 55 (.slice Am r.members.length cm) r.members Fm :: own inviteD 39 (.slice Ai r.invites.length ci) r.invites Fi :: own banD 41 (.slice Ab r.bans.length cb) r.bans Fb :: blk w1.heap.size #[.bool r.open_, .slice Am r.members.length cm, .slice Ai r.invites.length ci, .slice Ab r.bans.length cb] 28 :: blk W.heap.size #[.bool false, .slice none 0 0, .slice none 0 0, .slice none 0 0] 28 :: L) from by (repeat (first | (with_reducible exact HS6.out) | (with_reducible apply St.alloc) | (with_reducible apply St.set0) | (with_reducible apply St.set1) | (with_reducible apply St.set2) | (with_reducible apply St.set3) | (with_reducible apply St.drew) | (with_reducible apply St.drewN))); all_goals (try (first | rfl | (simp; done)))) HC.out (by omega)).mono ?_
          rintro e w7 ⟨x4, rfl, u0, u1, hS7⟩
          replace u1 := u1 (by omega)
          have HS7 := hide hS7
          clear hS7
          go_wp2_with fail
          refine (pick_c code A c b _ 6 w0 _ _ HS7.out HC.out (by omega)).mono ?_
          rintro e w8 ⟨x5, rfl, v0, v1, hS8⟩
          replace v1 := v1 (by omega)
          have HS8 := hide hS8
          clear hS8
          go_wp2_with fail
          refine (pick_c code A c b _ 5 w0 _ _ HS8.out HC.out (by omega)).mono ?_
          rintro e w9 ⟨x6, rfl, t0, t1, hS9⟩
          replace t1 := t1 (by omega)
          have HS9 := hide hS9
          (try clear y0 y1 y2 y3 yf yz)
          (try clear z0 z1 z2 z3 zf zz)
          have y := hS9.at1
          obtain ⟨y0, y1, y2, y3⟩ := y.c4
          have yf := y.frozen
          have yz := y.lt
          clear y
          have z := hS9.drop.drop.at3
          obtain ⟨z0, z1, z2, z3⟩ := z.c4
          have zf := z.frozen
          have zz := z.lt
          clear z
          clear hS9
          go_wp2_with (
            at_builtin
            refine wpList_app1_st (d := memberD) (w0 := w0) rfl _ rfl _ _ _ rfl (.agg #[(.int .i64 0), (.int .i64 0), (.int .i64 0), (.int .i64 0)]) 32 Try.underlying24 infoMember rfl (by omega) (by omega) (.slice Am r.members.length cm) r.members Fm rfl w9.heap.size #[.int .i64 ((k : Int) + 1), .int .i64 3, .int .i64 x2, .int .i64 x3] (show St w0 _ (blk w9.heap.size _ 55 :: own memberD 55 (.slice Am r.members.length cm) r.members Fm :: srcP 67 A code.length c b (N + 4 + 16 * k + 8 + 2 + 2 + 2) :: blk w3.heap.size #[.int .i64 ((k : Int) + 1), .int .i64 3, .int .i64 x2, .int .i64 x3] 55 :: own inviteD 39 (.slice Ai r.invites.length ci) r.invites Fi :: own banD 41 (.slice Ab r.bans.length cb) r.bans Fb :: blk w1.heap.size #[.bool r.open_, .slice Am r.members.length cm, .slice Ai r.invites.length ci, .slice Ab r.bans.length cb] 28 :: blk W.heap.size #[.bool false, .slice none 0 0, .slice none 0 0, .slice none 0 0] 28 :: L) from by (repeat (first | (with_reducible exact HS9.out.pull2) | (with_reducible apply St.alloc) | (with_reducible apply St.set0) | (with_reducible apply St.set1) | (with_reducible apply St.set2) | (with_reducible apply St.set3) | (with_reducible apply St.drew) | (with_reducible apply St.drewN))); all_goals (try (first | rfl | (simp; done)))) 1 rfl ⟨(k : Int) + 1, 3, x2, x3⟩ rfl (by omega) ?_
            intro g cap wA FA hSA
            have HSA := hide hSA.drop2
            (try clear z0 z1 z2 z3 zf zz)
            have z := hSA.drop2.drop.at3
            obtain ⟨z0, z1, z2, z3⟩ := z.c4
            have zf := z.frozen
            have zz := z.lt
            clear z
            clear hSA)
          go_wp2_with fail
          go_roundg (6 - (k + 1))
          case measure => omega
          case rel =>
            refine ⟨k + 1, { r with members := r.members ++ [⟨(k : Int) + 1, 3, x2, x3⟩] }, some ⟨g, 0, none⟩, cap, Ai, ci, Ab, cb, FA, Fi, Fb, by omega, by omega, by go_num, hide (HD.out.addM (m := ⟨(k : Int) + 1, 3, x2, x3⟩) rfl (memOk_of (by omega) (by omega) (by omega) (by omega) (by omega) (by omega) (by omega)) (fun _ => rfl)), hide ?_⟩
            rw [List.length_append]
            exact St.srcMore (St.pull1 (St.push4 (show St w0 _ (blk w1.heap.size #[.bool r.open_, .slice (some ⟨g, 0, none⟩) (r.members.length + 1) cap, .slice Ai r.invites.length ci, .slice Ab r.bans.length cb] 28 :: own memberD 55 (.slice (some ⟨g, 0, none⟩) (r.members.length + 1) cap) (r.members ++ [⟨(k : Int) + 1, 3, x2, x3⟩]) FA :: srcP 67 A code.length c b (N + 4 + 16 * k + 8 + 2 + 2 + 2) :: own inviteD 39 (.slice Ai r.invites.length ci) r.invites Fi :: own banD 41 (.slice Ab r.bans.length cb) r.bans Fb :: blk W.heap.size #[.bool false, .slice none 0 0, .slice none 0 0, .slice none 0 0] 28 :: L) from by (repeat (first | (with_reducible exact HSA.out.pull4) | (with_reducible apply St.alloc) | (with_reducible apply St.set0) | (with_reducible apply St.set1) | (with_reducible apply St.set2) | (with_reducible apply St.set3) | (with_reducible apply St.drew) | (with_reducible apply St.drewN))); all_goals (try (first | rfl | (simp; done)))))) (by omega)
        · go_wp2_with fail
          refine (pick_c code A c b (N + 4 + 16 * k + 8) 40 w0 _ _ (show St w0 _ (srcP 67 A code.length c b (N + 4 + 16 * k + 8) :: blk w3.heap.size #[.int .i64 ((k : Int) + 1), .int .i64 x1, .int .i64 x2, .int .i64 x3] 55 :: own memberD 55 (.slice Am r.members.length cm) r.members Fm :: own inviteD 39 (.slice Ai r.invites.length ci) r.invites Fi :: own banD 41 (.slice Ab r.bans.length cb) r.bans Fb :: blk w1.heap.size #[.bool r.open_, .slice Am r.members.length cm, .slice Ai r.invites.length ci, .slice Ab r.bans.length cb] 28 :: blk W.heap.size #[.bool false, .slice none 0 0, .slice none 0 0, .slice none 0 0] 28 :: L) from by (repeat (first | (with_reducible exact HS6.out) | (with_reducible apply St.alloc) | (with_reducible apply St.set0) | (with_reducible apply St.set1) | (with_reducible apply St.set2) | (with_reducible apply St.set3) | (with_reducible apply St.drew) | (with_reducible apply St.drewN))); all_goals (try (first | rfl | (simp; done)))) HC.out (by omega)).mono ?_
          rintro e w7 ⟨x4, rfl, u0, u1, hS7⟩
          replace u1 := u1 (by omega)
          have HS7 := hide hS7
          clear hS7
          go_wp2_with fail
          refine (pick_c code A c b _ 6 w0 _ _ HS7.out HC.out (by omega)).mono ?_
          rintro e w8 ⟨x5, rfl, v0, v1, hS8⟩
          replace v1 := v1 (by omega)
          have HS8 := hide hS8
          clear hS8
          go_wp2_with fail
          refine (pick_c code A c b _ 5 w0 _ _ HS8.out HC.out (by omega)).mono ?_
          rintro e w9 ⟨x6, rfl, t0, t1, hS9⟩
          replace t1 := t1 (by omega)
          have HS9 := hide hS9
          (try clear y0 y1 y2 y3 yf yz)
          (try clear z0 z1 z2 z3 zf zz)
          have y := hS9.at1
          obtain ⟨y0, y1, y2, y3⟩ := y.c4
          have yf := y.frozen
          have yz := y.lt
          clear y
          have z := hS9.drop.drop.at3
          obtain ⟨z0, z1, z2, z3⟩ := z.c4
          have zf := z.frozen
          have zz := z.lt
          clear z
          clear hS9
          by_cases hk3 : x6 < 3
          · go_wp2_with (
              at_builtin
              refine wpList_app1_st (d := memberD) (w0 := w0) rfl _ rfl _ _ _ rfl (.agg #[(.int .i64 0), (.int .i64 0), (.int .i64 0), (.int .i64 0)]) 32 Try.underlying24 infoMember rfl (by omega) (by omega) (.slice Am r.members.length cm) r.members Fm rfl w9.heap.size #[.int .i64 ((k : Int) + 1), .int .i64 x1, .int .i64 x2, .int .i64 x3] (show St w0 _ (blk w9.heap.size _ 55 :: own memberD 55 (.slice Am r.members.length cm) r.members Fm :: srcP 67 A code.length c b (N + 4 + 16 * k + 8 + 2 + 2 + 2) :: blk w3.heap.size #[.int .i64 ((k : Int) + 1), .int .i64 x1, .int .i64 x2, .int .i64 x3] 55 :: own inviteD 39 (.slice Ai r.invites.length ci) r.invites Fi :: own banD 41 (.slice Ab r.bans.length cb) r.bans Fb :: blk w1.heap.size #[.bool r.open_, .slice Am r.members.length cm, .slice Ai r.invites.length ci, .slice Ab r.bans.length cb] 28 :: blk W.heap.size #[.bool false, .slice none 0 0, .slice none 0 0, .slice none 0 0] 28 :: L) from by (repeat (first | (with_reducible exact HS9.out.pull2) | (with_reducible apply St.alloc) | (with_reducible apply St.set0) | (with_reducible apply St.set1) | (with_reducible apply St.set2) | (with_reducible apply St.set3) | (with_reducible apply St.drew) | (with_reducible apply St.drewN))); all_goals (try (first | rfl | (simp; done)))) 1 rfl ⟨(k : Int) + 1, x1, x2, x3⟩ rfl (by omega) ?_
              intro g cap wA FA hSA
              have HSA := hide hSA.drop2
              (try clear z0 z1 z2 z3 zf zz)
              have z := hSA.drop2.drop.at3
              obtain ⟨z0, z1, z2, z3⟩ := z.c4
              have zf := z.frozen
              have zz := z.lt
              clear z
              clear hSA)
            go_wp2_with fail
            go_roundg (6 - (k + 1))
            case measure => omega
            case rel =>
              refine ⟨k + 1, { r with members := r.members ++ [⟨(k : Int) + 1, x1, x2, x3⟩] }, some ⟨g, 0, none⟩, cap, Ai, ci, Ab, cb, FA, Fi, Fb, by omega, by omega, by go_num, hide (HD.out.addM (m := ⟨(k : Int) + 1, x1, x2, x3⟩) rfl (memOk_of (by omega) (by omega) (by omega) (by omega) (by omega) (by omega) (by omega)) (fun h => absurd h hno)), hide ?_⟩
              rw [List.length_append]
              exact St.srcMore (St.pull1 (St.push4 (show St w0 _ (blk w1.heap.size #[.bool r.open_, .slice (some ⟨g, 0, none⟩) (r.members.length + 1) cap, .slice Ai r.invites.length ci, .slice Ab r.bans.length cb] 28 :: own memberD 55 (.slice (some ⟨g, 0, none⟩) (r.members.length + 1) cap) (r.members ++ [⟨(k : Int) + 1, x1, x2, x3⟩]) FA :: srcP 67 A code.length c b (N + 4 + 16 * k + 8 + 2 + 2 + 2) :: own inviteD 39 (.slice Ai r.invites.length ci) r.invites Fi :: own banD 41 (.slice Ab r.bans.length cb) r.bans Fb :: blk W.heap.size #[.bool false, .slice none 0 0, .slice none 0 0, .slice none 0 0] 28 :: L) from by (repeat (first | (with_reducible exact HSA.out.pull4) | (with_reducible apply St.alloc) | (with_reducible apply St.set0) | (with_reducible apply St.set1) | (with_reducible apply St.set2) | (with_reducible apply St.set3) | (with_reducible apply St.drew) | (with_reducible apply St.drewN))); all_goals (try (first | rfl | (simp; done)))))) (by omega)
          · by_cases hk4 : x6 = 3
            · have hk5 : (x6 == 3) = true := by simpa using hk4
              have hk6 := hide hk4
              clear hk4
              go_wp2_with (
                at_builtin
                refine wpList_app1_st (d := inviteD) (w0 := w0) rfl _ rfl _ _ _ rfl (.agg #[(.int .i64 0), (.int .i64 0), (.int .i64 0)]) 24 Try.underlying25 infoInvite rfl (by omega) (by omega) (.slice Ai r.invites.length ci) r.invites Fi rfl w9.heap.size #[.int .i64 ((k : Int) + 1), .int .i64 (1 + x5), .int .i64 x4] (show St w0 _ (blk w9.heap.size _ 39 :: own inviteD 39 (.slice Ai r.invites.length ci) r.invites Fi :: srcP 67 A code.length c b (N + 4 + 16 * k + 8 + 2 + 2 + 2) :: blk w3.heap.size #[.int .i64 ((k : Int) + 1), .int .i64 x1, .int .i64 x2, .int .i64 x3] 55 :: own memberD 55 (.slice Am r.members.length cm) r.members Fm :: own banD 41 (.slice Ab r.bans.length cb) r.bans Fb :: blk w1.heap.size #[.bool r.open_, .slice Am r.members.length cm, .slice Ai r.invites.length ci, .slice Ab r.bans.length cb] 28 :: blk W.heap.size #[.bool false, .slice none 0 0, .slice none 0 0, .slice none 0 0] 28 :: L) from by (repeat (first | (with_reducible exact HS9.out.pull3) | (with_reducible apply St.alloc) | (with_reducible apply St.set0) | (with_reducible apply St.set1) | (with_reducible apply St.set2) | (with_reducible apply St.set3) | (with_reducible apply St.drew) | (with_reducible apply St.drewN))); all_goals (try (first | rfl | (simp; done)))) 1 rfl ⟨(k : Int) + 1, 1 + x5, x4⟩ rfl (by omega) ?_
                intro g cap wA FA hSA
                have HSA := hide hSA.drop2
                (try clear z0 z1 z2 z3 zf zz)
                have z := hSA.drop2.drop.at3
                obtain ⟨z0, z1, z2, z3⟩ := z.c4
                have zf := z.frozen
                have zz := z.lt
                clear z
                clear hSA)
              go_wp2_with fail
              go_roundg (6 - (k + 1))
              case measure => omega
              case rel =>
                refine ⟨k + 1, { r with invites := r.invites ++ [⟨(k : Int) + 1, 1 + x5, x4⟩] }, Am, cm, some ⟨g, 0, none⟩, cap, Ab, cb, Fm, FA, Fb, by omega, by omega, by go_num, hide (HD.out.addI (m := ⟨(k : Int) + 1, 1 + x5, x4⟩) rfl ⟨inB_of (n := (k : Int) + 1) (by omega) (by omega), inB_of (n := 1 + x5) (by omega) (by omega), inB_of (n := x4) (by omega) (by omega)⟩ hno), hide ?_⟩
                rw [List.length_append]
                exact St.srcMore (St.push2 (St.push4 (show St w0 _ (blk w1.heap.size #[.bool r.open_, .slice Am r.members.length cm, .slice (some ⟨g, 0, none⟩) (r.invites.length + 1) cap, .slice Ab r.bans.length cb] 28 :: own inviteD 39 (.slice (some ⟨g, 0, none⟩) (r.invites.length + 1) cap) (r.invites ++ [⟨(k : Int) + 1, 1 + x5, x4⟩]) FA :: srcP 67 A code.length c b (N + 4 + 16 * k + 8 + 2 + 2 + 2) :: own memberD 55 (.slice Am r.members.length cm) r.members Fm :: own banD 41 (.slice Ab r.bans.length cb) r.bans Fb :: blk W.heap.size #[.bool false, .slice none 0 0, .slice none 0 0, .slice none 0 0] 28 :: L) from by (repeat (first | (with_reducible exact HSA.out.pull4) | (with_reducible apply St.alloc) | (with_reducible apply St.set0) | (with_reducible apply St.set1) | (with_reducible apply St.set2) | (with_reducible apply St.set3) | (with_reducible apply St.drew) | (with_reducible apply St.drewN))); all_goals (try (first | rfl | (simp; done)))))) (by omega)
            · have hk5 : (x6 == 3) = false := by simpa using hk4
              go_wp2_with fail
              refine (one_c code A c b _ 2 w0 _ _ HS9.out HC.out (by omega)).mono ?_
              rintro e wB ⟨pb, rfl, hSB⟩
              have HSB := hide hSB
              (try clear z0 z1 z2 z3 zf zz)
              have z := hSB.drop.drop.at3
              obtain ⟨z0, z1, z2, z3⟩ := z.c4
              have zf := z.frozen
              have zz := z.lt
              clear z
              clear hSB
              cases pb with
              | true =>
                go_wp2_with (
                  at_builtin
                  refine wpList_app1_st (d := banD) (w0 := w0) rfl _ rfl _ _ _ rfl (.agg #[(.int .i64 0), (.int .i64 0)]) 16 Try.underlying26 infoBan rfl (by omega) (by omega) (.slice Ab r.bans.length cb) r.bans Fb rfl wB.heap.size #[.int .i64 ((k : Int) + 1), .int .i64 x4] (show St w0 _ (blk wB.heap.size _ 41 :: own banD 41 (.slice Ab r.bans.length cb) r.bans Fb :: srcP 67 A code.length c b (N + 4 + 16 * k + 8 + 2 + 2 + 2 + 2) :: blk w3.heap.size #[.int .i64 ((k : Int) + 1), .int .i64 x1, .int .i64 x2, .int .i64 x3] 55 :: own memberD 55 (.slice Am r.members.length cm) r.members Fm :: own inviteD 39 (.slice Ai r.invites.length ci) r.invites Fi :: blk w1.heap.size #[.bool r.open_, .slice Am r.members.length cm, .slice Ai r.invites.length ci, .slice Ab r.bans.length cb] 28 :: blk W.heap.size #[.bool false, .slice none 0 0, .slice none 0 0, .slice none 0 0] 28 :: L) from by (repeat (first | (with_reducible exact HSB.out.pull4) | (with_reducible apply St.alloc) | (with_reducible apply St.set0) | (with_reducible apply St.set1) | (with_reducible apply St.set2) | (with_reducible apply St.set3) | (with_reducible apply St.drew) | (with_reducible apply St.drewN))); all_goals (try (first | rfl | (simp; done)))) 1 rfl ⟨(k : Int) + 1, x4⟩ rfl (by omega) ?_
                  intro g cap wA FA hSA
                  have HSA := hide hSA.drop2
                  (try clear z0 z1 z2 z3 zf zz)
                  have z := hSA.drop2.drop.at3
                  obtain ⟨z0, z1, z2, z3⟩ := z.c4
                  have zf := z.frozen
                  have zz := z.lt
                  clear z
                  clear hSA)
                go_wp2_with fail
                go_roundg (6 - (k + 1))
                case measure => omega
                case rel =>
                  refine ⟨k + 1, { r with bans := r.bans ++ [⟨(k : Int) + 1, x4⟩] }, Am, cm, Ai, ci, some ⟨g, 0, none⟩, cap, Fm, Fi, FA, by omega, by omega, by go_num, hide (HD.out.addB (m := ⟨(k : Int) + 1, x4⟩) rfl ⟨inB_of (n := (k : Int) + 1) (by omega) (by omega), inB_of (n := x4) (by omega) (by omega)⟩ hno), hide ?_⟩
                  rw [List.length_append]
                  exact St.srcMore (St.push3 (St.push4 (show St w0 _ (blk w1.heap.size #[.bool r.open_, .slice Am r.members.length cm, .slice Ai r.invites.length ci, .slice (some ⟨g, 0, none⟩) (r.bans.length + 1) cap] 28 :: own banD 41 (.slice (some ⟨g, 0, none⟩) (r.bans.length + 1) cap) (r.bans ++ [⟨(k : Int) + 1, x4⟩]) FA :: srcP 67 A code.length c b (N + 4 + 16 * k + 8 + 2 + 2 + 2 + 2) :: own memberD 55 (.slice Am r.members.length cm) r.members Fm :: own inviteD 39 (.slice Ai r.invites.length ci) r.invites Fi :: blk W.heap.size #[.bool false, .slice none 0 0, .slice none 0 0, .slice none 0 0] 28 :: L) from by (repeat (first | (with_reducible exact HSA.out.pull4) | (with_reducible apply St.alloc) | (with_reducible apply St.set0) | (with_reducible apply St.set1) | (with_reducible apply St.set2) | (with_reducible apply St.set3) | (with_reducible apply St.drew) | (with_reducible apply St.drewN))); all_goals (try (first | rfl | (simp; done)))))) (by omega)
              | false =>
                go_wp2_with fail
                go_roundg (6 - (k + 1))
                case measure => omega
                case rel =>
                  refine ⟨k + 1, r, Am, cm, Ai, ci, Ab, cb, Fm, Fi, Fb, by omega, by omega, by go_num, hide (HD.out.skip hno), hide ?_⟩
                  exact St.srcMore HSB.out.drop1 (by omega)
      | false =>
        have HS6 := hide (HS5.out.srcMore (M := N + 4 + 16 * k + 8) (by omega))
        by_cases hno : (k : Int) + 1 = ow
        · subst hno
          go_wp2_with fail
          refine (pick_c code A c b (N + 4 + 16 * k + 8) 40 w0 _ _ (show St w0 _ (srcP 67 A code.length c b (N + 4 + 16 * k + 8) :: blk w3.heap.size #[.int .i64 ((k : Int) + 1), .int .i64 3, .int .i64 x2, .int .i64 0] 55 :: own memberD 55 (.slice Am r.members.length cm) r.members Fm :: own inviteD 39 (.slice Ai r.invites.length ci) r.invites Fi :: own banD 41 (.slice Ab r.bans.length cb) r.bans Fb :: blk w1.heap.size #[.bool r.open_, .slice Am r.members.length cm, .slice Ai r.invites.length ci, .slice Ab r.bans.length cb] 28 :: blk W.heap.size #[.bool false, .slice none 0 0, .slice none 0 0, .slice none 0 0] 28 :: L) from by (repeat (first | (with_reducible exact HS6.out) | (with_reducible apply St.alloc) | (with_reducible apply St.set0) | (with_reducible apply St.set1) | (with_reducible apply St.set2) | (with_reducible apply St.set3) | (with_reducible apply St.drew) | (with_reducible apply St.drewN))); all_goals (try (first | rfl | (simp; done)))) HC.out (by omega)).mono ?_
          rintro e w7 ⟨x4, rfl, u0, u1, hS7⟩
          replace u1 := u1 (by omega)
          have HS7 := hide hS7
          clear hS7
          go_wp2_with fail
          refine (pick_c code A c b _ 6 w0 _ _ HS7.out HC.out (by omega)).mono ?_
          rintro e w8 ⟨x5, rfl, v0, v1, hS8⟩
          replace v1 := v1 (by omega)
          have HS8 := hide hS8
          clear hS8
          go_wp2_with fail
          refine (pick_c code A c b _ 5 w0 _ _ HS8.out HC.out (by omega)).mono ?_
          rintro e w9 ⟨x6, rfl, t0, t1, hS9⟩
          replace t1 := t1 (by omega)
          have HS9 := hide hS9
          (try clear y0 y1 y2 y3 yf yz)
          (try clear z0 z1 z2 z3 zf zz)
          have y := hS9.at1
          obtain ⟨y0, y1, y2, y3⟩ := y.c4
          have yf := y.frozen
          have yz := y.lt
          clear y
          have z := hS9.drop.drop.at3
          obtain ⟨z0, z1, z2, z3⟩ := z.c4
          have zf := z.frozen
          have zz := z.lt
          clear z
          clear hS9
          go_wp2_with (
            at_builtin
            refine wpList_app1_st (d := memberD) (w0 := w0) rfl _ rfl _ _ _ rfl (.agg #[(.int .i64 0), (.int .i64 0), (.int .i64 0), (.int .i64 0)]) 32 Try.underlying24 infoMember rfl (by omega) (by omega) (.slice Am r.members.length cm) r.members Fm rfl w9.heap.size #[.int .i64 ((k : Int) + 1), .int .i64 3, .int .i64 x2, .int .i64 0] (show St w0 _ (blk w9.heap.size _ 55 :: own memberD 55 (.slice Am r.members.length cm) r.members Fm :: srcP 67 A code.length c b (N + 4 + 16 * k + 8 + 2 + 2 + 2) :: blk w3.heap.size #[.int .i64 ((k : Int) + 1), .int .i64 3, .int .i64 x2, .int .i64 0] 55 :: own inviteD 39 (.slice Ai r.invites.length ci) r.invites Fi :: own banD 41 (.slice Ab r.bans.length cb) r.bans Fb :: blk w1.heap.size #[.bool r.open_, .slice Am r.members.length cm, .slice Ai r.invites.length ci, .slice Ab r.bans.length cb] 28 :: blk W.heap.size #[.bool false, .slice none 0 0, .slice none 0 0, .slice none 0 0] 28 :: L) from by (repeat (first | (with_reducible exact HS9.out.pull2) | (with_reducible apply St.alloc) | (with_reducible apply St.set0) | (with_reducible apply St.set1) | (with_reducible apply St.set2) | (with_reducible apply St.set3) | (with_reducible apply St.drew) | (with_reducible apply St.drewN))); all_goals (try (first | rfl | (simp; done)))) 1 rfl ⟨(k : Int) + 1, 3, x2, 0⟩ rfl (by omega) ?_
            intro g cap wA FA hSA
            have HSA := hide hSA.drop2
            (try clear z0 z1 z2 z3 zf zz)
            have z := hSA.drop2.drop.at3
            obtain ⟨z0, z1, z2, z3⟩ := z.c4
            have zf := z.frozen
            have zz := z.lt
            clear z
            clear hSA)
          go_wp2_with fail
          go_roundg (6 - (k + 1))
          case measure => omega
          case rel =>
            refine ⟨k + 1, { r with members := r.members ++ [⟨(k : Int) + 1, 3, x2, 0⟩] }, some ⟨g, 0, none⟩, cap, Ai, ci, Ab, cb, FA, Fi, Fb, by omega, by omega, by go_num, hide (HD.out.addM (m := ⟨(k : Int) + 1, 3, x2, 0⟩) rfl (memOk_of (by omega) (by omega) (by omega) (by omega) (by omega) (by omega) (by omega)) (fun _ => rfl)), hide ?_⟩
            rw [List.length_append]
            exact St.srcMore (St.pull1 (St.push4 (show St w0 _ (blk w1.heap.size #[.bool r.open_, .slice (some ⟨g, 0, none⟩) (r.members.length + 1) cap, .slice Ai r.invites.length ci, .slice Ab r.bans.length cb] 28 :: own memberD 55 (.slice (some ⟨g, 0, none⟩) (r.members.length + 1) cap) (r.members ++ [⟨(k : Int) + 1, 3, x2, 0⟩]) FA :: srcP 67 A code.length c b (N + 4 + 16 * k + 8 + 2 + 2 + 2) :: own inviteD 39 (.slice Ai r.invites.length ci) r.invites Fi :: own banD 41 (.slice Ab r.bans.length cb) r.bans Fb :: blk W.heap.size #[.bool false, .slice none 0 0, .slice none 0 0, .slice none 0 0] 28 :: L) from by (repeat (first | (with_reducible exact HSA.out.pull4) | (with_reducible apply St.alloc) | (with_reducible apply St.set0) | (with_reducible apply St.set1) | (with_reducible apply St.set2) | (with_reducible apply St.set3) | (with_reducible apply St.drew) | (with_reducible apply St.drewN))); all_goals (try (first | rfl | (simp; done)))))) (by omega)
        · go_wp2_with fail
          refine (pick_c code A c b (N + 4 + 16 * k + 8) 40 w0 _ _ (show St w0 _ (srcP 67 A code.length c b (N + 4 + 16 * k + 8) :: blk w3.heap.size #[.int .i64 ((k : Int) + 1), .int .i64 x1, .int .i64 x2, .int .i64 0] 55 :: own memberD 55 (.slice Am r.members.length cm) r.members Fm :: own inviteD 39 (.slice Ai r.invites.length ci) r.invites Fi :: own banD 41 (.slice Ab r.bans.length cb) r.bans Fb :: blk w1.heap.size #[.bool r.open_, .slice Am r.members.length cm, .slice Ai r.invites.length ci, .slice Ab r.bans.length cb] 28 :: blk W.heap.size #[.bool false, .slice none 0 0, .slice none 0 0, .slice none 0 0] 28 :: L) from by (repeat (first | (with_reducible exact HS6.out) | (with_reducible apply St.alloc) | (with_reducible apply St.set0) | (with_reducible apply St.set1) | (with_reducible apply St.set2) | (with_reducible apply St.set3) | (with_reducible apply St.drew) | (with_reducible apply St.drewN))); all_goals (try (first | rfl | (simp; done)))) HC.out (by omega)).mono ?_
          rintro e w7 ⟨x4, rfl, u0, u1, hS7⟩
          replace u1 := u1 (by omega)
          have HS7 := hide hS7
          clear hS7
          go_wp2_with fail
          refine (pick_c code A c b _ 6 w0 _ _ HS7.out HC.out (by omega)).mono ?_
          rintro e w8 ⟨x5, rfl, v0, v1, hS8⟩
          replace v1 := v1 (by omega)
          have HS8 := hide hS8
          clear hS8
          go_wp2_with fail
          refine (pick_c code A c b _ 5 w0 _ _ HS8.out HC.out (by omega)).mono ?_
          rintro e w9 ⟨x6, rfl, t0, t1, hS9⟩
          replace t1 := t1 (by omega)
          have HS9 := hide hS9
          (try clear y0 y1 y2 y3 yf yz)
          (try clear z0 z1 z2 z3 zf zz)
          have y := hS9.at1
          obtain ⟨y0, y1, y2, y3⟩ := y.c4
          have yf := y.frozen
          have yz := y.lt
          clear y
          have z := hS9.drop.drop.at3
          obtain ⟨z0, z1, z2, z3⟩ := z.c4
          have zf := z.frozen
          have zz := z.lt
          clear z
          clear hS9
          by_cases hk3 : x6 < 3
          · go_wp2_with (
              at_builtin
              refine wpList_app1_st (d := memberD) (w0 := w0) rfl _ rfl _ _ _ rfl (.agg #[(.int .i64 0), (.int .i64 0), (.int .i64 0), (.int .i64 0)]) 32 Try.underlying24 infoMember rfl (by omega) (by omega) (.slice Am r.members.length cm) r.members Fm rfl w9.heap.size #[.int .i64 ((k : Int) + 1), .int .i64 x1, .int .i64 x2, .int .i64 0] (show St w0 _ (blk w9.heap.size _ 55 :: own memberD 55 (.slice Am r.members.length cm) r.members Fm :: srcP 67 A code.length c b (N + 4 + 16 * k + 8 + 2 + 2 + 2) :: blk w3.heap.size #[.int .i64 ((k : Int) + 1), .int .i64 x1, .int .i64 x2, .int .i64 0] 55 :: own inviteD 39 (.slice Ai r.invites.length ci) r.invites Fi :: own banD 41 (.slice Ab r.bans.length cb) r.bans Fb :: blk w1.heap.size #[.bool r.open_, .slice Am r.members.length cm, .slice Ai r.invites.length ci, .slice Ab r.bans.length cb] 28 :: blk W.heap.size #[.bool false, .slice none 0 0, .slice none 0 0, .slice none 0 0] 28 :: L) from by (repeat (first | (with_reducible exact HS9.out.pull2) | (with_reducible apply St.alloc) | (with_reducible apply St.set0) | (with_reducible apply St.set1) | (with_reducible apply St.set2) | (with_reducible apply St.set3) | (with_reducible apply St.drew) | (with_reducible apply St.drewN))); all_goals (try (first | rfl | (simp; done)))) 1 rfl ⟨(k : Int) + 1, x1, x2, 0⟩ rfl (by omega) ?_
              intro g cap wA FA hSA
              have HSA := hide hSA.drop2
              (try clear z0 z1 z2 z3 zf zz)
              have z := hSA.drop2.drop.at3
              obtain ⟨z0, z1, z2, z3⟩ := z.c4
              have zf := z.frozen
              have zz := z.lt
              clear z
              clear hSA)
            go_wp2_with fail
            go_roundg (6 - (k + 1))
            case measure => omega
            case rel =>
              refine ⟨k + 1, { r with members := r.members ++ [⟨(k : Int) + 1, x1, x2, 0⟩] }, some ⟨g, 0, none⟩, cap, Ai, ci, Ab, cb, FA, Fi, Fb, by omega, by omega, by go_num, hide (HD.out.addM (m := ⟨(k : Int) + 1, x1, x2, 0⟩) rfl (memOk_of (by omega) (by omega) (by omega) (by omega) (by omega) (by omega) (by omega)) (fun h => absurd h hno)), hide ?_⟩
              rw [List.length_append]
              exact St.srcMore (St.pull1 (St.push4 (show St w0 _ (blk w1.heap.size #[.bool r.open_, .slice (some ⟨g, 0, none⟩) (r.members.length + 1) cap, .slice Ai r.invites.length ci, .slice Ab r.bans.length cb] 28 :: own memberD 55 (.slice (some ⟨g, 0, none⟩) (r.members.length + 1) cap) (r.members ++ [⟨(k : Int) + 1, x1, x2, 0⟩]) FA :: srcP 67 A code.length c b (N + 4 + 16 * k + 8 + 2 + 2 + 2) :: own inviteD 39 (.slice Ai r.invites.length ci) r.invites Fi :: own banD 41 (.slice Ab r.bans.length cb) r.bans Fb :: blk W.heap.size #[.bool false, .slice none 0 0, .slice none 0 0, .slice none 0 0] 28 :: L) from by (repeat (first | (with_reducible exact HSA.out.pull4) | (with_reducible apply St.alloc) | (with_reducible apply St.set0) | (with_reducible apply St.set1) | (with_reducible apply St.set2) | (with_reducible apply St.set3) | (with_reducible apply St.drew) | (with_reducible apply St.drewN))); all_goals (try (first | rfl | (simp; done)))))) (by omega)
          · by_cases hk4 : x6 = 3
            · have hk5 : (x6 == 3) = true := by simpa using hk4
              have hk6 := hide hk4
              clear hk4
              go_wp2_with (
                at_builtin
                refine wpList_app1_st (d := inviteD) (w0 := w0) rfl _ rfl _ _ _ rfl (.agg #[(.int .i64 0), (.int .i64 0), (.int .i64 0)]) 24 Try.underlying25 infoInvite rfl (by omega) (by omega) (.slice Ai r.invites.length ci) r.invites Fi rfl w9.heap.size #[.int .i64 ((k : Int) + 1), .int .i64 (1 + x5), .int .i64 x4] (show St w0 _ (blk w9.heap.size _ 39 :: own inviteD 39 (.slice Ai r.invites.length ci) r.invites Fi :: srcP 67 A code.length c b (N + 4 + 16 * k + 8 + 2 + 2 + 2) :: blk w3.heap.size #[.int .i64 ((k : Int) + 1), .int .i64 x1, .int .i64 x2, .int .i64 0] 55 :: own memberD 55 (.slice Am r.members.length cm) r.members Fm :: own banD 41 (.slice Ab r.bans.length cb) r.bans Fb :: blk w1.heap.size #[.bool r.open_, .slice Am r.members.length cm, .slice Ai r.invites.length ci, .slice Ab r.bans.length cb] 28 :: blk W.heap.size #[.bool false, .slice none 0 0, .slice none 0 0, .slice none 0 0] 28 :: L) from by (repeat (first | (with_reducible exact HS9.out.pull3) | (with_reducible apply St.alloc) | (with_reducible apply St.set0) | (with_reducible apply St.set1) | (with_reducible apply St.set2) | (with_reducible apply St.set3) | (with_reducible apply St.drew) | (with_reducible apply St.drewN))); all_goals (try (first | rfl | (simp; done)))) 1 rfl ⟨(k : Int) + 1, 1 + x5, x4⟩ rfl (by omega) ?_
                intro g cap wA FA hSA
                have HSA := hide hSA.drop2
                (try clear z0 z1 z2 z3 zf zz)
                have z := hSA.drop2.drop.at3
                obtain ⟨z0, z1, z2, z3⟩ := z.c4
                have zf := z.frozen
                have zz := z.lt
                clear z
                clear hSA)
              go_wp2_with fail
              go_roundg (6 - (k + 1))
              case measure => omega
              case rel =>
                refine ⟨k + 1, { r with invites := r.invites ++ [⟨(k : Int) + 1, 1 + x5, x4⟩] }, Am, cm, some ⟨g, 0, none⟩, cap, Ab, cb, Fm, FA, Fb, by omega, by omega, by go_num, hide (HD.out.addI (m := ⟨(k : Int) + 1, 1 + x5, x4⟩) rfl ⟨inB_of (n := (k : Int) + 1) (by omega) (by omega), inB_of (n := 1 + x5) (by omega) (by omega), inB_of (n := x4) (by omega) (by omega)⟩ hno), hide ?_⟩
                rw [List.length_append]
                exact St.srcMore (St.push2 (St.push4 (show St w0 _ (blk w1.heap.size #[.bool r.open_, .slice Am r.members.length cm, .slice (some ⟨g, 0, none⟩) (r.invites.length + 1) cap, .slice Ab r.bans.length cb] 28 :: own inviteD 39 (.slice (some ⟨g, 0, none⟩) (r.invites.length + 1) cap) (r.invites ++ [⟨(k : Int) + 1, 1 + x5, x4⟩]) FA :: srcP 67 A code.length c b (N + 4 + 16 * k + 8 + 2 + 2 + 2) :: own memberD 55 (.slice Am r.members.length cm) r.members Fm :: own banD 41 (.slice Ab r.bans.length cb) r.bans Fb :: blk W.heap.size #[.bool false, .slice none 0 0, .slice none 0 0, .slice none 0 0] 28 :: L) from by (repeat (first | (with_reducible exact HSA.out.pull4) | (with_reducible apply St.alloc) | (with_reducible apply St.set0) | (with_reducible apply St.set1) | (with_reducible apply St.set2) | (with_reducible apply St.set3) | (with_reducible apply St.drew) | (with_reducible apply St.drewN))); all_goals (try (first | rfl | (simp; done)))))) (by omega)
            · have hk5 : (x6 == 3) = false := by simpa using hk4
              go_wp2_with fail
              refine (one_c code A c b _ 2 w0 _ _ HS9.out HC.out (by omega)).mono ?_
              rintro e wB ⟨pb, rfl, hSB⟩
              have HSB := hide hSB
              (try clear z0 z1 z2 z3 zf zz)
              have z := hSB.drop.drop.at3
              obtain ⟨z0, z1, z2, z3⟩ := z.c4
              have zf := z.frozen
              have zz := z.lt
              clear z
              clear hSB
              cases pb with
              | true =>
                go_wp2_with (
                  at_builtin
                  refine wpList_app1_st (d := banD) (w0 := w0) rfl _ rfl _ _ _ rfl (.agg #[(.int .i64 0), (.int .i64 0)]) 16 Try.underlying26 infoBan rfl (by omega) (by omega) (.slice Ab r.bans.length cb) r.bans Fb rfl wB.heap.size #[.int .i64 ((k : Int) + 1), .int .i64 x4] (show St w0 _ (blk wB.heap.size _ 41 :: own banD 41 (.slice Ab r.bans.length cb) r.bans Fb :: srcP 67 A code.length c b (N + 4 + 16 * k + 8 + 2 + 2 + 2 + 2) :: blk w3.heap.size #[.int .i64 ((k : Int) + 1), .int .i64 x1, .int .i64 x2, .int .i64 0] 55 :: own memberD 55 (.slice Am r.members.length cm) r.members Fm :: own inviteD 39 (.slice Ai r.invites.length ci) r.invites Fi :: blk w1.heap.size #[.bool r.open_, .slice Am r.members.length cm, .slice Ai r.invites.length ci, .slice Ab r.bans.length cb] 28 :: blk W.heap.size #[.bool false, .slice none 0 0, .slice none 0 0, .slice none 0 0] 28 :: L) from by (repeat (first | (with_reducible exact HSB.out.pull4) | (with_reducible apply St.alloc) | (with_reducible apply St.set0) | (with_reducible apply St.set1) | (with_reducible apply St.set2) | (with_reducible apply St.set3) | (with_reducible apply St.drew) | (with_reducible apply St.drewN))); all_goals (try (first | rfl | (simp; done)))) 1 rfl ⟨(k : Int) + 1, x4⟩ rfl (by omega) ?_
                  intro g cap wA FA hSA
                  have HSA := hide hSA.drop2
                  (try clear z0 z1 z2 z3 zf zz)
                  have z := hSA.drop2.drop.at3
                  obtain ⟨z0, z1, z2, z3⟩ := z.c4
                  have zf := z.frozen
                  have zz := z.lt
                  clear z
                  clear hSA)
                go_wp2_with fail
                go_roundg (6 - (k + 1))
                case measure => omega
                case rel =>
                  refine ⟨k + 1, { r with bans := r.bans ++ [⟨(k : Int) + 1, x4⟩] }, Am, cm, Ai, ci, some ⟨g, 0, none⟩, cap, Fm, Fi, FA, by omega, by omega, by go_num, hide (HD.out.addB (m := ⟨(k : Int) + 1, x4⟩) rfl ⟨inB_of (n := (k : Int) + 1) (by omega) (by omega), inB_of (n := x4) (by omega) (by omega)⟩ hno), hide ?_⟩
                  rw [List.length_append]
                  exact St.srcMore (St.push3 (St.push4 (show St w0 _ (blk w1.heap.size #[.bool r.open_, .slice Am r.members.length cm, .slice Ai r.invites.length ci, .slice (some ⟨g, 0, none⟩) (r.bans.length + 1) cap] 28 :: own banD 41 (.slice (some ⟨g, 0, none⟩) (r.bans.length + 1) cap) (r.bans ++ [⟨(k : Int) + 1, x4⟩]) FA :: srcP 67 A code.length c b (N + 4 + 16 * k + 8 + 2 + 2 + 2 + 2) :: own memberD 55 (.slice Am r.members.length cm) r.members Fm :: own inviteD 39 (.slice Ai r.invites.length ci) r.invites Fi :: blk W.heap.size #[.bool false, .slice none 0 0, .slice none 0 0, .slice none 0 0] 28 :: L) from by (repeat (first | (with_reducible exact HSA.out.pull4) | (with_reducible apply St.alloc) | (with_reducible apply St.set0) | (with_reducible apply St.set1) | (with_reducible apply St.set2) | (with_reducible apply St.set3) | (with_reducible apply St.drew) | (with_reducible apply St.drewN))); all_goals (try (first | rfl | (simp; done)))))) (by omega)
              | false =>
                go_wp2_with fail
                go_roundg (6 - (k + 1))
                case measure => omega
                case rel =>
                  refine ⟨k + 1, r, Am, cm, Ai, ci, Ab, cb, Fm, Fi, Fb, by omega, by omega, by go_num, hide (HD.out.skip hno), hide ?_⟩
                  exact St.srcMore HSB.out.drop1 (by omega)
    · obtain rfl : k = 6 := by omega
      have HDR := hide (HD.out.done ho6)
      have z := HS.out.drop.at3
      obtain ⟨z0, z1, z2, z3⟩ := z.c4
      have zf := z.frozen
      have zz := z.lt
      have yb := HS.out.drop.drop.at3
      obtain ⟨y0, y1, y2, y3⟩ := yb.c4
      have yf := yb.frozen
      have yz := yb.lt
      clear z yb
      go_wp2_with fail
      refine bodyPost_ret (v := .agg #[.bool r.open_, .slice Am r.members.length cm, .slice Ai r.invites.length ci, .slice Ab r.bans.length cb]) (by simp [results, Try.results15, go_sem, y0, y1, y2, y3, yf, yz]) rfl ?_
      have hS9 := HS.out.drop.pull3.drop.pull3
      have HS9 := hide hS9
      clear hS9
      exact ⟨r, _, _, _, _, rfl, HDR.out, St.room2 (St.drop (A := blk W.heap.size #[.bool r.open_, .slice Am r.members.length cm, .slice Ai r.invites.length ci, .slice Ab r.bans.length cb] 28) (show St w0 _ (blk W.heap.size #[.bool r.open_, .slice Am r.members.length cm, .slice Ai r.invites.length ci, .slice Ab r.bans.length cb] 28 :: own memberD 55 (.slice Am r.members.length cm) r.members Fm :: own inviteD 39 (.slice Ai r.invites.length ci) r.invites Fi :: own banD 41 (.slice Ab r.bans.length cb) r.bans Fb :: L) from by (repeat (first | (with_reducible exact HS9.out) | (with_reducible apply St.alloc) | (with_reducible apply St.set0) | (with_reducible apply St.set1) | (with_reducible apply St.set2) | (with_reducible apply St.set3) | (with_reducible apply St.drew) | (with_reducible apply St.drewN))); all_goals (try (first | rfl | (simp; done)))))⟩
end Go.Proofs.Ytglhepbcbildpaa
