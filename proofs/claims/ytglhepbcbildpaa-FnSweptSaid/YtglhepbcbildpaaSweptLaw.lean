/- The law of sweeps: its walk. -/
import Derived.Test.YtglhepbcbildpaaR8Room
import Derived.Test.YtglhepbcbildpaaSameRoom
import Derived.Test.YtglhepbcbildpaaSweptPlain
namespace Go.Proofs.Ytglhepbcbildpaa
open Go Go.RowKit Go.BigFrame
attribute [local go_sem] Calm.cell Calm.frozen
set_option linter.unusedVariables false
set_option linter.unusedSimpArgs false
set_option maxRecDepth 100000
set_option maxHeartbeats 32000000 in
theorem fnSwept_c (code more : List UInt8) (v u : Value) (w : World) (hc : SliceK srcD w v code) (hm : SliceK srcD w u more) :
    Calls Try.prog 3 #[v, u] w fun e w' => e = .returned (.bool true) ∧ Below w.heap.size w w' := by
  obtain ⟨A, c, rfl⟩ := hc.shape
  obtain ⟨B, d, rfl⟩ := hm.shape
  have HC := hide hc
  have HM := hide hm
  clear hc hm
  go_enter Try.func3, Try.ntmps3
  go_wp2_with fail
  refine (r8Long_c _ _ _ _ _ _ _).mono ?_
  rintro e w' ⟨rfl, rfl⟩
  cases hlong : (decide (48 < code.length) || decide (48 < more.length)) with
  | true =>
    clear hlong
    go_wp2_with fail
    go_ret
    exact ⟨rfl, Below.refl _ _⟩
  | false =>
    clear hlong
    go_wp2_with fail
    refine (r8Room_c code A c _ HC.out).mono ?_
    rintro e w1 ⟨r, v1, v2, v3, F, rfl, hD, hS1⟩
    obtain ⟨g1, g2, g3⟩ := room_MK hS1.head
    obtain ⟨A1, c1, rfl⟩ := g1.shape
    obtain ⟨A2, c2, rfl⟩ := g2.shape
    obtain ⟨A3, c3, rfl⟩ := g3.shape
    have HD := hide hD
    have HS1 := hide hS1
    clear hD hS1 g1 g2 g3
    go_wp2_with fail
    obtain ⟨W2, hW2⟩ : ∃ V, V = w1.alloc (.cells #[.bool r.open_, .slice A1 r.members.length c1, .slice A2 r.invites.length c2, .slice A3 r.bans.length c3] 28) := ⟨_, rfl⟩
    rw [← hW2]
    have HS2 := hide (show St w W2 (blk w1.heap.size #[.bool r.open_, .slice A1 r.members.length c1, .slice A2 r.invites.length c2, .slice A3 r.bans.length c3] 28 :: [ownD roomD r [.bool r.open_, .slice A1 r.members.length c1, .slice A2 r.invites.length c2, .slice A3 r.bans.length c3] F]) by rw [hW2]; (repeat (first | (with_reducible exact HS1.out) | (with_reducible apply St.alloc) | (with_reducible apply St.set0) | (with_reducible apply St.set1) | (with_reducible apply St.set2) | (with_reducible apply St.set3) | (with_reducible apply St.drew) | (with_reducible apply St.drewN))); all_goals (try (first | rfl | (simp; done))))
    clear hW2
    refine (r8At_c more B d 0 40 _ (HM.out.below HS2.out.below) (by omega) (by omega)).mono ?_
    rintro e w' ⟨a, rfl, a0, a1, rfl⟩
    have hvr := HD.out.v
    have hsp := swept_parts hvr a0 (show a ≤ 1000000 by omega)
    have hso := (swept_ok hvr a0 (show a ≤ 1000000 by omega)).1
    obtain ⟨s, hs⟩ : ∃ s, s = sweepV r a := ⟨_, rfl⟩
    rw [← hs] at hsp
    have SP := hide hsp
    (try clear x0 x1 x2 x3 xz)
    obtain ⟨x0, x1, x2, x3⟩ := (HS2.out.at0).c4
    have xz := (HS2.out.at0).lt
    go_wp2_with fail
    refine (sweepRoom_c r a _ _ _ _ (room_MK HS2.out.drop.head).1 (room_MK HS2.out.drop.head).2.1 (room_MK HS2.out.drop.head).2.2).mono ?_
    rintro e w3 hr
    rw [← hs, hso] at hr
    clear hs hsp hso hvr
    obtain ⟨cs, FS, rfl, hK, hb, hS⟩ := HS2.out.elem2 hr
    obtain ⟨u1, u2, u3, rfl, h1, h2, h3⟩ := room_K hK
    obtain ⟨S1, t1, rfl⟩ := h1.shape
    obtain ⟨S2, t2, rfl⟩ := h2.shape
    obtain ⟨S3, t3, rfl⟩ := h3.shape
    have HS3 := hide hS
    clear hr hK hb hS h1 h2 h3
    (try clear x0 x1 x2 x3 xz)
    obtain ⟨x0, x1, x2, x3⟩ := (HS3.out.at1).c4
    have xz := (HS3.out.at1).lt
    go_wp2_with fail
    obtain ⟨W4, hW⟩ : ∃ V, V = w3.alloc (.cells #[.bool s.open_, .slice S1 s.members.length t1, .slice S2 s.invites.length t2, .slice S3 s.bans.length t3] 28) := ⟨_, rfl⟩
    rw [← hW]
    have HS4 := hide (show St w W4 (blk w3.heap.size #[.bool s.open_, .slice S1 s.members.length t1, .slice S2 s.invites.length t2, .slice S3 s.bans.length t3] 28 :: ownD roomD s [.bool s.open_, .slice S1 s.members.length t1, .slice S2 s.invites.length t2, .slice S3 s.bans.length t3] FS :: blk w1.heap.size #[.bool r.open_, .slice A1 r.members.length c1, .slice A2 r.invites.length c2, .slice A3 r.bans.length c3] 28 :: [ownD roomD r [.bool r.open_, .slice A1 r.members.length c1, .slice A2 r.invites.length c2, .slice A3 r.bans.length c3] F]) by rw [hW]; (repeat (first | (with_reducible exact HS3.out) | (with_reducible apply St.alloc) | (with_reducible apply St.set0) | (with_reducible apply St.set1) | (with_reducible apply St.set2) | (with_reducible apply St.set3) | (with_reducible apply St.drew) | (with_reducible apply St.drewN))); all_goals (try (first | rfl | (simp; done))))
    clear hW
    refine (sweepRoom_c s a _ _ _ _ (room_MK HS4.out.drop.head).1 (room_MK HS4.out.drop.head).2.1 (room_MK HS4.out.drop.head).2.2).mono ?_
    rintro e w5 hr
    rw [SP.out.2.1, SP.out.2.2.1] at hr
    obtain ⟨cs, FG, rfl, hK, hb, hS⟩ := HS4.out.elem2 hr
    obtain ⟨u1, u2, u3, rfl, h1, h2, h3⟩ := room_K hK
    obtain ⟨G1, g1, rfl⟩ := h1.shape
    obtain ⟨G2, g2, rfl⟩ := h2.shape
    obtain ⟨G3, g3, rfl⟩ := h3.shape
    have HS5 := hide hS
    clear hr hK hb hS h1 h2 h3
    (try clear x0 x1 x2 x3 xz)
    obtain ⟨x0, x1, x2, x3⟩ := (HS5.out.at3).c4
    have xz := (HS5.out.at3).lt
    (try clear y0 y1 y2 y3 yz)
    obtain ⟨y0, y1, y2, y3⟩ := (HS5.out.at1).c4
    have yz := (HS5.out.at1).lt
    go_wp2_with fail
    obtain ⟨W6, hW⟩ : ∃ V, V = w5.alloc (.cells #[.bool s.open_, .slice G1 s.members.length g1, .slice G2 s.invites.length g2, .slice G3 s.bans.length g3] 28) := ⟨_, rfl⟩
    rw [← hW]
    have HS6 := hide (show St w W6 (blk w5.heap.size #[.bool s.open_, .slice G1 s.members.length g1, .slice G2 s.invites.length g2, .slice G3 s.bans.length g3] 28 :: ownD roomD s [.bool s.open_, .slice G1 s.members.length g1, .slice G2 s.invites.length g2, .slice G3 s.bans.length g3] FG :: blk w3.heap.size #[.bool s.open_, .slice S1 s.members.length t1, .slice S2 s.invites.length t2, .slice S3 s.bans.length t3] 28 :: ownD roomD s [.bool s.open_, .slice S1 s.members.length t1, .slice S2 s.invites.length t2, .slice S3 s.bans.length t3] FS :: blk w1.heap.size #[.bool r.open_, .slice A1 r.members.length c1, .slice A2 r.invites.length c2, .slice A3 r.bans.length c3] 28 :: [ownD roomD r [.bool r.open_, .slice A1 r.members.length c1, .slice A2 r.invites.length c2, .slice A3 r.bans.length c3] F]) by rw [hW]; (repeat (first | (with_reducible exact HS5.out) | (with_reducible apply St.alloc) | (with_reducible apply St.set0) | (with_reducible apply St.set1) | (with_reducible apply St.set2) | (with_reducible apply St.set3) | (with_reducible apply St.drew) | (with_reducible apply St.drewN))); all_goals (try (first | rfl | (simp; done))))
    clear hW
    refine (ranksOf_c r _ _ _ _ (room_MK HS6.out.drop.drop.drop.drop.drop.head).1 (room_MK HS6.out.drop.drop.drop.drop.drop.head).2.1 (room_MK HS6.out.drop.drop.drop.drop.drop.head).2.2).mono ?_
    rintro e w7 ⟨vr, rfl, hmade, hb⟩
    rw [valid_iff.2 HD.out.v]
    obtain ⟨FR, hS⟩ := HS6.out.made hmade hb
    obtain ⟨Q, rc, rfl⟩ := hmade.shape
    have HS7 := hide hS
    clear hmade hb hS
    have hrl := ranks_len HD.out.v
    have HRL := hide hrl
    rw [hrl]
    clear hrl
    (try clear x0 x1 x2 x3 xz)
    obtain ⟨x0, x1, x2, x3⟩ := (HS7.out.drop.drop.at3).c4
    have xz := (HS7.out.drop.drop.at3).lt
    go_wp2_with fail
    refine (countRoles_c r _ _ _ _ (room_MK HS7.out.drop.drop.drop.drop.drop.drop.head).1 (room_MK HS7.out.drop.drop.drop.drop.drop.drop.head).2.1 (room_MK HS7.out.drop.drop.drop.drop.drop.drop.head).2.2).mono ?_
    rintro e w8 ⟨vc, rfl, hmade, hb⟩
    rw [valid_iff.2 HD.out.v]
    obtain ⟨FC, hS⟩ := HS7.out.made hmade hb
    obtain ⟨Qc, cc, rfl⟩ := hmade.shape
    clear hmade hb
    obtain ⟨e4, hsum, hown⟩ := counts_parts HD.out.v
    have hn0 := roleN_nn r.members 0
    have hn1 := roleN_nn r.members 1
    have hn2 := roleN_nn r.members 2
    have hn3 := roleN_nn r.members 3
    obtain ⟨k0, hk0⟩ : ∃ k, k = roleN r.members 0 := ⟨_, rfl⟩
    obtain ⟨k1, hk1⟩ : ∃ k, k = roleN r.members 1 := ⟨_, rfl⟩
    obtain ⟨k2, hk2⟩ : ∃ k, k = roleN r.members 2 := ⟨_, rfl⟩
    obtain ⟨k3, hk3⟩ : ∃ k, k = roleN r.members 3 := ⟨_, rfl⟩
    rw [← hk0, ← hk1, ← hk2, ← hk3] at e4 hsum
    rw [← hk3] at hown
    rw [← hk0] at hn0
    rw [← hk1] at hn1
    rw [← hk2] at hn2
    rw [← hk3] at hn3
    clear hk0 hk1 hk2 hk3
    have hcl : (countL r).length = 4 := by rw [e4]; rfl
    obtain ⟨⟨qc, rfl⟩, -, -⟩ := St.hasBlk (d := intD) rfl hS (show (countL r)[0]? = some k0 by rw [e4]; rfl)
    rw [hcl]
    have HS8 := hide hS
    have E4 := hide e4
    have hm6 : (r.members.length : Int) ≤ 6 := by have := HD.out.len; omega
    clear hS e4 hcl
    (try clear x0 x1 x2 x3 xz)
    obtain ⟨x0, x1, x2, x3⟩ := (HS8.out.drop.drop.drop.at3).c4
    have xz := (HS8.out.drop.drop.drop.at3).lt
    (try clear y0 y1 y2 y3 yz)
    obtain ⟨y0, y1, y2, y3⟩ := (HS8.out.drop.at3).c4
    have yz := (HS8.out.drop.at3).lt
    (try clear z0 z1 z2 z3 zz)
    obtain ⟨z0, z1, z2, z3⟩ := (HS8.out.at2).c4
    have zz := (HS8.out.at2).lt
    have KG := hide (room_MK HS8.out.drop.drop.drop.head)
    have KS := hide (room_MK HS8.out.drop.drop.drop.drop.drop.head)
    obtain ⟨d0, df, dz⟩ := St.flatCell (d := intD) rfl HS8.out (show (countL r)[0]? = some k0 by rw [E4.out]; rfl)
    obtain ⟨d1, -, -⟩ := St.flatCell (d := intD) rfl HS8.out (show (countL r)[1]? = some k1 by rw [E4.out]; rfl)
    obtain ⟨d2, -, -⟩ := St.flatCell (d := intD) rfl HS8.out (show (countL r)[2]? = some k2 by rw [E4.out]; rfl)
    obtain ⟨d3, -, -⟩ := St.flatCell (d := intD) rfl HS8.out (show (countL r)[3]? = some k3 by rw [E4.out]; rfl)
    replace d0 : w8.cell? ⟨qc, 0, none⟩ = some (.int .i64 k0) := d0 0 _ rfl
    replace d1 : w8.cell? ⟨qc, 1, none⟩ = some (.int .i64 k1) := d1 0 _ rfl
    replace d2 : w8.cell? ⟨qc, 2, none⟩ = some (.int .i64 k2) := d2 0 _ rfl
    replace d3 : w8.cell? ⟨qc, 3, none⟩ = some (.int .i64 k3) := d3 0 _ rfl
    have hk1 : ¬ k3 < 1 := by omega
    go_wp2_with fail
    (refine wp_region_calm (by kernel_rfl) (by kernel_rfl) ?_; simp only [List.append_eq, List.cons_append, List.nil_append]; (repeat (first | go_big_quiet_skip | (go_big_quiet_want; go_big_quiet_op; (first | go_big_quiet_on | (apply Exists.intro; refine ⟨fun ic => ?_, ?_⟩; (focus (first | (go_at_call 10; refine (sameRoom_c s _ _ _ _ _ _ _ (KG.out.1.below ic.below) (KG.out.2.1.below ic.below) (KG.out.2.2.below ic.below) (KS.out.1.below ic.below) (KS.out.2.1.below ic.below) (KS.out.2.2.below ic.below)).mono ?_; rintro e w9 ⟨rfl, hb⟩; exact ⟨rfl, Calm.next _ hb⟩) | (go_at_call 11; refine (validRoom_c s _ _ _ _ (KS.out.1.below ic.below) (KS.out.2.1.below ic.below) (KS.out.2.2.below ic.below)).mono ?_; rintro e w9 ⟨rfl, hb⟩; rw [valid_iff.2 SP.out.1]; exact ⟨rfl, Calm.next _ hb⟩); done)); go_big_quiet_on))))); refine wpQuiet_nil ?_; intro wq hwq; obtain ⟨iq, hwe⟩ := hwq; subst hwe)
    have HS9 := hide (HS8.out.by iq.below)
    obtain ⟨wB, hwB⟩ : ∃ V, V = iq.world := ⟨_, rfl⟩
    rw [← hwB] at HS9 ⊢
    clear hwB x0 x1 x2 x3 xz y0 y1 y2 y3 yz z0 z1 z2 z3 zz d0 d1 d2 d3 df dz
    (try clear x0 x1 x2 x3 xz)
    obtain ⟨x0, x1, x2, x3⟩ := (HS9.out.drop.drop.drop.at3).c4
    have xz := (HS9.out.drop.drop.drop.at3).lt
    (try clear y0 y1 y2 y3 yz)
    obtain ⟨y0, y1, y2, y3⟩ := (HS9.out.drop.at3).c4
    have yz := (HS9.out.drop.at3).lt
    go_wp2_with fail
    go_loopg [15] s.invites.length (fun gg s15 wr => ∃ k : Nat, k ≤ s.invites.length ∧ s.invites.length - k ≤ gg ∧ s15 = .int .i64 k ∧ wB = wr)
    case atStart => exact ⟨0, Nat.zero_le _, by omega, rfl, rfl⟩
    case round =>
      obtain ⟨k, hk, hg, rfl, rfl⟩ := hrel
      by_cases hlt : k < s.invites.length
      · obtain ⟨y, hy⟩ : ∃ y, s.invites[k]? = some y := ⟨_, List.getElem?_eq_getElem hlt⟩
        obtain ⟨A2', c2', heq, hlc, hmx, hra⟩ := (room_MK HS9.out.drop.drop.drop.drop.drop.head).2.1
        simp only [Value.slice.injEq] at heq
        obtain ⟨rfl, -, rfl⟩ := heq
        rcases hra with hnil | ⟨q, o2, rfl, hra⟩
        · rw [hnil] at hlt; simp at hlt
        obtain ⟨hq, hc0, hc1, hc2⟩ := invite_at hra (Below.refl _ _) hy
        have hno := SP.out.2.2.2.1 y (List.mem_of_getElem? hy)
        have hlt2 : (k : Int) < (s.invites.length : Int) := by omega
        clear hy hra
        go_wp2_with fail
        go_roundg (s.invites.length - (k + 1))
        case measure => omega
        case rel => exact ⟨k + 1, by omega, by omega, by go_num, rfl⟩
      · obtain rfl : k = s.invites.length := by omega
        clear hlt hk hg
        go_wp2_with fail
        go_loopg [16] s.bans.length (fun gg s16 wr => ∃ k : Nat, k ≤ s.bans.length ∧ s.bans.length - k ≤ gg ∧ s16 = .int .i64 k ∧ wB = wr)
        case atStart => exact ⟨0, Nat.zero_le _, by omega, rfl, rfl⟩
        case round =>
          obtain ⟨k, hk, hg, rfl, rfl⟩ := hrel
          by_cases hlt : k < s.bans.length
          · obtain ⟨y, hy⟩ : ∃ y, s.bans[k]? = some y := ⟨_, List.getElem?_eq_getElem hlt⟩
            obtain ⟨A2', c2', heq, hlc, hmx, hra⟩ := (room_MK HS9.out.drop.drop.drop.drop.drop.head).2.2
            simp only [Value.slice.injEq] at heq
            obtain ⟨rfl, -, rfl⟩ := heq
            rcases hra with hnil | ⟨q, o2, rfl, hra⟩
            · rw [hnil] at hlt; simp at hlt
            obtain ⟨hq, hc0, hc1⟩ := ban_at hra (Below.refl _ _) hy
            have hno := SP.out.2.2.2.2.1 y (List.mem_of_getElem? hy)
            have hlt2 : (k : Int) < (s.bans.length : Int) := by omega
            clear hy hra
            go_wp2_with fail
            go_roundg (s.bans.length - (k + 1))
            case measure => omega
            case rel => exact ⟨k + 1, by omega, by omega, by go_num, rfl⟩
          · obtain rfl : k = s.bans.length := by omega
            clear hlt hk hg
            go_wp2_with fail
            go_loopg [17, 18] 6 (fun gg s17 s18 wr => ∃ k : Nat, k ≤ 6 ∧ 6 - k ≤ gg ∧ s17 = .int .i64 ((k : Int) + 1) ∧ Hid (St w wr (own intD 2 (.slice (some ⟨qc, 0, none⟩) (countL r).length cc) (countL r) FC :: own intD 2 (.slice Q (ranksV r).length rc) (ranksV r) FR :: blk w5.heap.size #[.bool s.open_, .slice G1 s.members.length g1, .slice G2 s.invites.length g2, .slice G3 s.bans.length g3] 28 :: ownD roomD s [.bool s.open_, .slice G1 s.members.length g1, .slice G2 s.invites.length g2, .slice G3 s.bans.length g3] FG :: blk w3.heap.size #[.bool s.open_, .slice S1 s.members.length t1, .slice S2 s.invites.length t2, .slice S3 s.bans.length t3] 28 :: ownD roomD s [.bool s.open_, .slice S1 s.members.length t1, .slice S2 s.invites.length t2, .slice S3 s.bans.length t3] FS :: blk w1.heap.size #[.bool r.open_, .slice A1 r.members.length c1, .slice A2 r.invites.length c2, .slice A3 r.bans.length c3] 28 :: [ownD roomD r [.bool r.open_, .slice A1 r.members.length c1, .slice A2 r.invites.length c2, .slice A3 r.bans.length c3] F])))
            case atStart => exact ⟨0, by omega, by omega, rfl, HS9⟩
            case round =>
              obtain ⟨k, hk, hg, rfl, HA⟩ := hrel
              obtain ⟨wP, hwP⟩ : ∃ V, V = wr := ⟨_, rfl⟩
              rw [← hwP] at HA ⊢
              clear hwP
              by_cases hlt : k < 6
              · have hlt2 : (k : Int) + 1 ≤ 6 := by omega
                go_wp2_with fail
                go_loopg [18] 9 (fun gg s18 wr => ∃ j : Nat, j ≤ 9 ∧ 9 - j ≤ gg ∧ s18 = .int .i64 j ∧ Hid (St w wr (own intD 2 (.slice (some ⟨qc, 0, none⟩) (countL r).length cc) (countL r) FC :: own intD 2 (.slice Q (ranksV r).length rc) (ranksV r) FR :: blk w5.heap.size #[.bool s.open_, .slice G1 s.members.length g1, .slice G2 s.invites.length g2, .slice G3 s.bans.length g3] 28 :: ownD roomD s [.bool s.open_, .slice G1 s.members.length g1, .slice G2 s.invites.length g2, .slice G3 s.bans.length g3] FG :: blk w3.heap.size #[.bool s.open_, .slice S1 s.members.length t1, .slice S2 s.invites.length t2, .slice S3 s.bans.length t3] 28 :: ownD roomD s [.bool s.open_, .slice S1 s.members.length t1, .slice S2 s.invites.length t2, .slice S3 s.bans.length t3] FS :: blk w1.heap.size #[.bool r.open_, .slice A1 r.members.length c1, .slice A2 r.invites.length c2, .slice A3 r.bans.length c3] 28 :: [ownD roomD r [.bool r.open_, .slice A1 r.members.length c1, .slice A2 r.invites.length c2, .slice A3 r.bans.length c3] F])))
                case atStart => exact ⟨0, by omega, by omega, rfl, HA⟩
                case round =>
                  obtain ⟨j, hj, hgj, rfl, HJ⟩ := hrel
                  by_cases hlj : j < 9
                  · have hlj2 : (j : Int) < 9 := by omega
                    have KR := hide (room_MK HJ.out.drop.drop.drop.drop.drop.drop.drop.head)
                    have KT := hide (room_MK HJ.out.drop.drop.drop.drop.drop.head)
                    (try clear x0 x1 x2 x3 xz y0 y1 y2 y3 yz)
                    (try clear x0 x1 x2 x3 xz)
                    obtain ⟨x0, x1, x2, x3⟩ := (HJ.out.drop.drop.drop.at3).c4
                    have xz := (HJ.out.drop.drop.drop.at3).lt
                    (try clear y0 y1 y2 y3 yz)
                    obtain ⟨y0, y1, y2, y3⟩ := (HJ.out.drop.at3).c4
                    have yz := (HJ.out.drop.at3).lt
                    go_wp2_with fail
                    (refine wp_region_calm (by kernel_rfl) (by kernel_rfl) ?_; (repeat (first | go_big_quiet_skip | (go_big_quiet_want; go_big_quiet_op; (first | go_big_quiet_on | (apply Exists.intro; refine ⟨fun ic => ?_, ?_⟩; (focus (first | (go_at_call 12; with_reducible refine (isAllowed_c r _ _ _ ((k : Int) + 1) j a _ (KR.out.1.below ic.below) (KR.out.2.1.below ic.below) (KR.out.2.2.below ic.below)).mono ?_; rintro e w9 ⟨rfl, hb⟩; exact ⟨rfl, Calm.next _ hb⟩) | (go_at_call 12; with_reducible refine (isAllowed_c s _ _ _ ((k : Int) + 1) j a _ (KT.out.1.below ic.below) (KT.out.2.1.below ic.below) (KT.out.2.2.below ic.below)).mono ?_; rintro e w9 ⟨rfl, hb⟩; rw [SP.out.2.2.2.2.2]; exact ⟨rfl, Calm.next _ hb⟩); done)); go_big_quiet_on))))); refine wpQuiet_nil ?_; intro wq hwq; obtain ⟨iq, hwe⟩ := hwq; subst hwe)
                    have HJ2 := hide (HJ.out.by iq.below)
                    go_wp2_with fail
                    go_roundg (9 - (j + 1))
                    case measure => omega
                    case rel => exact ⟨j + 1, by omega, by omega, by go_num, HJ2⟩
                  · obtain rfl : j = 9 := by omega
                    go_wp2_with fail
                    go_roundg (6 - (k + 1))
                    case measure => omega
                    case rel => exact ⟨k + 1, by omega, by omega, by go_num, HJ⟩
              · obtain rfl : k = 6 := by omega
                go_wp2_with fail
                go_loopg [19, 20, 21, 22] r.members.length (fun gg s19 s20 s21 s22 wr => ∃ k : Nat, k ≤ r.members.length ∧ r.members.length - k ≤ gg ∧ s20 = .int .i64 k ∧ s19 = .int .i64 (lastR (rankS r.members) k) ∧ Hid (St w wr (own intD 2 (.slice (some ⟨qc, 0, none⟩) (countL r).length cc) (countL r) FC :: own intD 2 (.slice Q (ranksV r).length rc) (ranksV r) FR :: blk w5.heap.size #[.bool s.open_, .slice G1 s.members.length g1, .slice G2 s.invites.length g2, .slice G3 s.bans.length g3] 28 :: ownD roomD s [.bool s.open_, .slice G1 s.members.length g1, .slice G2 s.invites.length g2, .slice G3 s.bans.length g3] FG :: blk w3.heap.size #[.bool s.open_, .slice S1 s.members.length t1, .slice S2 s.invites.length t2, .slice S3 s.bans.length t3] 28 :: ownD roomD s [.bool s.open_, .slice S1 s.members.length t1, .slice S2 s.invites.length t2, .slice S3 s.bans.length t3] FS :: blk w1.heap.size #[.bool r.open_, .slice A1 r.members.length c1, .slice A2 r.invites.length c2, .slice A3 r.bans.length c3] 28 :: [ownD roomD r [.bool r.open_, .slice A1 r.members.length c1, .slice A2 r.invites.length c2, .slice A3 r.bans.length c3] F])))
                case atStart => exact ⟨0, Nat.zero_le _, by omega, rfl, rfl, HA⟩
                case round =>
                  obtain ⟨k, hk, hg, rfl, rfl, HK⟩ := hrel
                  by_cases hlt : k < r.members.length
                  · obtain ⟨x, hx⟩ : ∃ x, (ranksV r)[k]? = some x := ⟨_, List.getElem?_eq_getElem (by rw [HRL.out]; exact hlt)⟩
                    obtain ⟨m, hm, ho, hv, hle⟩ := ranks_at HD.out.v hx
                    have hls := lastR_succ hm
                    obtain ⟨⟨qr, rfl⟩, -, -⟩ := St.hasBlk (d := intD) rfl HK.out.drop hx
                    obtain ⟨f0, ff, fz⟩ := St.flatCell (d := intD) rfl HK.out.drop hx
                    replace f0 := f0 0 _ rfl
                    have f0 : wr.cell? ⟨qr, k, none⟩ = some (.int .i64 x) := by simpa using f0
                    have hno : ¬ lastR (rankS r.members) k < m.role := by omega
                    have hlt2 : (k : Int) < (r.members.length : Int) := by omega
                    have KR := hide (room_MK HK.out.drop.drop.drop.drop.drop.drop.drop.head)
                    have HO := hide (And.intro ho hv)
                    have HLS := hide hls
                    (try clear x0 x1 x2 x3 xz y0 y1 y2 y3 yz)
                    (try clear x0 x1 x2 x3 xz)
                    obtain ⟨x0, x1, x2, x3⟩ := (HK.out.drop.drop.drop.at3).c4
                    have xz := (HK.out.drop.drop.drop.at3).lt
                    clear hx hm ho hv hls hle ff
                    go_wp2_with fail
                    (refine wp_region_calm (by kernel_rfl) (by kernel_rfl) ?_; (repeat (first | go_big_quiet_skip | (go_big_quiet_want; go_big_quiet_op; (first | go_big_quiet_on | (apply Exists.intro; refine ⟨fun ic => ?_, ?_⟩; (focus (go_at_call 13; refine (roleOf_c r x _ _ _ _ (KR.out.1.below ic.below) (KR.out.2.1.below ic.below) (KR.out.2.2.below ic.below)).mono ?_; rintro e w9 ⟨rfl, hb⟩; rw [HO.out.1, HO.out.2]; exact ⟨rfl, Calm.next _ hb⟩; done)); go_big_quiet_on))))); refine wpQuiet_nil ?_; intro wq hwq; obtain ⟨iq, hwe⟩ := hwq; subst hwe)
                    have HK2 := hide (HK.out.by iq.below)
                    go_wp2_with fail
                    go_roundg (r.members.length - (k + 1))
                    case measure => omega
                    case rel => exact ⟨k + 1, by omega, by omega, by go_num, by rw [HLS.out], HK2⟩
                  · obtain rfl : k = r.members.length := by omega
                    go_wp2_with fail
                    go_ret
                    exact ⟨rfl, HK.out.below⟩
end Go.Proofs.Ytglhepbcbildpaa
