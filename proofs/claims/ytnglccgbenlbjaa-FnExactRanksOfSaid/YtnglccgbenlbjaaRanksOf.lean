/- Ranks: the program's call and the reference's. -/
import Derived.Test.YtnglccgbenlbjaaRest
import Derived.Test.YtnglccgbenlbjaaRoles
import Derived.Test.YtnglccgbenlbjaaRanks
import Derived.Test.YtnglccgbenlbjaaSpecRoom
namespace Go.Proofs.Ytnglccgbenlbjaa
open Go Go.RowKit Go.BigFrame
set_option linter.unusedVariables false
set_option linter.unusedSimpArgs false
def ranksV (r : Room) : List Int := if validRoomB r then (rankS r.members).map Member.id else []
theorem ranksV_len (r : Room) : (ranksV r).length ≤ 32 := by
  unfold ranksV
  split
  · rename_i h
    rw [List.length_map, (rankS_perm _).length_eq]
    exact (valid_iff.1 h).m32
  · simp
set_option maxHeartbeats 4000000 in
theorem ranksOf_c (r : Room) (v1 v2 v3 : Value) (w : World) (h1 : SliceK memberD w v1 r.members) (h2 : SliceK inviteD w v2 r.invites) (h3 : SliceK banD w v3 r.bans) :
    Calls Try.prog 8 #[.agg #[.bool r.open_, v1, v2, v3]] w (RetRow2 intD 2 w (ranksV r) (validRoomB r)) := by
  obtain ⟨A1, c1, rfl⟩ := h1.shape
  obtain ⟨A2, c2, rfl⟩ := h2.shape
  obtain ⟨A3, c3, rfl⟩ := h3.shape
  have HW := hide ((Below.refl w.heap.size w).alloc (Nat.le_refl _) (.cells #[.bool r.open_, .slice A1 r.members.length c1, .slice A2 r.invites.length c2, .slice A3 r.bans.length c3] 35))
  have HBX := hide (RowAt.box (d := roomD) (x := r) (room_K_mk h1 h2 h3) (arr := #[.bool r.open_, .slice A1 r.members.length c1, .slice A2 r.invites.length c2, .slice A3 r.bans.length c3]) rfl 35)
  have HK := hide (And.intro (h1.below HW.out) (And.intro (h2.below HW.out) (h3.below HW.out)))
  clear h1 h2 h3
  by_cases hv : validRoomB r = true
  · have HV := hide hv
    have HR := hide (show ranksV r = (rankS r.members).map Member.id by unfold ranksV; rw [hv]; rfl)
    have HFE := hide (fewR_of hv)
    have HD := hide (show DistId r.members from (valid_iff.1 hv).mp)
    clear hv
    go_enter Try.func8, Try.ntmps8
    go_wp2_with (first
      | (go_at_call 26
         refine (validRoom_c r _ _ _ _ HK.out.1 HK.out.2.1 HK.out.2.2).mono ?_
         rintro e w1 ⟨rfl, hb⟩
         rw [HV.out]
         have HB1 := hide hb
         clear hb)
      | (go_at_call 27
         refine (ranks_c r _ _ _ (HBX.out.below HB1.out) HFE.out HD.out).mono ?_
         rintro e w2 ⟨v, rfl, hmade, hb⟩
         obtain ⟨A, c, rfl⟩ := hmade.shape
         simp only [List.length_map] at hmade
         have HM := hide hmade
         have HB2 := hide hb
         clear hmade hb))
    go_ret2
    rw [HR.out, HV.out]
    have hs := below_step HW.out HB1.out
    exact ⟨_, rfl, HM.out.lower hs.size, below_step hs HB2.out⟩
  · have HV := hide (show validRoomB r = false by simpa using hv)
    have HR := hide (show ranksV r = [] by unfold ranksV; rw [HV.out]; rfl)
    clear hv
    go_enter Try.func8, Try.ntmps8
    go_wp2_with (
      go_at_call 26
      refine (validRoom_c r _ _ _ _ HK.out.1 HK.out.2.1 HK.out.2.2).mono ?_
      rintro e w1 ⟨rfl, hb⟩
      rw [HV.out]
      have HB1 := hide (below_step HW.out hb)
      clear hb)
    go_ret2
    rw [HR.out, HV.out]
    exact ⟨_, rfl, MadeNone _ _, HB1.out⟩
set_option maxHeartbeats 8000000 in
set_option maxRecDepth 100000 in
theorem specRanksOf_c (r : Room) (v1 v2 v3 : Value) (w : World) (h1 : SliceK memberD w v1 r.members) (h2 : SliceK inviteD w v2 r.invites) (h3 : SliceK banD w v3 r.bans) :
    Calls Try.prog 6 #[.agg #[.bool r.open_, v1, v2, v3]] w (RetRow2 intD 2 w (ranksV r) (validRoomB r)) := by
  obtain ⟨A1, c1, rfl⟩ := h1.shape
  obtain ⟨A2, c2, rfl⟩ := h2.shape
  obtain ⟨A3, c3, rfl⟩ := h3.shape
  have H1 := hide h1
  have H2 := hide h2
  have H3 := hide h3
  clear h1 h2 h3
  have HS0 := hide (show St w (w.alloc (.cells #[.bool r.open_, .slice A1 r.members.length c1, .slice A2 r.invites.length c2, .slice A3 r.bans.length c3] 35)) [blk w.heap.size #[.bool r.open_, .slice A1 r.members.length c1, .slice A2 r.invites.length c2, .slice A3 r.bans.length c3] 35] from (St.start w).alloc rfl)
  have HR0 := hide (Blk.rowAt (d := roomD) (x := r) HS0.out.at0 (room_K_mk (H1.out.below HS0.out.below) (H2.out.below HS0.out.below) (H3.out.below HS0.out.below)) rfl)
  by_cases hv : validRoomB r = true
  · have HV := hide hv
    have HR := hide (show ranksV r = (rankS r.members).map Member.id by unfold ranksV; rw [hv]; rfl)
    have h40 := (fewR_of hv).1
    have HD0 := hide (show DistId r.members from (valid_iff.1 hv).mp)
    clear hv
    go_enter Try.func6, Try.ntmps6
    go_wp2_with (first
      | (go_at_call 20
         refine (l02Is_c r _ _ _ HR0.out).mono ?_
         rintro e w1 ⟨rfl, hb⟩
         rw [HV.out]
         have HS1 := hide (HS0.out.by hb)
         obtain ⟨y0, y1, y2, y3⟩ := HS1.out.at0.c4
         have yz := HS1.out.at0.lt
         clear hb)
      | (at_builtin
         refine wpList_copy_st (d := memberD) rfl (w0 := w) (L := [blk w.heap.size #[.bool r.open_, .slice A1 r.members.length c1, .slice A2 r.invites.length c2, .slice A3 r.bans.length c3] 35]) _ rfl _ _ _ rfl (.agg #[.int .i64 0, .int .i64 0, .int .i64 0, .int .i64 0]) 32 Try.underlying31 infoMember rfl (by omega) (by omega) w1.heap.size rfl (by (repeat (first | (with_reducible exact HS1.out) | (with_reducible apply St.alloc) | (with_reducible apply St.set0) | (with_reducible apply St.set1) | (with_reducible apply St.set2) | (with_reducible apply St.set3) | (with_reducible apply St.drew) | (with_reducible apply St.drewN))); all_goals (try (first | rfl | (simp; done)))) A1 _ c1 r.members rfl rfl (H1.out.below (HS1.out.below.trans (((Below.refl _ _).alloc (Nat.le_refl _) _).mono HS1.out.size))) (by omega) ?_
         intro D1 d1 w2 F2 hch hS
         have HS2 := hide hS
         clear hS hch))
    go_loopg [4, 5] r.members.length (fun gg s4 s5 wr => ∃ (l : List Member) (outs : List Int) (A4 : Option Addr) (c4 : Nat) (F4 : List Nat) (A5 : Option Addr) (c5 : Nat) (F5 : List Nat), l.length ≤ gg ∧ l.length ≤ 40 ∧ outs.length ≤ 40 ∧ s4 = .slice A4 l.length c4 ∧ s5 = .slice A5 outs.length c5 ∧ Hid (outs.length + l.length ≤ 40 ∧ DistId l ∧ outs ++ (rankS l).map Member.id = (rankS r.members).map Member.id) ∧ Hid (St w wr (own memberD 53 (.slice A4 l.length c4) l F4 :: own intD 2 (.slice A5 outs.length c5) outs F5 :: [])))
    case atStart =>
      refine ⟨r.members, [], D1, d1, F2, _, _, _, Nat.le_refl _, h40, by simp, rfl, rfl, hide ⟨by simpa using h40, HD0.out, rfl⟩, hide (St.pull1 (St.empty (show St w _ (blk w2.heap.size #[] 2 :: own memberD 53 (.slice D1 r.members.length d1) r.members F2 :: []) from by (repeat (first | (with_reducible exact HS2.out.drop1) | (with_reducible apply St.alloc) | (with_reducible apply St.set0) | (with_reducible apply St.set1) | (with_reducible apply St.set2) | (with_reducible apply St.set3) | (with_reducible apply St.drew) | (with_reducible apply St.drewN))); all_goals (try (first | rfl | (simp; done))))))⟩
    case round =>
      obtain ⟨l, outs, A4, c4, F4, A5, c5, F5, hg, hl40, ho40, rfl, rfl, HI, HS⟩ := hrel
      by_cases hlt : 0 < l.length
      · obtain ⟨wr2, rfl⟩ : ∃ V : World, V = wr := ⟨_, rfl⟩
        obtain ⟨⟨q, rfl⟩, -, hle⟩ := St.hasBlk (d := memberD) rfl HS.out (List.getElem?_eq_getElem hlt)
        have hlt2 : (0 : Int) < (l.length : Int) := by omega
        go_wp2_with fail
        go_loopg [6, 7] l.length (fun gg s6 s7 wr => ∃ (k i : Nat), k < l.length ∧ i ≤ l.length ∧ l.length - i ≤ gg ∧ s6 = .int .i64 k ∧ s7 = .int .i64 i ∧ Hid (BestAt l k i) ∧ Hid (St w wr (own memberD 53 (.slice (some ⟨q, 0, none⟩) l.length c4) l F4 :: own intD 2 (.slice A5 outs.length c5) outs F5 :: [])))
        case atStart => exact ⟨0, 1, hlt, by omega, by omega, rfl, rfl, hide (BestAt.start hlt), HS⟩
        case round =>
          obtain ⟨k, i, hk, hi, hgi, rfl, rfl, HB, HSi⟩ := hrel
          obtain ⟨b, hb⟩ : ∃ b, l[k]? = some b := ⟨_, List.getElem?_eq_getElem hk⟩
          have hkl : (k : Int) < (l.length : Int) := by omega
          have HBB := hide hb
          by_cases hil : i < l.length
          · obtain ⟨x, hx⟩ : ∃ x, l[i]? = some x := ⟨_, List.getElem?_eq_getElem hil⟩
            have hil2 : (i : Int) < (l.length : Int) := by omega
            have HX := hide hx
            have HROW := hide (show RowAt memberD wr q 0 l by
              obtain ⟨A8, c8, hv8, _, _, hra⟩ := HSi.out.toK
              simp only [Value.slice.injEq] at hv8
              rcases hra with h0 | ⟨b8, o8, h8, hra⟩
              · rw [h0] at hlt; simp at hlt
              · rw [h8] at hv8
                simp only [Option.some.injEq, Addr.mk.injEq] at hv8
                obtain ⟨⟨rfl, rfl, _⟩, _⟩ := hv8
                exact hra)
            have HP1 := hide (show RowAt memberD wr q (i * 4) [x] by have := HROW.out.ptr hx; rw [Nat.zero_add] at this; exact this)
            have HP2 := hide (show RowAt memberD wr q (k * 4) [b] by have := HROW.out.ptr hb; rw [Nat.zero_add] at this; exact this)
            clear hb hx
            by_cases hbf : befM x b = true
            · have HBF := hide hbf
              clear hbf
              go_wp2_with fail
              go_region_with (
                go_at_call 21
                refine (l02Before_c x b _ _ _ _ _ (HP1.out.below (by first | exact Below.refl _ _ | exact (Below.refl _ _).drew)) (HP2.out.below (by first | exact Below.refl _ _ | exact (Below.refl _ _).drew))).mono ?_
                rintro e w5 ⟨rfl, hb5⟩
                rw [HBF.out]
                have HS5 := hide (St.by (by first | exact HSi.out | exact HSi.out.drew) hb5)
                clear hb5)
              all_goals
                go_wp2_with fail
                go_roundg (l.length - (i + 1))
                case measure => omega
                case rel => exact ⟨i, i + 1, hil, by omega, by omega, rfl, by go_num, hide (HB.out.turn HX.out HBB.out HBF.out), HS5⟩
            · have HBF := hide (show befM x b = false by simpa using hbf)
              clear hbf
              go_wp2_with fail
              go_region_with (
                go_at_call 21
                refine (l02Before_c x b _ _ _ _ _ (HP1.out.below (by first | exact Below.refl _ _ | exact (Below.refl _ _).drew)) (HP2.out.below (by first | exact Below.refl _ _ | exact (Below.refl _ _).drew))).mono ?_
                rintro e w5 ⟨rfl, hb5⟩
                rw [HBF.out]
                have HS5 := hide (St.by (by first | exact HSi.out | exact HSi.out.drew) hb5)
                clear hb5)
              all_goals
                go_wp2_with fail
                go_roundg (l.length - (i + 1))
                case measure => omega
                case rel => exact ⟨k, i + 1, hk, by omega, by omega, rfl, by go_num, hide (HB.out.keep HI.out.2.1 HX.out HBB.out HBF.out), HS5⟩
          · obtain rfl : i = l.length := by omega
            obtain ⟨hcw, hfw, hzw⟩ := St.flatCell (d := memberD) rfl HSi.out hb
            obtain ⟨d0, d1', d2, d3⟩ : wr.cell? ⟨q, k * 4, none⟩ = some (.int .i64 b.id) ∧ wr.cell? ⟨q, k * 4 + 1, none⟩ = some (.int .i64 b.role) ∧ wr.cell? ⟨q, k * 4 + 2, none⟩ = some (.int .i64 b.since) ∧ wr.cell? ⟨q, k * 4 + 3, none⟩ = some (.int .i64 b.quiet) := ⟨hcw 0 _ rfl, hcw 1 _ rfl, hcw 2 _ rfl, hcw 3 _ rfl⟩
            have HBM := hide (List.mem_of_getElem? hb)
            clear hb hcw hil
            go_wp2_with (first
              | (at_builtin
                 refine wpList_app1_st (d := intD) (w0 := w) rfl _ rfl _ _ _ rfl (.int .i64 0) 8 Try.underlying28 infoI64 rfl (by omega) (by omega) (.slice A5 outs.length c5) outs F5 rfl wr.heap.size #[.int .i64 b.id] (by (repeat (first | (with_reducible exact HSi.out.pull1) | (with_reducible apply St.alloc) | (with_reducible apply St.set0) | (with_reducible apply St.set1) | (with_reducible apply St.set2) | (with_reducible apply St.set3) | (with_reducible apply St.drew) | (with_reducible apply St.drewN))); all_goals (try (first | rfl | (simp; done)))) 1 rfl b.id rfl (by omega) ?_
                 intro g cap w6 G6 hS
                 have HS6 := hide (St.pull1 hS)
                 obtain ⟨hcw, hfw6, hzw6⟩ := St.flatCell (d := memberD) rfl HS6.out HBB.out
                 have f0 : w6.cell? ⟨q, k * 4, none⟩ = some (.int .i64 b.id) := hcw 0 _ rfl
                 clear hS hcw)
              | (go_at_call 22
                 refine (l02Rest_c l _ b.id _ HS6.out.toK (by omega)).mono ?_
                 rintro e w7 ⟨v7, rfl, hM, hb7⟩
                 obtain ⟨A7, c7, rfl⟩ := hM.shape
                 obtain ⟨F7, hS7⟩ := HS6.out.drop.made hM hb7
                 have HS7 := hide hS7
                 clear hM hb7 hS7))
            have hlen := (cons_drop HI.out.2.1 HBM.out).length_eq
            simp only [List.length_cons] at hlen
            go_roundg (dropP (idIs b.id) l).length
            case measure => omega
            case rel =>
              refine ⟨dropP (idIs b.id) l, outs ++ [b.id], A7, c7, F7, some ⟨g, 0, none⟩, cap, G6, Nat.le_refl _, by omega, by have := HI.out.1; simp; omega, rfl, by simp, hide ⟨by have := HI.out.1; simp; omega, drop_dist HI.out.2.1 _, ?_⟩, hide ?_⟩
              · rw [← HI.out.2.2, rank_best HI.out.2.1 HBM.out (HB.out.all HBB.out)]
                simp
              · have := HS7.out
                simpa using this
      · have hl0 : l = [] := List.length_eq_zero_iff.1 (by omega)
        subst hl0
        go_wp2_with fail
        go_ret2
        have h9 := HS.out.drop
        have hE := HI.out.2.2
        have hrs : rankS [] = [] := (rankS_perm []).eq_nil
        rw [hrs, List.map_nil, List.append_nil] at hE
        rw [HR.out, HV.out, ← hE]
        exact ⟨_, rfl, ⟨F5, h9.head, h9.headN, h9.headG⟩, h9.below⟩
  · have HV := hide (show validRoomB r = false by simpa using hv)
    have HR := hide (show ranksV r = [] by unfold ranksV; rw [HV.out]; rfl)
    clear hv
    go_enter Try.func6, Try.ntmps6
    go_wp2_with (
      go_at_call 20
      refine (l02Is_c r _ _ _ HR0.out).mono ?_
      rintro e w1 ⟨rfl, hb⟩
      rw [HV.out]
      have HS1 := hide (HS0.out.by hb)
      clear hb)
    go_ret2
    rw [HR.out, HV.out]
    exact ⟨_, rfl, MadeNone _ _, HS1.out.below⟩
end Go.Proofs.Ytnglccgbenlbjaa
