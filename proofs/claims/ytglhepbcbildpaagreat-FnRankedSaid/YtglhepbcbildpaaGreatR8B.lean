/- The reference's RoleOf. -/
import Derived.Test.YtglhepbcbildpaaGreatR8
import Derived.Test.YtglhepbcbildpaaGreatSpecRoom
namespace Go.Proofs.YtglhepbcbildpaaGreat
open Go Go.RowKit Go.BigFrame
attribute [local go_sem] Calm.cell Calm.frozen
set_option linter.unusedVariables false
set_option linter.unusedSimpArgs false
set_option maxRecDepth 100000
set_option maxHeartbeats 4000000 in
theorem specRoleOf_c (r : Room) (n : Int) (v1 v2 v3 : Value) (w : World) (h1 : SliceK memberD w v1 r.members) (h2 : SliceK inviteD w v2 r.invites) (h3 : SliceK banD w v3 r.bans) :
    Calls Tryz.prog 13 #[.agg #[.bool r.open_, v1, v2, v3], .int .i64 n] w fun e w' => e = .returned (.tuple #[.int .i64 (roV r n), .bool (roOk r n)]) ∧ Below w.heap.size w w' := by
  obtain ⟨A1, c1, rfl⟩ := h1.shape
  obtain ⟨A2, c2, rfl⟩ := h2.shape
  obtain ⟨A3, c3, rfl⟩ := h3.shape
  have H1 := hide h1
  have H2 := hide h2
  have H3 := hide h3
  clear h1 h2 h3
  have HS0 := hide (show St w (w.alloc (.cells #[.bool r.open_, .slice A1 r.members.length c1, .slice A2 r.invites.length c2, .slice A3 r.bans.length c3] 28)) [blk w.heap.size #[.bool r.open_, .slice A1 r.members.length c1, .slice A2 r.invites.length c2, .slice A3 r.bans.length c3] 28] by (repeat (first | (with_reducible exact St.start w) | (with_reducible apply St.alloc) | (with_reducible apply St.set0) | (with_reducible apply St.set1) | (with_reducible apply St.set2) | (with_reducible apply St.set3) | (with_reducible apply St.drew) | (with_reducible apply St.drewN))); all_goals (try (first | rfl | (simp; done))))
  (try clear x0 x1 x2 x3 xz)
  have x := HS0.out.at0
  obtain ⟨x0, x1, x2, x3⟩ := x.c4
  have xz := x.lt
  clear x
  by_cases hv : validRoomB r = true
  · have HV := hide hv
    by_cases hh : hasId r n = true
    · have HH := hide hh
      obtain ⟨k, m, hk, hlk, hx, hmn⟩ := idxP_found (show 0 ≤ idxP (idIs n) r.members by unfold hasId at hh; simpa using hh)
      have HR := hide (show roV r n = m.role by unfold roV roOk; rw [hv, hh]; exact roleAt_at hk hx)
      have HO := hide (show roOk r n = true by unfold roOk; rw [hv, hh]; rfl)
      obtain ⟨A1', c1', heq, hlc, hmx, hra⟩ := H1.out
      simp only [Value.slice.injEq] at heq
      obtain ⟨rfl, -, rfl⟩ := heq
      rcases hra with hnil | ⟨q, o2, rfl, hra⟩
      · rw [hnil] at hlk; simp at hlk
      have HRA := hide hra
      have HK := hide hk
      have hk0 : ¬ (k : Int) < 0 := by omega
      have HX := hide hx
      have hlt2 : (k : Int) < (r.members.length : Int) := by omega
      clear hv hh hx hmn hra
      go_enter Tryz.func13, Tryz.ntmps13
      go_wp2_with fail
      refine (l02Is_c r _ _ _ (Blk.rowAt (d := roomD) (x := r) HS0.out.at0 (room_K_mk (H1.out.below HS0.out.below) (H2.out.below HS0.out.below) (H3.out.below HS0.out.below)) rfl)).mono ?_
      rintro e w1 ⟨rfl, hb⟩
      rw [HV.out]
      have HS1 := hide (HS0.out.by hb)
      clear hb
      (try clear x0 x1 x2 x3 xz)
      have x := HS1.out.at0
      obtain ⟨x0, x1, x2, x3⟩ := x.c4
      have xz := x.lt
      clear x
      go_wp2_with fail
      refine (l02Find_c r _ _ n _ (Blk.rowAt (d := roomD) (x := r) HS1.out.at0 (room_K_mk (H1.out.below HS1.out.below) (H2.out.below HS1.out.below) (H3.out.below HS1.out.below)) rfl)).mono ?_
      rintro e w2 ⟨rfl, hb⟩
      rw [HK.out]
      have HS2 := hide (HS1.out.by hb)
      clear hb
      (try clear x0 x1 x2 x3 xz)
      have x := HS2.out.at0
      obtain ⟨x0, x1, x2, x3⟩ := x.c4
      have xz := x.lt
      clear x
      obtain ⟨hq, hc0, hc1, hc2, hc3⟩ := member_at HRA.out HS2.out.below HX.out
      go_wp2_with fail
      (refine wp_region_calm (by kernel_rfl) (by kernel_rfl) ?_; (repeat (first | go_big_quiet_skip | (go_big_quiet_want; go_big_quiet_op; (first | go_big_quiet_on | (apply Exists.intro; refine ⟨fun ic => ?_, ?_⟩; (focus (go_at_call 40; refine (l02Find_c r _ _ n _ ((Blk.rowAt (d := roomD) (x := r) HS2.out.at0 (room_K_mk (H1.out.below HS2.out.below) (H2.out.below HS2.out.below) (H3.out.below HS2.out.below)) rfl).below ic.below)).mono ?_; rintro e w3 ⟨rfl, hb⟩; rw [hk]; exact ⟨rfl, Calm.next _ hb⟩; done)); go_big_quiet_on))))); refine wpQuiet_nil ?_; intro wq hwq; obtain ⟨iq, hwe⟩ := hwq; subst hwe)
      go_wp2_with fail
      go_ret2
      exact ⟨by rw [HR.out, HO.out]; rfl, below_step HS2.out.below iq.below⟩
    · have HH := hide (show hasId r n = false by simpa using hh)
      have HK := hide (show idxP (idIs n) r.members = -1 from idxP_neg (by have := HH.out; unfold hasId at this; simpa using this))
      have HO := hide (show roOk r n = false by unfold roOk; rw [HH.out, Bool.and_false])
      have HR := hide (show roV r n = 0 by unfold roV; rw [HO.out]; rfl)
      clear hv hh
      go_enter Tryz.func13, Tryz.ntmps13
      go_wp2_with fail
      refine (l02Is_c r _ _ _ (Blk.rowAt (d := roomD) (x := r) HS0.out.at0 (room_K_mk (H1.out.below HS0.out.below) (H2.out.below HS0.out.below) (H3.out.below HS0.out.below)) rfl)).mono ?_
      rintro e w1 ⟨rfl, hb⟩
      rw [HV.out]
      have HS1 := hide (HS0.out.by hb)
      clear hb
      (try clear x0 x1 x2 x3 xz)
      have x := HS1.out.at0
      obtain ⟨x0, x1, x2, x3⟩ := x.c4
      have xz := x.lt
      clear x
      go_wp2_with fail
      refine (l02Find_c r _ _ n _ (Blk.rowAt (d := roomD) (x := r) HS1.out.at0 (room_K_mk (H1.out.below HS1.out.below) (H2.out.below HS1.out.below) (H3.out.below HS1.out.below)) rfl)).mono ?_
      rintro e w2 ⟨rfl, hb⟩
      rw [HK.out]
      have HS2 := hide (HS1.out.by hb)
      clear hb
      (try clear x0 x1 x2 x3 xz)
      have x := HS2.out.at0
      obtain ⟨x0, x1, x2, x3⟩ := x.c4
      have xz := x.lt
      clear x
      go_wp2_with fail
      go_ret2
      exact ⟨by rw [HR.out, HO.out]; rfl, HS2.out.below⟩
  · have HV := hide (show validRoomB r = false by simpa using hv)
    have HO := hide (show roOk r n = false by unfold roOk; rw [HV.out, Bool.false_and])
    have HR := hide (show roV r n = 0 by unfold roV; rw [HO.out]; rfl)
    clear hv
    go_enter Tryz.func13, Tryz.ntmps13
    go_wp2_with fail
    refine (l02Is_c r _ _ _ (Blk.rowAt (d := roomD) (x := r) HS0.out.at0 (room_K_mk (H1.out.below HS0.out.below) (H2.out.below HS0.out.below) (H3.out.below HS0.out.below)) rfl)).mono ?_
    rintro e w1 ⟨rfl, hb⟩
    rw [HV.out]
    have HS1 := hide (HS0.out.by hb)
    clear hb
    (try clear x0 x1 x2 x3 xz)
    have x := HS1.out.at0
    obtain ⟨x0, x1, x2, x3⟩ := x.c4
    have xz := x.lt
    clear x
    go_wp2_with fail
    go_ret2
    exact ⟨by rw [HR.out, HO.out]; rfl, HS1.out.below⟩
end Go.Proofs.YtglhepbcbildpaaGreat
