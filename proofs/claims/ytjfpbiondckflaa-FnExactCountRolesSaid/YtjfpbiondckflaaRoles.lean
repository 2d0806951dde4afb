/- How many members have each role: the program's call and the reference's. -/
import Derived.Test.YtjfpbiondckflaaSpecRoom
import Derived.Test.YtjfpbiondckflaaLawWalk
namespace Go.Proofs.Ytjfpbiondckflaa
open Go Go.RowKit Go.BigFrame
attribute [local go_sem] Calm.cell Calm.frozen
set_option linter.unusedVariables false
set_option linter.unusedSimpArgs false

theorem MadeNone {α : Type} {d : Dt α} {e : TypeId} (w w' : World) : Made d e w w' (.slice none 0 0) [] := ⟨[], .inl ⟨rfl, rfl, rfl⟩, by simp, by simp⟩
/-- A returned row that was made behind w, and a Bool; nothing else has turned. -/
def RetRow2 {α : Type} (d : Dt α) (e : TypeId) (w : World) (xs : List α) (ok : Bool) (r : Ending) (w' : World) : Prop :=
  ∃ v, r = .returned (.tuple #[v, .bool ok]) ∧ Made d e w w' v xs ∧ Below w.heap.size w w'
def countL (r : Room) : List Int := if validRoomB r then rolesL r.members else []
theorem countL_len (r : Room) : (countL r).length ≤ 4 := by
  unfold countL; split <;> simp [rolesL]
theorem valid_mems {r : Room} (h : validRoomB r = true) : (∀ m ∈ r.members, inB m.role 0 3 = true) ∧ r.members.length ≤ 32 := by
  simp only [validRoomB, Bool.and_eq_true, decide_eq_true_eq] at h
  exact ⟨mem_roles h.1.1.1.2, by omega⟩
set_option maxHeartbeats 4000000 in
theorem countRoles_c (r : Room) (v1 v2 v3 : Value) (w : World) (h1 : SliceK memberD w v1 r.members) (h2 : SliceK inviteD w v2 r.invites) (h3 : SliceK banD w v3 r.bans) :
    Calls Try.prog 11 #[.agg #[.bool r.open_, v1, v2, v3]] w (RetRow2 intD 2 w (countL r) (validRoomB r)) := by
  obtain ⟨A1, c1, rfl⟩ := h1.shape
  obtain ⟨A2, c2, rfl⟩ := h2.shape
  obtain ⟨A3, c3, rfl⟩ := h3.shape
  have HW := hide ((Below.refl w.heap.size w).alloc (Nat.le_refl _) (.cells #[.bool r.open_, .slice A1 r.members.length c1, .slice A2 r.invites.length c2, .slice A3 r.bans.length c3] 33))
  have HBX := hide (RowAt.box (d := roomD) (x := r) (room_K_mk h1 h2 h3) (arr := #[.bool r.open_, .slice A1 r.members.length c1, .slice A2 r.invites.length c2, .slice A3 r.bans.length c3]) rfl 33)
  have HK := hide (And.intro (h1.below HW.out) (And.intro (h2.below HW.out) (h3.below HW.out)))
  clear h1 h2 h3
  by_cases hv : validRoomB r = true
  · have HV := hide hv
    have HR := hide (show countL r = rolesL r.members by unfold countL; rw [hv]; rfl)
    have HVM := hide (valid_mems hv)
    clear hv
    go_enter Try.func11, Try.ntmps11
    go_wp2_with (first
      | (go_at_call 24
         refine (validRoom_c r _ _ _ _ HK.out.1 HK.out.2.1 HK.out.2.2).mono ?_
         rintro e w1 ⟨rfl, hb⟩
         rw [HV.out]
         have HB1 := hide hb
         clear hb)
      | (go_at_call 29
         refine (roles_c r _ _ _ (HBX.out.below HB1.out) HVM.out.1 (by have := HVM.out.2; omega)).mono ?_
         rintro e w2 ⟨v, rfl, hmade, hb⟩
         obtain ⟨A, c, rfl⟩ := hmade.shape
         have HM := hide hmade
         have HB2 := hide hb
         clear hmade hb))
    go_ret2
    rw [HR.out, HV.out]
    have hs := below_step HW.out HB1.out
    exact ⟨_, rfl, HM.out.lower hs.size, below_step hs HB2.out⟩
  · have HV := hide (show validRoomB r = false by simpa using hv)
    have HR := hide (show countL r = [] by unfold countL; rw [HV.out]; rfl)
    clear hv
    go_enter Try.func11, Try.ntmps11
    go_wp2_with (
      go_at_call 24
      refine (validRoom_c r _ _ _ _ HK.out.1 HK.out.2.1 HK.out.2.2).mono ?_
      rintro e w1 ⟨rfl, hb⟩
      rw [HV.out]
      have HB1 := hide (below_step HW.out hb)
      clear hb)
    go_ret2
    rw [HR.out, HV.out]
    exact ⟨_, rfl, MadeNone _ _, HB1.out⟩
set_option maxHeartbeats 4000000 in
theorem specCountRoles_c (r : Room) (v1 v2 v3 : Value) (w : World) (h1 : SliceK memberD w v1 r.members) (h2 : SliceK inviteD w v2 r.invites) (h3 : SliceK banD w v3 r.bans) :
    Calls Try.prog 10 #[.agg #[.bool r.open_, v1, v2, v3]] w (RetRow2 intD 2 w (countL r) (validRoomB r)) := by
  have HRA1 := hide h1
  obtain ⟨A1, c1, rfl⟩ := h1.shape
  obtain ⟨A2, c2, rfl⟩ := h2.shape
  obtain ⟨A3, c3, rfl⟩ := h3.shape
  have HW := hide ((Below.refl w.heap.size w).alloc (Nat.le_refl _) (.cells #[.bool r.open_, .slice A1 r.members.length c1, .slice A2 r.invites.length c2, .slice A3 r.bans.length c3] 33))
  have HBX := hide (RowAt.box (d := roomD) (x := r) (room_K_mk h1 h2 h3) (arr := #[.bool r.open_, .slice A1 r.members.length c1, .slice A2 r.invites.length c2, .slice A3 r.bans.length c3]) rfl 33)
  have HK := hide (And.intro (h1.below HW.out) (And.intro (h2.below HW.out) (h3.below HW.out)))
  clear h1 h2 h3
  by_cases hv : validRoomB r = true
  · have HV := hide hv
    have HR := hide (show countL r = rolesL r.members by unfold countL; rw [hv]; rfl)
    have HVM := hide (valid_mems hv)
    clear hv
    have hmk := run_mk (P := Try.prog) 37 2 (.int .i64 0) 1 8 Try.underlying37 infoI64 4 (by omega) (by omega)
    simp only [Int.cast_ofNat_Int] at hmk
    obtain ⟨A', c', hAc, hl, hm, hra⟩ := HRA1.out
    simp only [Value.slice.injEq, true_and] at hAc
    obtain ⟨rfl, rfl⟩ := hAc
    have HA := hide hra
    clear hra
    go_enter Try.func10, Try.ntmps10
    go_wp2_with (
      go_at_call 19
      refine (l02Is_c r _ _ _ HBX.out).mono ?_
      rintro e w1 ⟨rfl, hb⟩
      rw [HV.out]
      have HB1 := hide (below_step HW.out hb)
      have hz := hb.size
      simp only [World.size_alloc] at hz
      have b1 : w1.cell? ⟨w.heap.size, 1, none⟩ = some (.slice A1 r.members.length c1) := cell_below hb (by go_simp)
      have hlw : w.heap.size < w1.heap.size := (by omega)
      clear hb)
    go_loopg [5] r.members.length (fun gg s5 wr => ∃ k : Nat, k ≤ r.members.length ∧ r.members.length - k ≤ gg ∧ s5 = .int .i64 k ∧ Hid (Made intD 2 w1 wr (.slice (some ⟨w1.heap.size, 0, none⟩) 4 4) (rolesL (r.members.take k))) ∧ Hid (Below w1.heap.size w1 wr))
    case atStart =>
      refine ⟨0, Nat.zero_le _, by omega, rfl, hide ⟨[w1.heap.size], ?_, by simp, by simp⟩, (Below.refl _ _).alloc (Nat.le_refl _) _⟩
      exact flat_M_mk (xs := rolesL []) (cap := 4) (by simp [rolesL]) (by omega) (alloc_new w1 _) (by simp [size_mkRow]) (by simp [mkRow, madeCells, rolesL, roleN, Value.cells]; rfl)
    case round =>
      obtain ⟨k, hk, hg, rfl, HM, HB⟩ := hrel
      have hb1 := cell_below HB.out b1
      clear hmk
      by_cases hlt : k < r.members.length
      · obtain ⟨m, hx⟩ : ∃ m, r.members[k]? = some m := ⟨_, List.getElem?_eq_getElem hlt⟩
        rcases HA.out with hnil | ⟨q, o2, rfl, hra⟩
        · rw [hnil] at hlt; simp at hlt
        obtain ⟨hq, hc0, hc1, hc2, hc3⟩ := member_at hra (below_step HB1.out HB.out) hx
        have hrr := inB_iff.1 (HVM.out.1 m (List.mem_of_getElem? hx))
        obtain ⟨n, hn⟩ : ∃ n : Nat, m.role = (n : Int) := ⟨m.role.toNat, by omega⟩
        have hn4 : n < 4 := by omega
        have hn5 : (n : Int) < 4 := by omega
        obtain ⟨F, hM, hF, hFB⟩ := HM.out
        have hbd := roleN_nn (r.members.take k) n
        have h32 := HVM.out.2
        have hlen : (r.members.take k).length ≤ 1000 := by simp; omega
        obtain ⟨cs, G, hE⟩ := SliceM.elem (b := w1.heap.size) (cap := 4) (xs := rolesL (r.members.take k)) hM hF (rolesL_get _ hn4)
        obtain ⟨rfl, rfl⟩ := hE.M
        have gB := hE.cell 0 _ rfl
        simp only [show intD.sz = 1 from rfl, Nat.mul_one, Nat.add_zero] at gB
        have gF := hE.frozen
        have gL := hE.lt
        have hwr : IntKind.i64.wrap (roleN (r.members.take k) n + 1) = roleN (r.members.take k) n + 1 := IntWalk.i64_in _ (by omega)
        have hlt2 : (k : Int) < (r.members.length : Int) := by omega
        have HX := hide hx
        have HE := hide (And.intro hE hFB)
        rw [hn] at hc1
        clear hra HA hx hM hF hFB HM hE hrr hbd h32
        go_wp2_with fail
        go_roundg (r.members.length - (k + 1))
        case measure => omega
        case rel =>
          obtain ⟨hE, hFB⟩ := HE.out
          have hT := hE.turn (wr.setCell ⟨w1.heap.size, n, none⟩ (.int .i64 (roleN (r.members.take k) n + 1))) [.int .i64 (roleN (r.members.take k) n + 1)] (roleN (r.members.take k) n + 1) []
            ((Wrote.refl _ _ _ _ wr).set n _ (by simp [show intD.sz = 1 from rfl]) (by simp [show intD.sz = 1 from rfl]))
            ((Chg.refl [w1.heap.size] wr).setCell (p := ⟨w1.heap.size, n, none⟩) (.inl List.mem_cons_self) _) ⟨rfl, rfl⟩
            (fun i u hu => by
              cases i with
              | zero => simp at hu; subst hu; simp only [show intD.sz = 1 from rfl, Nat.mul_one, Nat.add_zero]; go_simp
              | succ i => simp at hu) (by simp) (by simp)
          obtain ⟨F', hS', hF', hfr', hc'⟩ := hT
          rw [rolesL_step HX.out hn hn4] at hS'
          refine ⟨k + 1, by omega, by omega, by go_num, hide ⟨F', hS', hF', fun y hy => ?_⟩, hide (HB.out.trans (hc'.below (B := w1.heap.size) HB.out.size hFB))⟩
          rcases hfr' y hy with h | h
          · exact hFB y h
          · have := HB.out.size; omega
      · have : k = r.members.length := by omega
        subst this
        have hm2 := HM.out
        rw [List.take_length] at hm2
        have HM2 := hide hm2
        clear HM hm2 HA
        go_wp2_with fail
        go_ret2
        rw [HR.out, HV.out]
        exact ⟨_, rfl, HM2.out.lower HB1.out.size, below_step HB1.out HB.out⟩
  · have HV := hide (show validRoomB r = false by simpa using hv)
    have HR := hide (show countL r = [] by unfold countL; rw [HV.out]; rfl)
    clear hv
    go_enter Try.func10, Try.ntmps10
    go_wp2_with (
      go_at_call 19
      refine (l02Is_c r _ _ _ HBX.out).mono ?_
      rintro e w1 ⟨rfl, hb⟩
      rw [HV.out]
      have HB1 := hide (below_step HW.out hb)
      clear hb)
    go_ret2
    rw [HR.out, HV.out]
    exact ⟨_, rfl, MadeNone _ _, HB1.out⟩
end Go.Proofs.Ytjfpbiondckflaa
