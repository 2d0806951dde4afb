/- Parcels are taken out of a box: the program's take. -/
import Derived.Test.YtdmhjfajicclaaaPostFit
import Derived.Deep.RegionWith
import Derived.Deep.CutRange
namespace Go.Proofs.Ytdmhjfajicclaaa
open Go Go.RowKit Go.BigFrame
set_option linter.unusedVariables false
set_option linter.unusedSimpArgs false

def tkN (n : Int) (m : Box) : Nat := min n.toNat m.held.length
def tkB (k : Nat) (m : Box) : Box := { m with held := m.held.drop k, missed := 0 }
set_option maxHeartbeats 8000000 in
set_option maxRecDepth 100000 in
theorem takeBox_c (n : Int) (q c k : Nat) (rs : List (Raw 4)) (F : List Nat) (m : Box) (A : Option Addr) (c3 : Nat) (G : List Nat) (w0 W : World) (L : List Piece)
    (hS : St w0 W (own (rawD 4) 53 (.slice (some ⟨q, 0, none⟩) rs.length c) rs F :: own parcelD 68 (.slice A m.held.length c3) m.held G :: L)) (hr : rs[k]? = some (boxRaw m A m.held.length c3))
    (hn : inB n 0 64 = true) (hh : m.held.length ≤ 1000) (j : Nat) (hj : j = tkN n m) :
    Calls Try.prog 41 #[.pointer (some ⟨q, k * 4, none⟩), .int .i64 n] W fun e W' => ∃ A5 c5 F5 A2 c2 G2, e = .returned (.tuple #[.slice A5 (m.held.take j).length c5, .int .i64 m.missed]) ∧ St w0 W' (own parcelD 68 (.slice A5 (m.held.take j).length c5) (m.held.take j) F5 :: own (rawD 4) 53 (.slice (some ⟨q, 0, none⟩) rs.length c) (rs.set k (boxRaw (tkB j m) A2 (tkB j m).held.length c2)) F :: own parcelD 68 (.slice A2 ((tkB j m).held).length c2) ((tkB j m).held) G2 :: L) := by
  have HS := hide hS
  have HR := hide hr
  obtain ⟨hn0, hn1⟩ := inB_iff.1 hn
  have hkl := (List.getElem?_eq_some_iff.1 hr).1
  have hjl : j ≤ m.held.length := by rw [hj]; exact Nat.min_le_right _ _
  have hmin : min n (m.held.length : Int) = (j : Int) := by rw [hj]; unfold tkN; omega
  have hlc : m.held.length ≤ c3 := by obtain ⟨A2, c2, hv, h2, h3, _⟩ := (St.pull1 hS).toK; simp only [Value.slice.injEq] at hv; omega
  have hjc : (j : Int) ≤ (c3 : Int) := by omega
  have hj0 : (0 : Int) ≤ (j : Int) := by omega
  have HKF := hide (SliceK.front (St.pull1 hS).toK hjl)
  obtain ⟨q0, q1, q2, q3, qf, qz⟩ := hS.rawBox hr
  clear hS hr hn hj
  go_enter Try.func41, Try.ntmps41
  go_wp2_with fail
  go_cut [7, 8] from 16 to 26 (fun s7 s8 w' => ∃ (A5 : Option Addr) (c5 : Nat) (F5 : List Nat), s7 = .slice A5 (m.held.take j).length c5 ∧ s8 = .int .i64 m.missed ∧ Hid (St w0 w' (own parcelD 68 (.slice A5 (m.held.take j).length c5) (m.held.take j) F5 :: own (rawD 4) 53 (.slice (some ⟨q, 0, none⟩) rs.length c) rs F :: own parcelD 68 (.slice A m.held.length c3) m.held G :: L)))
  case first =>
    go_region_with (
      (go_at_call 63
       refine (cloneParcel_c _ (m.held.take j) _ (HKF.out.below (Below.refl _ _).drew) (by rw [List.length_take]; omega)).mono ?_
       rintro e w1 ⟨v1, rfl, hm, hb⟩
       obtain ⟨F5, hS5⟩ := (show St w0 _ (_ :: _ :: L) from by (repeat (first | (with_reducible exact HS.out) | (with_reducible apply St.alloc) | (with_reducible apply St.set0) | (with_reducible apply St.set1) | (with_reducible apply St.set2) | (with_reducible apply St.set3) | (with_reducible apply St.drew) | (with_reducible apply St.drewN))); all_goals (try (first | rfl | (simp; done)))).made hm hb
       obtain ⟨A5, c5, rfl⟩ := hm.shape
       have HS5 := hide hS5
       obtain ⟨d0, d1, d2, d3, df, dz⟩ := (St.drop hS5).rawBox HR.out
       clear hS5 hm hb))
    all_goals
      go_wp2_with fail
      go_meet
      case rel => exact ⟨A5, c5, F5, by rw [List.length_take, Nat.min_eq_left hjl], rfl, HS5⟩
  case rest =>
    obtain ⟨A5, c5, F5, rfl, rfl, HX⟩ := hcut
    clear q0 q1 q2 q3 qf qz
    obtain ⟨q0, q1, q2, q3, qf, qz⟩ := (St.drop HX.out).rawBox HR.out
    go_wp2_with (
      go_at_call 64
      have hD := delParcel_c 0 j m.held A c3 G w0 _ (own parcelD 68 (.slice A5 (m.held.take j).length c5) (m.held.take j) F5 :: own (rawD 4) 53 (.slice (some ⟨q, 0, none⟩) rs.length c) rs F :: L) HX.out.pull2 (by omega) hjl (by omega)
      rw [List.take_zero, List.nil_append] at hD
      refine Calls.mono (show Calls Try.prog _ #[.slice A m.held.length c3, .int .i64 0, .int .i64 j] _ _ from hD) ?_
      rintro e w1 ⟨A2, c2, G2, rfl, hS1⟩
      have HS1 := hide hS1
      obtain ⟨d0, d1, d2, d3, df, dz⟩ := (St.drop (St.drop hS1)).rawBox HR.out
      clear hD hS1)
    go_ret2
    refine ⟨A5, c5, F5, A2, c2, G2, (by rw [List.length_take, Nat.min_eq_left hjl]; rfl), ?_⟩
    rw [← (List.length_drop : (m.held.drop j).length = _)]
    refine St.pull2 (St.setMissed (m := { m with held := m.held.drop j }) (m' := tkB j m) (St.setHeld (m' := { m with held := m.held.drop j }) HS1.out.pull2 HR.out rfl ⟨rfl, rfl, rfl⟩) hkl rfl ⟨rfl, rfl⟩)
end Go.Proofs.Ytdmhjfajicclaaa
