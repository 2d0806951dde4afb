/- cmp.Compare and cmp.Or; what grew; sorted rows are told by what they hold. -/
import Derived.Test.YtglhepbcbildpaaSortPlain
import Derived.Deep.RegionHeld3
namespace Go.Proofs.Ytglhepbcbildpaa
open Go Go.RowKit Go.BigFrame
set_option linter.unusedVariables false
set_option linter.unusedSimpArgs false

def cmpI (a b : Int) : Int := if a < b then -1 else if b < a then 1 else 0
theorem cmpI_neg {a b : Int} : cmpI a b < 0 ↔ a < b := by unfold cmpI; (repeat' split) <;> omega
theorem cmpI_zero {a b : Int} : cmpI a b = 0 ↔ a = b := by unfold cmpI; (repeat' split) <;> omega
def orI (x y z : Int) : Int := if x = 0 then (if y = 0 then z else y) else x
/-- A world with draws and new blocks. -/
def Grew (W w : World) : Prop := ∃ q os, w = Go.Sort.grow (W.drewN q) os
theorem Grew.refl (W : World) : Grew W W := ⟨0, #[], by simp; rfl⟩
theorem Grew.alloc {W w : World} (h : Grew W w) (o : Obj) : Grew W (w.alloc o) := by
  obtain ⟨q, os, rfl⟩ := h
  exact ⟨q, os ++ #[o], by rw [Go.Sort.alloc_eq_grow, Go.Sort.grow_grow]⟩
theorem Grew.drew {W w : World} (h : Grew W w) : Grew W w.drew := by
  obtain ⟨q, os, rfl⟩ := h
  exact ⟨q + 1, os, rfl⟩
theorem Grew.drewN {W w : World} (h : Grew W w) (n : Nat) : Grew W (w.drewN n) := by
  obtain ⟨q, os, rfl⟩ := h
  refine ⟨q + n, os, ?_⟩
  simp [Go.Sort.grow, World.drewN, Nat.add_assoc]
theorem sorted_unique {α : Type} {R : α → α → Prop} : ∀ {l1 l2 : List α}, l1.Perm l2 → l1.Pairwise R → l2.Pairwise R → (∀ x ∈ l1, ∀ y ∈ l1, R x y → R y x → x = y) → l1 = l2
  | [], l2, hp, _, _, _ => by rw [List.Perm.nil_eq hp]
  | a :: t1, [], hp, _, _, _ => absurd hp.length_eq (by simp)
  | a :: t1, b :: t2, hp, h1, h2, hx => by
    rw [List.pairwise_cons] at h1 h2
    have hab : a = b := by
      have ha : a ∈ b :: t2 := hp.mem_iff.1 List.mem_cons_self
      have hb : b ∈ a :: t1 := hp.mem_iff.2 List.mem_cons_self
      rcases List.mem_cons.1 ha with h | h
      · exact h
      · rcases List.mem_cons.1 hb with h' | h'
        · exact h'.symm
        · exact hx a List.mem_cons_self b hb (h1.1 b h') (h2.1 a h)
    subst hab
    rw [sorted_unique (List.Perm.cons_inv hp) h1.2 h2.2 fun x hxm y hym => hx x (List.mem_cons_of_mem _ hxm) y (List.mem_cons_of_mem _ hym)]
theorem isNaN_c (a : Int) (w : World) : Calls Try.prog 56 #[.int .i64 a] w fun e w' => e = .returned (.bool false) ∧ w = w' := by
  go_enter Try.func56, Try.ntmps56
  go_wp2
  go_ret
  exact ⟨by simp, rfl⟩
set_option maxHeartbeats 1000000 in
theorem compare_c (a b : Int) (w : World) : Calls Try.prog 45 #[.int .i64 a, .int .i64 b] w fun e w' => e = .returned (.int .i64 (cmpI a b)) ∧ w = w' := by
  by_cases h1 : a < b
  · have HC := hide (show cmpI a b = -1 by simp [cmpI, h1])
    go_enter Try.func45, Try.ntmps45
    go_wp2_with (go_at_call 56; refine (isNaN_c _ _).mono ?_; rintro e w' ⟨rfl, rfl⟩)
    go_ret
    exact ⟨by rw [HC.out]; rfl, rfl⟩
  · by_cases h2 : b < a
    · have HC := hide (show cmpI a b = 1 by simp [cmpI, h1, h2])
      go_enter Try.func45, Try.ntmps45
      go_wp2_with (go_at_call 56; refine (isNaN_c _ _).mono ?_; rintro e w' ⟨rfl, rfl⟩)
      go_ret
      exact ⟨by rw [HC.out]; rfl, rfl⟩
    · have HC := hide (show cmpI a b = 0 by simp [cmpI, h1, h2])
      go_enter Try.func45, Try.ntmps45
      go_wp2_with (go_at_call 56; refine (isNaN_c _ _).mono ?_; rintro e w' ⟨rfl, rfl⟩)
      go_ret
      exact ⟨by rw [HC.out]; rfl, rfl⟩
set_option maxHeartbeats 2000000 in
theorem or_c (x y z : Int) (b c : Nat) (w : World) (h0 : w.cell? ⟨b, 0, none⟩ = some (.int .i64 x)) (h1 : w.cell? ⟨b, 1, none⟩ = some (.int .i64 y)) (h2 : w.cell? ⟨b, 2, none⟩ = some (.int .i64 z)) :
    Calls Try.prog 44 #[.slice (some ⟨b, 0, none⟩) 3 c] w fun e w' => e = .returned (.int .i64 (orI x y z)) ∧ w = w' := by
  have hb := World.block_lt_of_cell? w _ h0
  have HO := hide (show orI x y z = if x = 0 then (if y = 0 then z else y) else x from rfl)
  go_enter Try.func44, Try.ntmps44
  go_wp2_with fail
  go_loopg [8] 3 (fun gg s8 wr => ∃ k : Nat, k ≤ 3 ∧ 3 - k ≤ gg ∧ s8 = .int .i64 k ∧ Hid (0 < k → x = 0) ∧ Hid (1 < k → y = 0) ∧ Hid (2 < k → z = 0) ∧ wr = w)
  case atStart => exact ⟨0, by omega, by omega, rfl, hide (by omega), hide (by omega), hide (by omega), rfl⟩
  case round =>
    obtain ⟨k, hk, hg, rfl, HX, HY, HZ, rfl⟩ := hrel
    by_cases k0 : k = 0
    · subst k0
      by_cases hx : x = 0
      · subst hx
        go_wp2_with fail
        go_roundg 2
        case measure => omega
        case rel => exact ⟨1, by omega, by omega, by go_num, hide (fun _ => by first | rfl | trivial), hide (by omega), hide (by omega), by first | rfl | trivial⟩
      · have hx2 : (x != 0) = true := by simpa using hx
        have HR := hide (show orI x y z = x by rw [HO.out, if_neg hx])
        clear hx
        go_wp2_with fail
        go_ret
        exact ⟨by rw [HR.out]; rfl, by first | rfl | trivial⟩
    · by_cases k1 : k = 1
      · subst k1
        by_cases hy : y = 0
        · subst hy
          go_wp2_with fail
          go_roundg 1
          case measure => omega
          case rel => exact ⟨2, by omega, by omega, by go_num, hide (fun _ => HX.out (by omega)), hide (fun _ => by first | rfl | trivial), hide (by omega), by first | rfl | trivial⟩
        · have hy2 : (y != 0) = true := by simpa using hy
          have HR := hide (show orI x y z = y by rw [HO.out, if_pos (HX.out (by omega)), if_neg hy])
          clear hy
          go_wp2_with fail
          go_ret
          exact ⟨by rw [HR.out]; rfl, by first | rfl | trivial⟩
      · by_cases k2 : k = 2
        · subst k2
          by_cases hz : z = 0
          · subst hz
            go_wp2_with fail
            go_roundg 0
            case measure => omega
            case rel => exact ⟨3, by omega, by omega, by go_num, hide (fun _ => HX.out (by omega)), hide (fun _ => HY.out (by omega)), hide (fun _ => by first | rfl | trivial), by first | rfl | trivial⟩
          · have hz2 : (z != 0) = true := by simpa using hz
            have HR := hide (show orI x y z = z by rw [HO.out, if_pos (HX.out (by omega)), if_pos (HY.out (by omega))])
            clear hz
            go_wp2_with fail
            go_ret
            exact ⟨by rw [HR.out]; rfl, by first | rfl | trivial⟩
        · obtain rfl : k = 3 := by omega
          have HR := hide (show orI x y z = 0 by rw [HO.out, if_pos (HX.out (by omega)), if_pos (HY.out (by omega)), HZ.out (by omega)])
          clear k0 k1 k2
          go_wp2_with fail
          go_ret
          exact ⟨by rw [HR.out]; rfl, by first | rfl | trivial⟩
end Go.Proofs.Ytglhepbcbildpaa
