/- One more in a sorted row, in plain lists. -/
import Derived.Test.YtglhepbcbildpaaCmp
import Derived.Test.YtglhepbcbildpaaRoomPlain2
import Derived.Test.YtglhepbcbildpaaRGround
namespace Go.Proofs.Ytglhepbcbildpaa
open Go Go.RowKit
set_option linter.unusedVariables false
set_option linter.unusedSimpArgs false

section
variable {α : Type} (key : α → Int) (m : α)
def insK : List α → List α
  | [] => [m]
  | x :: t => if key m < key x then m :: x :: t else x :: insK t
theorem insK_perm : ∀ l : List α, (insK key m l).Perm (m :: l)
  | [] => List.Perm.refl _
  | x :: t => by
    unfold insK
    split
    · exact List.Perm.refl _
    · exact (List.Perm.cons x (insK_perm t)).trans (List.Perm.swap _ _ _)
theorem insK_len (l : List α) : (insK key m l).length = l.length + 1 := (insK_perm key m l).length_eq
theorem insK_mem {l : List α} {x : α} : x ∈ insK key m l ↔ x = m ∨ x ∈ l := by rw [(insK_perm key m l).mem_iff, List.mem_cons]
theorem insK_sorted : ∀ {l : List α}, l.Pairwise (fun x y => key x < key y) → (∀ x ∈ l, key x ≠ key m) → (insK key m l).Pairwise fun x y => key x < key y
  | [], _, _ => by simp [insK]
  | x :: t, h, hn => by
    rw [List.pairwise_cons] at h
    unfold insK
    split
    · rename_i hlt
      rw [List.pairwise_cons]
      refine ⟨fun y hy => ?_, List.pairwise_cons.2 h⟩
      rcases List.mem_cons.1 hy with rfl | hy
      · exact hlt
      · exact Int.lt_trans hlt (h.1 y hy)
    · rename_i hge
      rw [List.pairwise_cons]
      refine ⟨fun y hy => ?_, insK_sorted h.2 fun y hy => hn y (List.mem_cons_of_mem _ hy)⟩
      rcases (insK_mem key m).1 hy with rfl | hy
      · have := hn x List.mem_cons_self; omega
      · exact h.1 y hy
theorem insK_step {x : α} {t : List α} (h : ¬ key m < key x) : insK key m (x :: t) = x :: insK key m t := by rw [insK, if_neg h]
theorem insK_put {x : α} {t : List α} (h : key m < key x) : insK key m (x :: t) = m :: x :: t := by rw [insK, if_pos h]
theorem insK_all {l : List α} (h : ∀ x ∈ l, key m < key x) : insK key m l = m :: l := by
  cases l with
  | nil => rfl
  | cons x t => exact insK_put key m (h x List.mem_cons_self)
variable {key} {m}
/-- A row that has been sorted by a key is the row with one more in its place. -/
theorem ins_uniq {l ys : List α} (hs : l.Pairwise fun x y => key x < key y) (hn : ∀ x ∈ l, key x ≠ key m) (hp : ys.Perm (l ++ [m])) (hy0 : ys.Pairwise fun x y => key x ≤ key y) : ys = insK key m l := by
  have hy : ys.Pairwise fun x y => ¬ key y < key x := hy0.imp fun h => by omega
  have hsi := insK_sorted key m hs hn
  have hpi : (insK key m l).Perm ys := ((insK_perm key m l).trans (List.perm_append_singleton m l).symm).trans hp.symm
  symm
  refine sorted_unique (R := fun x y => ¬ key y < key x) hpi (hsi.imp fun h => by omega) hy fun x hx y hy2 h1 h2 => ?_
  have he : key x = key y := by omega
  obtain ⟨i, hi, rfl⟩ := List.mem_iff_getElem.1 hx
  obtain ⟨j, hj, rfl⟩ := List.mem_iff_getElem.1 hy2
  rw [List.pairwise_iff_getElem] at hsi
  rcases Nat.lt_trichotomy i j with h3 | h3 | h3
  · have := hsi i j hi hj h3; omega
  · subst h3; rfl
  · have := hsi j i hj hi h3; omega
/-- A sorted row stays as it is. -/
theorem sort_same {l ys : List α} (hs : l.Pairwise fun x y => key x < key y) (hp : ys.Perm l) (hy0 : ys.Pairwise fun x y => key x ≤ key y) : ys = l := by
  have hy : ys.Pairwise fun x y => ¬ key y < key x := hy0.imp fun h => by omega
  symm
  refine sorted_unique (R := fun x y => ¬ key y < key x) hp.symm (hs.imp fun h => by omega) hy fun x hx y hy2 h1 h2 => ?_
  have he : key x = key y := by omega
  obtain ⟨i, hi, rfl⟩ := List.mem_iff_getElem.1 hx
  obtain ⟨j, hj, rfl⟩ := List.mem_iff_getElem.1 hy2
  rw [List.pairwise_iff_getElem] at hs
  rcases Nat.lt_trichotomy i j with h3 | h3 | h3
  · have := hs i j hi hj h3; omega
  · subst h3; rfl
  · have := hs j i hj hi h3; omega
/-- Where the walk of an insertion stands: what is out, how far. -/
def InsAt (key : α → Int) (m : α) (l out : List α) (put : Bool) (k : Nat) : Prop :=
  k ≤ l.length ∧ (put = false → out = l.take k ∧ insK key m l = l.take k ++ insK key m (l.drop k)) ∧ (put = true → out ++ l.drop k = insK key m l)
theorem InsAt.start (l : List α) : InsAt key m l [] false 0 := ⟨Nat.zero_le _, by simp, by simp⟩
theorem InsAt.len {l out : List α} {put : Bool} {k : Nat} (h : InsAt key m l out put k) : out.length ≤ k + 1 := by
  cases put with
  | false => rw [(h.2.1 rfl).1]; have := List.length_take_le k l; omega
  | true =>
    have h1 := congrArg List.length (h.2.2 rfl)
    rw [List.length_append, insK_len, List.length_drop] at h1
    have := h.1; omega
theorem InsAt.keep {l out : List α} {k : Nat} {x : α} (h : InsAt key m l out false k) (hx : l[k]? = some x) (hk : ¬ key m < key x) : InsAt key m l (out ++ [x]) false (k + 1) := by
  obtain ⟨hl, rfl⟩ := List.getElem?_eq_some_iff.1 hx
  obtain ⟨h1, h2⟩ := h.2.1 rfl
  refine ⟨hl, fun _ => ⟨by rw [h1, List.take_succ_eq_append_getElem hl], ?_⟩, by simp⟩
  rw [h2, List.drop_eq_getElem_cons hl, insK_step key m hk, List.take_succ_eq_append_getElem hl, List.append_assoc]
  rfl
theorem InsAt.put {l out : List α} {k : Nat} {x : α} (h : InsAt key m l out false k) (hx : l[k]? = some x) (hk : key m < key x) : InsAt key m l (out ++ [m] ++ [x]) true (k + 1) := by
  obtain ⟨hl, rfl⟩ := List.getElem?_eq_some_iff.1 hx
  obtain ⟨h1, h2⟩ := h.2.1 rfl
  refine ⟨hl, by simp, fun _ => ?_⟩
  rw [h2, List.drop_eq_getElem_cons hl, insK_put key m hk, h1]
  simp
theorem InsAt.more {l out : List α} {k : Nat} {x : α} (h : InsAt key m l out true k) (hx : l[k]? = some x) : InsAt key m l (out ++ [x]) true (k + 1) := by
  obtain ⟨hl, rfl⟩ := List.getElem?_eq_some_iff.1 hx
  refine ⟨hl, by simp, fun _ => ?_⟩
  rw [← h.2.2 rfl, List.drop_eq_getElem_cons hl]
  simp
theorem InsAt.done {l out : List α} (h : InsAt key m l out true l.length) : out = insK key m l := by
  have := h.2.2 rfl
  simpa using this
theorem InsAt.last {l out : List α} (h : InsAt key m l out false l.length) : out ++ [m] = insK key m l := by
  obtain ⟨h1, h2⟩ := h.2.1 rfl
  rw [h2, h1]
  simp [insK]
end
theorem swoKey {α : Type} (key : α → Int) : Go.Sort.SWO (ltOf fun x y : α => cmpI (key x) (key y)) where
  irrefl x := by unfold ltOf; rw [decide_eq_false_iff_not, cmpI_neg]; omega
  trans x y z h h2 := by
    unfold ltOf at *
    rw [decide_eq_true_eq, cmpI_neg] at *
    omega
  ntrans x y z h h2 := by
    unfold ltOf at *
    rw [decide_eq_false_iff_not, cmpI_neg] at *
    omega
end Go.Proofs.Ytglhepbcbildpaa
