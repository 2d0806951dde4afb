/- Where a thread begins: the program and the reference. -/
import Derived.Test.YtadcmiinjepdcaaGreatFind
import Derived.Test.YtadcmiinjepdcaaGreatLogBase
namespace Go.Proofs.YtadcmiinjepdcaaGreat
open Go Go.RowKit Go.BigFrame
attribute [local go_sem] Calm.cell Calm.frozen
set_option linter.unusedVariables false
set_option linter.unusedSimpArgs false

def rootF : Nat → List Message → Int → Int
  | 0, _, n => n
  | f + 1, ms, n => match ms.find? (numIs n) with
    | none => n
    | some m => if idxP (numIs m.reply) ms < 0 then n else rootF f ms m.reply
/-- Where the thread of a number begins. -/
def rootN (ms : List Message) (n : Int) : Int := rootF n.toNat ms n
/-- Numbers are positive, and a reply is to an earlier number. -/
def down (ms : List Message) : Prop := ∀ m ∈ ms, 1 ≤ m.number ∧ m.reply ≤ m.number - 1
theorem find_num {ms : List Message} {n : Int} {m : Message} (h : ms.find? (numIs n) = some m) : m ∈ ms ∧ m.number = n :=
  ⟨List.mem_of_find?_eq_some h, by have := List.find?_some h; simpa [numIs] using this⟩
theorem rootF_stable {ms : List Message} (hd : down ms) : ∀ (f g : Nat) (t : Int), t.toNat ≤ f → t.toNat ≤ g → rootF f ms t = rootF g ms t
  | 0, 0, t, _, _ => rfl
  | 0, g + 1, t, h, _ => by
    rcases hf : ms.find? (numIs t) with _ | m
    · simp [rootF, hf]
    · obtain ⟨h1, h2⟩ := find_num hf
      have := (hd m h1).1; omega
  | f + 1, 0, t, _, h => by
    rcases hf : ms.find? (numIs t) with _ | m
    · simp [rootF, hf]
    · obtain ⟨h1, h2⟩ := find_num hf
      have := (hd m h1).1; omega
  | f + 1, g + 1, t, h1, h2 => by
    rcases hf : ms.find? (numIs t) with _ | m
    · simp [rootF, hf]
    · obtain ⟨h3, h4⟩ := find_num hf
      have h5 := (hd m h3).2
      have h6 := (hd m h3).1
      simp only [rootF, hf]
      split
      · rfl
      · exact rootF_stable hd f g m.reply (by omega) (by omega)
theorem find_of_idx {ms : List Message} {n : Int} {k : Nat} {m : Message} (h : idxP (numIs n) ms = (k : Int)) (hk : ms[k]? = some m) : ms.find? (numIs n) = some m ∧ m.number = n := by
  unfold idxP at h
  rcases hf : ms.findIdx? (numIs n) with _ | j
  · rw [hf] at h; simp at h
  · rw [hf] at h
    obtain rfl : j = k := by simp at h; omega
    rw [List.findIdx?_eq_some_iff_getElem] at hf
    obtain ⟨hl, h1, h2⟩ := hf
    rw [List.getElem?_eq_getElem hl, Option.some.injEq] at hk
    subst hk
    refine ⟨?_, by simpa [numIs] using h1⟩
    rw [List.find?_eq_some_iff_getElem]
    exact ⟨h1, j, hl, rfl, fun i hi => by simpa using h2 i hi⟩
theorem rootN_stop {ms : List Message} (hd : down ms) {n : Int} {k : Nat} {m : Message} (h : idxP (numIs n) ms = (k : Int)) (hk : ms[k]? = some m) (hr : idxP (numIs m.reply) ms < 0) : rootN ms n = n := by
  obtain ⟨hf, hm⟩ := find_of_idx h hk
  have h1 := (hd m (List.mem_of_getElem? hk)).1
  unfold rootN
  rw [rootF_stable hd n.toNat (n.toNat + 1) n (Nat.le_refl _) (by omega), rootF, hf]
  simp [hr]
theorem rootN_step {ms : List Message} (hd : down ms) {n : Int} {k : Nat} {m : Message} (h : idxP (numIs n) ms = (k : Int)) (hk : ms[k]? = some m) (hr : ¬ idxP (numIs m.reply) ms < 0) : rootN ms n = rootN ms m.reply := by
  obtain ⟨hf, hm⟩ := find_of_idx h hk
  have h1 := (hd m (List.mem_of_getElem? hk)).1
  have h2 := (hd m (List.mem_of_getElem? hk)).2
  unfold rootN
  rw [rootF_stable hd n.toNat (n.toNat + 1) n (Nat.le_refl _) (by omega), rootF, hf]
  simp only [if_neg hr]
  exact rootF_stable hd _ _ _ (by omega) (Nat.le_refl _)
theorem idx_found {ms : List Message} {n : Int} (h : 0 ≤ idxP (numIs n) ms) : ∃ (k : Nat) (m : Message), idxP (numIs n) ms = (k : Int) ∧ k < ms.length ∧ ms[k]? = some m ∧ m.number = n := by
  rcases idxP_cases (numIs n) ms with h1 | ⟨k, m, h1, h2, h3, h4⟩
  · omega
  · exact ⟨k, m, h1, h2, h3, by simpa [numIs] using h4⟩
theorem idx_mem {ms : List Message} {m : Message} (h : m ∈ ms) : 0 ≤ idxP (numIs m.number) ms := by
  rcases h1 : ms.findIdx? (numIs m.number) with _ | k
  · rw [List.findIdx?_eq_none_iff] at h1
    have := h1 m h
    simp [numIs] at this
  · unfold idxP; rw [h1]; simp
theorem valid_down {l : Log} (h : validLogB l = true) : down l.messages := fun m hm => by
  have h1 := valid_msgs h hm
  simp only [validMessageB, Bool.and_eq_true] at h1
  have h2 := inB_iff.1 h1.1.1.1.1.1.1.1.1.1
  have h3 := inB_iff.1 h1.1.1.1.1.2
  exact ⟨h2.1, h3.2⟩

end Go.Proofs.YtadcmiinjepdcaaGreat
