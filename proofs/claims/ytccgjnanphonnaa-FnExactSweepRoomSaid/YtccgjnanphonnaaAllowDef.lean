/- What a member may do, as plain data. -/
import Derived.Test.YtccgjnanphonnaaRoomDef
namespace Go.Proofs.Ytccgjnanphonnaa
open Go Go.RowKit
set_option linter.unusedVariables false
set_option linter.unusedSimpArgs false

def limI (role : Int) : Int := if role = 0 then 1 else if role = 1 then 3 else if role = 2 then 6 else 8
/-- What a role may do. -/
def mayB (role act : Int) : Bool := inB role 0 3 && decide (0 ≤ act) && decide (act ≤ limI role)
theorem may_role {role act : Int} (h : inB role 0 3 = false) : mayB role act = false := by simp [mayB, h]
theorem lim_bd (role : Int) : 1 ≤ limI role ∧ limI role ≤ 8 := by
  unfold limI; (repeat' split) <;> omega
theorem may_neg {role act : Int} (h : act < 0) : mayB role act = false := by
  simp only [mayB, Bool.and_eq_false_iff, decide_eq_false_iff_not]; exact .inl (.inr (by omega))
theorem may_big {role act : Int} (h : 8 < act) : mayB role act = false := by
  have := lim_bd role
  simp only [mayB, Bool.and_eq_false_iff, decide_eq_false_iff_not]; exact .inr (by omega)
theorem may_in {role act : Int} (h : inB role 0 3 = true) (h0 : 0 ≤ act) : mayB role act = decide (act ≤ limI role) := by
  simp [mayB, h, h0]
theorem may_1 {role act : Int} (h : inB role 0 3 = true) (h0 : 0 ≤ act) (h1 : act ≤ 1) : mayB role act = true := by
  have := lim_bd role
  rw [may_in h h0, decide_eq_true_eq]; omega
theorem may_3 {role act : Int} (h : inB role 0 3 = true) (h0 : 1 < act) (h1 : act ≤ 3) : mayB role act = decide (1 ≤ role) := by
  have := inB_iff.1 h
  rw [may_in h (by omega), decide_eq_decide]
  unfold limI; (repeat' split) <;> omega
theorem may_6 {role act : Int} (h : inB role 0 3 = true) (h0 : 3 < act) (h1 : act ≤ 6) : mayB role act = decide (2 ≤ role) := by
  have := inB_iff.1 h
  rw [may_in h (by omega), decide_eq_decide]
  unfold limI; (repeat' split) <;> omega
theorem may_8 {role act : Int} (h : inB role 0 3 = true) (h0 : 6 < act) (h1 : act ≤ 8) : mayB role act = decide (role = 3) := by
  have := inB_iff.1 h
  rw [may_in h (by omega), decide_eq_decide]
  unfold limI; (repeat' split) <;> omega
/-- What a member of a room may do. -/
def allowB (r : Room) (n act a : Int) : Bool := match r.members.find? (idIs n) with
  | none => false
  | some m => inB a 0 1000000 && (mayB m.role act && (decide (m.quiet ≤ a) || decide (act = 0)))
theorem idx_find {α : Type} {p : α → Bool} {ms : List α} {k : Nat} {m : α} (h : idxP p ms = (k : Int)) (hk : ms[k]? = some m) : ms.find? p = some m := by
  unfold idxP at h
  rcases hf : ms.findIdx? p with _ | j
  · rw [hf] at h; simp at h
  · rw [hf] at h
    obtain rfl : j = k := by simp at h; omega
    rw [List.findIdx?_eq_some_iff_getElem] at hf
    obtain ⟨hl, h1, h2⟩ := hf
    rw [List.getElem?_eq_getElem hl, Option.some.injEq] at hk
    subst hk
    rw [List.find?_eq_some_iff_getElem]
    exact ⟨h1, j, hl, rfl, fun i hi => by simpa using h2 i hi⟩
theorem idx_none {α : Type} {p : α → Bool} {ms : List α} (h : idxP p ms < 0) : ms.find? p = none := by
  unfold idxP at h
  rcases hf : ms.findIdx? p with _ | j
  · rw [List.findIdx?_eq_none_iff] at hf
    rw [List.find?_eq_none]
    intro x hx; simp [hf x hx]
  · rw [hf] at h; simp at h; omega
theorem allow_none {r : Room} {n act a : Int} (h : idxP (idIs n) r.members < 0) : allowB r n act a = false := by simp [allowB, idx_none h]
theorem allow_at {r : Room} {n act a : Int} {k : Nat} {m : Member} (h : idxP (idIs n) r.members = (k : Int)) (hk : r.members[k]? = some m) : allowB r n act a = (inB a 0 1000000 && (mayB m.role act && (decide (m.quiet ≤ a) || decide (act = 0)))) := by
  simp [allowB, idx_find h hk]
def isAllowed (r : Room) (n act a : Int) : Bool := validRoomB r && allowB r n act a
end Go.Proofs.Ytccgjnanphonnaa
