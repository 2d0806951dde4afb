/- Valid rooms, as plain data. -/
import Derived.Test.YtccgjnanphonnaaCore
import Derived.Test.YtccgjnanphonnaaSets
import Derived.Test.YtccgjnanphonnaaIdx
import Derived.Test.YtccgjnanphonnaaTyRoom
namespace Go.Proofs.Ytccgjnanphonnaa
open Go Go.RowKit
set_option linter.unusedVariables false
set_option linter.unusedSimpArgs false

def idIs (n : Int) (m : Member) : Bool := decide (m.id = n)
def invIs (n : Int) (v : Invite) : Bool := decide (v.id = n)
def banIs (n : Int) (b : Ban) : Bool := decide (b.id = n)
def hasId (r : Room) (n : Int) : Bool := decide (0 ≤ idxP (idIs n) r.members)
def invd (r : Room) (n : Int) : Bool := decide (0 ≤ idxP (invIs n) r.invites)
def memOkB (m : Member) : Bool := inB m.id 1 1000 && inB m.role 0 3 && inB m.since 0 1000000 && inB m.quiet 0 1000000
def memF (m : Member) (p : Option Member) : Bool := memOkB m && match p with | none => true | some q => decide (q.id < m.id)
def invOkB (r : Room) (v : Invite) : Bool := inB v.id 1 1000 && inB v.by_ 1 1000 && inB v.until_ 0 1000000 && !hasId r v.id
def invF (r : Room) (v : Invite) (p : Option Invite) : Bool := invOkB r v && match p with | none => true | some q => decide (q.id < v.id)
def banOkB (r : Room) (b : Ban) : Bool := inB b.id 1 1000 && inB b.until_ 0 1000000 && !hasId r b.id && !invd r b.id
def banF (r : Room) (b : Ban) (p : Option Ban) : Bool := banOkB r b && match p with | none => true | some q => decide (q.id < b.id)
def ownB (ms : List Member) : Bool := ms.any fun m => decide (m.role = 3)
/-- A valid room. -/
def validRoomB (r : Room) : Bool :=
  decide (1 ≤ (r.members.length : Int)) && decide ((r.members.length : Int) ≤ 32) && decide ((r.invites.length : Int) ≤ 16) && decide ((r.bans.length : Int) ≤ 16)
    && adjB memF none r.members && adjB (invF r) none r.invites && adjB (banF r) none r.bans && ownB r.members
theorem memF_no {m : Member} {p : Option Member} (h : memOkB m = false) : memF m p = false := by simp [memF, h]
theorem memF_none {m : Member} (h : memOkB m = true) : memF m none = true := by simp [memF, h]
theorem memF_some {m q : Member} (h : memOkB m = true) (h2 : q.id < m.id) : memF m (some q) = true := by simp [memF, h, h2]
theorem memF_ord {m q : Member} (h2 : m.id ≤ q.id) : memF m (some q) = false := by simp [memF]; intro _; omega
theorem invF_no {r : Room} {m : Invite} {p : Option Invite} (h : invOkB r m = false) : invF r m p = false := by simp [invF, h]
theorem invF_none {r : Room} {m : Invite} (h : invOkB r m = true) : invF r m none = true := by simp [invF, h]
theorem invF_some {r : Room} {m q : Invite} (h : invOkB r m = true) (h2 : q.id < m.id) : invF r m (some q) = true := by simp [invF, h, h2]
theorem invF_ord {r : Room} {m q : Invite} (h2 : m.id ≤ q.id) : invF r m (some q) = false := by simp [invF]; intro _; omega
theorem banF_no {r : Room} {m : Ban} {p : Option Ban} (h : banOkB r m = false) : banF r m p = false := by simp [banF, h]
theorem banF_none {r : Room} {m : Ban} (h : banOkB r m = true) : banF r m none = true := by simp [banF, h]
theorem banF_some {r : Room} {m q : Ban} (h : banOkB r m = true) (h2 : q.id < m.id) : banF r m (some q) = true := by simp [banF, h, h2]
theorem banF_ord {r : Room} {m q : Ban} (h2 : m.id ≤ q.id) : banF r m (some q) = false := by simp [banF]; intro _; omega
theorem hasId_iff (r : Room) (n : Int) : hasId r n = decide (0 ≤ idxP (idIs n) r.members) := rfl
/-- How many members have each role. -/
def roleN (ms : List Member) (i : Int) : Int := ((ms.filter fun m => decide (m.role = i)).length : Int)
def rolesL (ms : List Member) : List Int := [roleN ms 0, roleN ms 1, roleN ms 2, roleN ms 3]
theorem roleN_nn (ms : List Member) (i : Int) : 0 ≤ roleN ms i ∧ roleN ms i ≤ ms.length := by
  unfold roleN
  have := List.length_filter_le (fun m : Member => decide (m.role = i)) ms
  omega
theorem roleN_own (ms : List Member) : decide (0 < roleN ms 3) = ownB ms := by
  unfold roleN ownB
  induction ms with
  | nil => simp
  | cons m ms ih =>
    rw [List.any_cons]
    by_cases h : m.role = 3
    · rw [List.filter_cons_of_pos (by simpa using h)]
      simp [h]
    · rw [List.filter_cons_of_neg (by simpa using h), ih]
      simp [h]
theorem roleN_step {ms : List Member} {k : Nat} {m : Member} (hx : ms[k]? = some m) (i : Int) : roleN (ms.take (k + 1)) i = roleN (ms.take k) i + if m.role = i then 1 else 0 := by
  obtain ⟨hk, he⟩ := List.getElem?_eq_some_iff.1 hx
  unfold roleN
  rw [List.take_succ_eq_append_getElem hk, List.filter_append, he, List.length_append]
  by_cases h : m.role = i
  · rw [if_pos h, List.filter_cons_of_pos (by simpa using h)]; simp
  · rw [if_neg h, List.filter_cons_of_neg (by simpa using h)]; simp
end Go.Proofs.Ytccgjnanphonnaa
