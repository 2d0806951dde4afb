/- A sweep, ranks and counts, in plain data. -/
import Derived.Test.YtglhepbcbildpaaDrawPlain
import Derived.Test.YtglhepbcbildpaaR8
import Derived.Test.YtglhepbcbildpaaSweep
import Derived.Test.YtglhepbcbildpaaRanksOf
import Derived.Test.YtglhepbcbildpaaRoles
import Derived.Test.YtglhepbcbildpaaJoinedPlain
namespace Go.Proofs.Ytglhepbcbildpaa
open Go Go.RowKit
set_option linter.unusedVariables false
set_option linter.unusedSimpArgs false

theorem swM_id2 (a : Int) (m : Member) : (swM a m).id = m.id := by unfold swM; split <;> rfl
theorem swM_role2 (a : Int) (m : Member) : (swM a m).role = m.role := by unfold swM; split <;> rfl
theorem swM_twice {a : Int} (h : 0 ≤ a) (m : Member) : swM a (swM a m) = swM a m := by
  unfold swM
  by_cases h2 : m.quiet ≤ a
  · rw [if_pos h2]
    rw [if_pos (show (0 : Int) ≤ a from h)]
  · rw [if_neg h2, if_neg h2]
theorem sw_ids2 (a : Int) (l : List Member) : (l.map (swM a)).map Member.id = l.map Member.id := by
  rw [List.map_map]; exact List.map_congr_left fun m _ => swM_id2 a m
theorem sw_roles2 (a : Int) (l : List Member) : (l.map (swM a)).map Member.role = l.map Member.role := by
  rw [List.map_map]; exact List.map_congr_left fun m _ => swM_role2 a m
theorem dropP_twice {α : Type} (p : α → Bool) (l : List α) : dropP p (dropP p l) = dropP p l := by
  unfold dropP
  rw [List.filter_filter]
  congr 1; funext y; simp
section
variable {r : Room} {a : Int}
theorem sweepR_valid (h : VRoom r) (a0 : 0 ≤ a) : VRoom (sweepR a r) := by
  refine h.sub (x := sweepR a r) ?_ ?_ ?_ ?_ ?_ (dropP_sub _ _) (dropP_sub _ _) ?_
  · show 1 ≤ (r.members.map (swM a)).length; rw [List.length_map]; exact h.m1
  · show (r.members.map (swM a)).length ≤ 32; rw [List.length_map]; exact h.m32
  · intro m hm
    obtain ⟨y, hy, rfl⟩ := List.mem_map.1 (show m ∈ r.members.map (swM a) from hm)
    have h5 := h.mok y hy
    unfold swM
    split
    · simp only [memOkB, Bool.and_eq_true] at h5 ⊢
      exact ⟨h5.1, by decide⟩
    · exact h5
  · exact pair_map Member.id (sw_ids2 a r.members) h.mp
  · exact (ownB_roles (sw_roles2 a r.members)).trans h.own
  · intro m hm
    obtain ⟨y, hy, rfl⟩ := List.mem_map.1 (show m ∈ r.members.map (swM a) from hm)
    exact .inl (hasId_true.2 ⟨y, hy, (swM_id2 a y).symm⟩)
theorem sweepR_twice (a0 : 0 ≤ a) : sweepR a (sweepR a r) = sweepR a r := by
  unfold sweepR
  simp only [List.map_map, dropP_twice]
  congr 1
  exact List.map_congr_left fun m _ => swM_twice a0 m
theorem swept_ok (h : VRoom r) (a0 : 0 ≤ a) (a1 : a ≤ 1000000) : sweepOk r a = true ∧ sweepV r a = sweepR a r := by
  have e : chOk r (sweepF a) = true := by
    unfold chOk sweepF
    simp only []
    rw [valid_iff.2 h, valid_iff.2 (sweepR_valid h a0), inB_of a0 a1]; rfl
  exact ⟨e, by unfold sweepV chR; rw [e]; rfl⟩
theorem find_map (a n : Int) : ∀ l : List Member, (l.map (swM a)).find? (idIs n) = (l.find? (idIs n)).map (swM a)
  | [] => rfl
  | m :: l => by
    have e : idIs n (swM a m) = idIs n m := by unfold idIs; rw [swM_id2]
    rw [List.map_cons, List.find?_cons, List.find?_cons, e]
    cases idIs n m with
    | true => rfl
    | false => exact find_map a n l
theorem allow_swept (a0 : 0 ≤ a) (n act : Int) : allowB (sweepR a r) n act a = allowB r n act a := by
  unfold allowB
  show (match (r.members.map (swM a)).find? (idIs n) with | none => false | some m => _) = _
  rw [find_map]
  cases r.members.find? (idIs n) with
  | none => rfl
  | some m =>
    show (inB a 0 1000000 && (mayB (swM a m).role act && (decide ((swM a m).quiet ≤ a) || decide (act = 0)))) = _
    rw [swM_role2]
    have e : decide ((swM a m).quiet ≤ a) = decide (m.quiet ≤ a) := by
      unfold swM
      by_cases h2 : m.quiet ≤ a
      · rw [if_pos h2]; simp [a0, h2]
      · rw [if_neg h2]
    rw [e]
theorem swept_parts (h : VRoom r) (a0 : 0 ≤ a) (a1 : a ≤ 1000000) : VRoom (sweepV r a) ∧ sweepOk (sweepV r a) a = true ∧ sweepV (sweepV r a) a = sweepV r a ∧ (∀ v ∈ (sweepV r a).invites, ¬ v.until_ < a) ∧ (∀ b ∈ (sweepV r a).bans, ¬ b.until_ < a) ∧ ∀ n act, isAllowed (sweepV r a) n act a = isAllowed r n act a := by
  obtain ⟨-, e⟩ := swept_ok h a0 a1
  have hv := sweepR_valid h a0
  rw [e]
  obtain ⟨e2, e3⟩ := swept_ok hv a0 a1
  refine ⟨hv, e2, by rw [e3, sweepR_twice a0], fun v hm => ?_, fun v hm => ?_, fun n act => ?_⟩
  · have := (mem_dropP.1 (show v ∈ dropP (oldI a) r.invites from hm)).2
    simpa [oldI] using this
  · have := (mem_dropP.1 (show v ∈ dropP (oldB a) r.bans from hm)).2
    simpa [oldB] using this
  · unfold isAllowed
    rw [valid_iff.2 hv, valid_iff.2 h, allow_swept a0]
/-! ### Counts -/
theorem roles_sum : ∀ l : List Member, (∀ m ∈ l, inB m.role 0 3 = true) → roleN l 0 + roleN l 1 + roleN l 2 + roleN l 3 = (l.length : Int)
  | [], _ => rfl
  | m :: l, h => by
    have ih := roles_sum l fun x hx => h x (List.mem_cons_of_mem _ hx)
    have hm := inB_iff.1 (h m List.mem_cons_self)
    have e : ∀ i, roleN (m :: l) i = (if m.role = i then 1 else 0) + roleN l i := by
      intro i
      unfold roleN
      by_cases hi : m.role = i
      · rw [List.filter_cons_of_pos (by simpa using hi), if_pos hi, List.length_cons]; omega
      · rw [List.filter_cons_of_neg (by simpa using hi), if_neg hi]; omega
    rw [e, e, e, e, List.length_cons]
    have hc : m.role = 0 ∨ m.role = 1 ∨ m.role = 2 ∨ m.role = 3 := by omega
    rcases hc with h5 | h5 | h5 | h5 <;> simp [h5] <;> omega
theorem counts_parts (h : VRoom r) : countL r = [roleN r.members 0, roleN r.members 1, roleN r.members 2, roleN r.members 3] ∧ roleN r.members 0 + roleN r.members 1 + roleN r.members 2 + roleN r.members 3 = (r.members.length : Int) ∧ 1 ≤ roleN r.members 3 := by
  refine ⟨by unfold countL; rw [valid_iff.2 h]; rfl, roles_sum _ fun m hm => ?_, ?_⟩
  · have := h.mok m hm
    simp only [memOkB, Bool.and_eq_true] at this
    exact this.1.1.2
  · have h1 := roleN_own r.members
    rw [h.own, decide_eq_true_eq] at h1
    omega
/-! ### Ranks -/
def lastR (l : List Member) (k : Nat) : Int := if k = 0 then 3 else match l[k - 1]? with
  | some m => m.role
  | none => 3
theorem lastR_succ {l : List Member} {k : Nat} {m : Member} (h : l[k]? = some m) : lastR l (k + 1) = m.role := by
  unfold lastR; rw [if_neg (by omega), Nat.add_sub_cancel, h]
theorem ranks_at (h : VRoom r) {k : Nat} {x : Int} (hx : (ranksV r)[k]? = some x) : ∃ m, (rankS r.members)[k]? = some m ∧ roOk r x = true ∧ roV r x = m.role ∧ m.role ≤ lastR (rankS r.members) k := by
  have e : ranksV r = (rankS r.members).map Member.id := by unfold ranksV; rw [valid_iff.2 h]; rfl
  rw [e, List.getElem?_map] at hx
  obtain ⟨m, hm, rfl⟩ := Option.map_eq_some_iff.1 hx
  have hmem : m ∈ r.members := (rankS_perm r.members).mem_iff.1 (List.mem_of_getElem? hm)
  have hh : hasId r m.id = true := hasId_true.2 ⟨m, hmem, rfl⟩
  have ho : roOk r m.id = true := by unfold roOk; rw [valid_iff.2 h, hh]; rfl
  refine ⟨m, hm, ho, by unfold roV; rw [ho]; exact roleAt_mem h.mp hmem, ?_⟩
  have h5 := h.mok m hmem
  simp only [memOkB, Bool.and_eq_true] at h5
  have h6 := inB_iff.1 h5.1.1.2
  unfold lastR
  by_cases hk : k = 0
  · rw [if_pos hk]; omega
  · rw [if_neg hk]
    have hkl := (List.getElem?_eq_some_iff.1 hm).1
    obtain ⟨y, hy⟩ : ∃ y, (rankS r.members)[k - 1]? = some y := ⟨_, List.getElem?_eq_getElem (by omega)⟩
    rw [hy]
    have hp := List.pairwise_iff_getElem.1 (rankS_pw r.members) (k - 1) k (by omega) hkl (by omega)
    rw [(List.getElem?_eq_some_iff.1 hm).2, (List.getElem?_eq_some_iff.1 hy).2] at hp
    show m.role ≤ y.role
    by_cases hlt : y.role < m.role
    · exfalso
      have : befM m y = true := (befM_iff m y).2 (.inl hlt)
      rw [this] at hp; cases hp
    · omega
theorem ranks_len (h : VRoom r) : (ranksV r).length = r.members.length := by
  have e : ranksV r = (rankS r.members).map Member.id := by unfold ranksV; rw [valid_iff.2 h]; rfl
  rw [e, List.length_map]; exact (rankS_perm r.members).length_eq
end
end Go.Proofs.Ytglhepbcbildpaa
