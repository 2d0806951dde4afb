/- Ranks of members, in plain lists. -/
import Derived.Test.YtglhepbcbildpaaCmp
import Derived.Test.YtglhepbcbildpaaRoomPlain2
import Derived.Test.YtglhepbcbildpaaRGround
namespace Go.Proofs.Ytglhepbcbildpaa
open Go Go.RowKit
set_option linter.unusedVariables false
set_option linter.unusedSimpArgs false

def cfRank (x y : Member) : Int := orI (cmpI y.role x.role) (cmpI x.since y.since) (cmpI x.id y.id)
/-- x has a greater rank than y. -/
def befM (x y : Member) : Bool := if x.role ≠ y.role then decide (y.role < x.role) else if x.since ≠ y.since then decide (x.since < y.since) else decide (x.id < y.id)
theorem cfRank_neg (x y : Member) : cfRank x y < 0 ↔ befM x y = true := by
  unfold cfRank befM orI cmpI
  (repeat' split) <;> simp <;> omega
theorem befM_iff (x y : Member) : befM x y = true ↔ y.role < x.role ∨ (x.role = y.role ∧ (x.since < y.since ∨ (x.since = y.since ∧ x.id < y.id))) := by
  unfold befM
  (repeat' split) <;> simp <;> omega
theorem befM_irr (x : Member) : befM x x = false := by
  rw [Bool.eq_false_iff]; intro h; rw [befM_iff] at h; omega
theorem befM_asym {x y : Member} (h : befM x y = true) : befM y x = false := by
  rw [Bool.eq_false_iff]; intro h2; rw [befM_iff] at h h2; omega
theorem befM_trans {x y z : Member} (h : befM x y = true) (h2 : befM y z = true) : befM x z = true := by
  rw [befM_iff] at *; omega
theorem befM_total {x y : Member} (h : x.id ≠ y.id) : befM x y = true ∨ befM y x = true := by
  rw [befM_iff, befM_iff]; omega
theorem swoRank : Go.Sort.SWO (ltOf cfRank) where
  irrefl x := by unfold ltOf; rw [decide_eq_false_iff_not, cfRank_neg, befM_irr]; simp
  trans x y z h h2 := by
    unfold ltOf at *
    rw [decide_eq_true_eq, cfRank_neg] at *
    exact befM_trans h h2
  ntrans x y z h h2 := by
    unfold ltOf at *
    rw [decide_eq_false_iff_not, cfRank_neg, befM_iff] at *
    omega
/-- Members by their ranks. -/
def rankS (ms : List Member) : List Member := ms.mergeSort fun x y => !befM y x
theorem rankS_perm (ms : List Member) : (rankS ms).Perm ms := List.mergeSort_perm _ _
theorem rankS_pw (ms : List Member) : (rankS ms).Pairwise fun x y => befM y x = false := by
  have := List.pairwise_mergeSort (le := fun x y : Member => !befM y x) (fun a b c h1 h2 => by
    simp only [Bool.not_eq_true'] at *
    rw [Bool.eq_false_iff, Ne, befM_iff] at *
    omega) (fun a b => by
    by_cases h : befM b a = true
    · simp [h, befM_asym h]
    · simp [h]) ms
  exact this.imp fun h => by simpa using h
def DistId (ms : List Member) : Prop := ms.Pairwise fun x y => x.id < y.id
theorem dist_inj {ms : List Member} (h : DistId ms) {x y : Member} (hx : x ∈ ms) (hy : y ∈ ms) (he : x.id = y.id) : x = y := by
  obtain ⟨i, hi, rfl⟩ := List.mem_iff_getElem.1 hx
  obtain ⟨j, hj, rfl⟩ := List.mem_iff_getElem.1 hy
  rw [DistId, List.pairwise_iff_getElem] at h
  rcases Nat.lt_trichotomy i j with h1 | h1 | h1
  · have := h i j hi hj h1; omega
  · subst h1; rfl
  · have := h j i hj hi h1; omega
theorem rank_uniq {ms ys : List Member} (hd : DistId ms) (hp : ys.Perm ms) (hs : ys.Pairwise fun x y => befM y x = false) : ys = rankS ms := by
  refine sorted_unique (hp.trans (rankS_perm ms).symm) hs (rankS_pw ms) fun x hx y hy h1 h2 => ?_
  by_cases he : x.id = y.id
  · exact dist_inj hd (hp.mem_iff.1 hx) (hp.mem_iff.1 hy) he
  · rcases befM_total he with h | h
    · rw [h] at h2; cases h2
    · rw [h] at h1; cases h1
theorem drop_dist {ms : List Member} (h : DistId ms) (p : Member → Bool) : DistId (dropP p ms) := List.Pairwise.filter _ h
theorem cons_drop {ms : List Member} (h : DistId ms) {b : Member} (hb : b ∈ ms) : (b :: dropP (idIs b.id) ms).Perm ms := by
  induction ms with
  | nil => cases hb
  | cons a t ih =>
    rw [DistId, List.pairwise_cons] at h
    by_cases e : a.id = b.id
    · have hab : a = b := dist_inj (ms := a :: t) (List.pairwise_cons.2 h) List.mem_cons_self hb e
      subst hab
      have : dropP (idIs a.id) (a :: t) = t := by
        unfold dropP
        rw [List.filter_cons_of_neg (by simp [idIs]), List.filter_eq_self]
        intro x hx
        have := h.1 x hx
        simp [idIs]; omega
      rw [this]
    · have hbt : b ∈ t := by
        rcases List.mem_cons.1 hb with h1 | h1
        · exact absurd (by rw [h1]) e
        · exact h1
      have h2 := ih h.2 hbt
      have : dropP (idIs b.id) (a :: t) = a :: dropP (idIs b.id) t := by
        unfold dropP
        rw [List.filter_cons_of_pos (by simpa [idIs] using e)]
      rw [this]
      exact (List.Perm.swap _ _ _).trans (List.Perm.cons _ h2)
theorem rank_best {ms : List Member} (hd : DistId ms) {b : Member} (hb : b ∈ ms) (hm : ∀ x ∈ ms, x ≠ b → befM b x = true) : rankS ms = b :: rankS (dropP (idIs b.id) ms) := by
  symm
  refine rank_uniq hd ((List.Perm.cons _ (rankS_perm _)).trans (cons_drop hd hb)) ?_
  rw [List.pairwise_cons]
  refine ⟨fun y hy => ?_, rankS_pw _⟩
  have hy2 := List.mem_filter.1 ((rankS_perm _).mem_iff.1 hy)
  refine befM_asym (hm y hy2.1 fun e => ?_)
  subst e
  simp [idIs] at hy2
/-- The best of the first i members stands at k. -/
def BestAt (ms : List Member) (k i : Nat) : Prop := k < i ∧ i ≤ ms.length ∧ ∀ j x b, j < i → j ≠ k → ms[j]? = some x → ms[k]? = some b → befM b x = true
theorem BestAt.start {ms : List Member} (h : 0 < ms.length) : BestAt ms 0 1 := ⟨by omega, by omega, fun j x b hj hk => by omega⟩
theorem BestAt.keep {ms : List Member} {k i : Nat} {x b : Member} (hd : DistId ms) (h : BestAt ms k i) (hx : ms[i]? = some x) (hb : ms[k]? = some b) (hn : befM x b = false) : BestAt ms k (i + 1) := by
  have hi := (List.getElem?_eq_some_iff.1 hx).1
  refine ⟨by have := h.1; omega, hi, fun j y b' hj hk hy hb' => ?_⟩
  rw [hb] at hb'; cases hb'
  by_cases e : j = i
  · subst e
    rw [hx] at hy; cases hy
    have hne : b.id ≠ x.id := by
      intro he
      have := dist_inj hd (List.mem_of_getElem? hb) (List.mem_of_getElem? hx) he
      subst this
      have h1 := List.pairwise_iff_getElem.1 hd k j (by have := h.1; omega) hi h.1
      rw [(List.getElem?_eq_some_iff.1 hb).2, (List.getElem?_eq_some_iff.1 hx).2] at h1
      omega
    rcases befM_total hne with h1 | h1
    · exact h1
    · rw [h1] at hn; cases hn
  · exact h.2.2 j y b (by omega) hk hy hb
theorem BestAt.turn {ms : List Member} {k i : Nat} {x b : Member} (h : BestAt ms k i) (hx : ms[i]? = some x) (hb : ms[k]? = some b) (hn : befM x b = true) : BestAt ms i (i + 1) := by
  have hi := (List.getElem?_eq_some_iff.1 hx).1
  refine ⟨by omega, hi, fun j y b' hj hk hy hb' => ?_⟩
  rw [hx] at hb'; cases hb'
  by_cases e : j = k
  · subst e; rw [hb] at hy; cases hy; exact hn
  · exact befM_trans hn (h.2.2 j y b (by omega) e hy hb)
theorem BestAt.all {ms : List Member} {k : Nat} {b : Member} (h : BestAt ms k ms.length) (hb : ms[k]? = some b) : ∀ x ∈ ms, x ≠ b → befM b x = true := by
  intro x hx hne
  obtain ⟨j, hj, rfl⟩ := List.mem_iff_getElem.1 hx
  refine h.2.2 j _ b hj ?_ (List.getElem?_eq_getElem hj) hb
  intro e; subst e
  rw [List.getElem?_eq_getElem hj] at hb
  exact hne (by simpa using hb)
end Go.Proofs.Ytglhepbcbildpaa
