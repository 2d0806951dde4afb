/- Valid presences: the program and the reference. -/
import Derived.Test.YtodmongmaoeknaaRGround
import Derived.Test.YtodmongmaoeknaaRTypes
namespace Go.Proofs.Ytodmongmaoeknaa
open Go Go.RowKit Go.BigFrame
attribute [local go_sem] Calm.cell Calm.frozen
set_option linter.unusedVariables false
set_option linter.unusedSimpArgs false

def leaseFOk (x : Lease) : Bool := inB x.member 1 1000 && inB x.until_ 0 1000000
def leaseF (x : Lease) (p : Option Lease) : Bool := leaseFOk x && match p with | none => true | some q => decide (q.member < x.member)
theorem leaseF_no {x : Lease} {p : Option Lease} (h : leaseFOk x = false) : leaseF x p = false := by simp [leaseF, h]
theorem leaseF_none {x : Lease} (h : leaseFOk x = true) : leaseF x none = true := by simp [leaseF, h]
theorem leaseF_some {x q : Lease} (h : leaseFOk x = true) (h2 : q.member < x.member) : leaseF x (some q) = true := by simp [leaseF, h, h2]
theorem leaseF_ord {x q : Lease} (h : ¬ q.member < x.member) : leaseF x (some q) = false := by simp [leaseF, h]
def markFOk (x : Mark) : Bool := inB x.member 1 1000 && inB x.upto 0 1000000000
def markF (x : Mark) (p : Option Mark) : Bool := markFOk x && match p with | none => true | some q => decide (q.member < x.member)
theorem markF_no {x : Mark} {p : Option Mark} (h : markFOk x = false) : markF x p = false := by simp [markF, h]
theorem markF_none {x : Mark} (h : markFOk x = true) : markF x none = true := by simp [markF, h]
theorem markF_some {x q : Mark} (h : markFOk x = true) (h2 : q.member < x.member) : markF x (some q) = true := by simp [markF, h, h2]
theorem markF_ord {x q : Mark} (h : ¬ q.member < x.member) : markF x (some q) = false := by simp [markF, h]
def leasesB (l : List Lease) : Bool := adjB leaseF none l && decide ((l.length : Int) ≤ 30)
def validPresB (p : Presence) : Bool := adjB markF none p.marks && leasesB p.here && leasesB p.typing && decide ((p.marks.length : Int) ≤ 30)
theorem leases_bad {l : List Lease} {j : Nat} {m : Lease} (hx : l[j]? = some m) (h : leaseF m (prevAt l j) = false) : leasesB l = false := by
  simp only [leasesB, adj_fail (f := leaseF) hx h, Bool.false_and]
theorem leases_all {l : List Lease} (h : ∀ j y, j < l.length → l[j]? = some y → leaseF y (prevAt l j) = true) : leasesB l = decide ((l.length : Int) ≤ 30) := by
  simp only [leasesB, adj_all (f := leaseF) h, Bool.true_and]
theorem pres_bad {p : Presence} {j : Nat} {m : Mark} (hx : p.marks[j]? = some m) (h : markF m (prevAt p.marks j) = false) : validPresB p = false := by
  simp only [validPresB, adj_fail (f := markF) hx h, Bool.false_and]
theorem pres_all {p : Presence} (h : ∀ j y, j < p.marks.length → p.marks[j]? = some y → markF y (prevAt p.marks j) = true) : validPresB p = (leasesB p.here && leasesB p.typing && decide ((p.marks.length : Int) ≤ 30)) := by
  simp only [validPresB, adj_all (f := markF) h, Bool.true_and]
set_option maxHeartbeats 8000000 in
set_option maxRecDepth 100000 in
theorem leasesOk_c (l : List Lease) (v : Value) (w : World) (h : SliceK leaseD w v l) : Calls Try.prog 48 #[v] w fun e w' => e = .returned (.bool (leasesB l)) ∧ Below w.heap.size w w' := by
  obtain ⟨A, c, rfl, hl, hm, hra⟩ := h
  have HA := hide hra
  have HBS := hide (Below.refl w.heap.size w)
  clear hra
  go_enter Try.func48, Try.ntmps48
  go_wp2_with fail
  go_loopg [7] l.length (fun gg sk wr => ∃ k : Nat, k ≤ l.length ∧ l.length - k ≤ gg ∧ sk = .int .i64 k ∧ Hid (∀ j y, j < k → l[j]? = some y → leaseF y (prevAt l j) = true) ∧ Hid (Below w.heap.size w wr))
  case atStart => exact ⟨0, Nat.zero_le _, by omega, rfl, hide (by intro j y hj; omega), HBS⟩
  case round =>
    obtain ⟨k, hk, hg, rfl, HT, HB⟩ := hrel
    clear HBS
    skip
    by_cases hlt : k < l.length
    · obtain ⟨m, hx⟩ : ∃ m, l[k]? = some m := ⟨_, List.getElem?_eq_getElem hlt⟩
      rcases HA.out with hnil | ⟨q, o2, rfl, hra⟩
      · rw [hnil] at hlt; simp at hlt
      obtain ⟨hq, hc0, hc1⟩ := lease_at hra HB.out hx
      have HX := hide hx
      have HRA := hide hra
      have hlt2 : (k : Int) < (l.length : Int) := by omega
      clear hx hra
      by_cases a1 : inB m.member 1 1000 = true
      · skip
        by_cases a2 : inB m.until_ 0 1000000 = true
        · skip
          have HOKM := hide (show leaseFOk m = true by simp [leaseFOk, a1, a2])
          by_cases hk0 : 0 < k
          · obtain ⟨p', hy⟩ : ∃ p', l[k - 1]? = some p' := ⟨_, List.getElem?_eq_getElem (by omega)⟩
            obtain ⟨hqp, hd0, hd1⟩ := lease_at HRA.out HB.out hy
            have HPV := hide (prevAt_succ hk0 hy)
            have hk1 : decide (0 < k) = true := by simp; omega
            have hk3 : (1 : Int) ≤ (k : Int) := by omega
            have hk5 : IntKind.i64.wrap ((k : Int) - 1) = (k : Int) - 1 := IntWalk.i64_in _ (by omega)
            have hk6 : (0 : Int) ≤ (k : Int) - 1 := by omega
            have hk7 : ((k : Int) - 1).toNat = k - 1 := by omega
            clear hy
            by_cases hpo : p'.member < m.member
            · have hpo2 : decide (m.member ≤ p'.member) = false := by simp; omega
              go_wp2_with fail
              (refine wp_region_calm (by kernel_rfl) (by kernel_rfl) ?_; (repeat (first | go_big_quiet_skip | (go_big_quiet_want; go_big_quiet_op; (first | go_big_quiet_on | (apply Exists.intro; refine ⟨fun ic => ?_, ?_⟩; (focus (first | (go_at_call 29; refine (isMember_c _ _).mono ?_; rintro e w2 ⟨rfl, rfl⟩; exact ⟨rfl, Calm.same _⟩) | (go_at_call 61; refine (isTick_c _ _).mono ?_; rintro e w2 ⟨rfl, rfl⟩; exact ⟨rfl, Calm.same _⟩); done)); go_big_quiet_on))))); refine wpQuiet_nil ?_; intro wq hwq; obtain ⟨iq, hwe⟩ := hwq; subst hwe)
              have HB2 := hide (HB.out.trans (Below.mono (show Below wr.heap.size wr iq.world by first | exact iq.boxed | exact iq.below) HB.out.size))
              go_wp2_with fail
              go_roundg (l.length - (k + 1))
              case measure => omega
              case rel => exact ⟨k + 1, by omega, by omega, by go_num, hide (adj_step HT.out HX.out (by rw [HPV.out]; exact leaseF_some HOKM.out hpo)), HB2⟩
            · have hpo2 : decide (m.member ≤ p'.member) = true := by simp; omega
              go_wp2_with fail
              (refine wp_region_calm (by kernel_rfl) (by kernel_rfl) ?_; (repeat (first | go_big_quiet_skip | (go_big_quiet_want; go_big_quiet_op; (first | go_big_quiet_on | (apply Exists.intro; refine ⟨fun ic => ?_, ?_⟩; (focus (first | (go_at_call 29; refine (isMember_c _ _).mono ?_; rintro e w2 ⟨rfl, rfl⟩; exact ⟨rfl, Calm.same _⟩) | (go_at_call 61; refine (isTick_c _ _).mono ?_; rintro e w2 ⟨rfl, rfl⟩; exact ⟨rfl, Calm.same _⟩); done)); go_big_quiet_on))))); refine wpQuiet_nil ?_; intro wq hwq; obtain ⟨iq, hwe⟩ := hwq; subst hwe)
              have HB2 := hide (HB.out.trans (Below.mono (show Below wr.heap.size wr iq.world by first | exact iq.boxed | exact iq.below) HB.out.size))
              go_wp2_with fail
              go_ret
              exact ⟨by rw [show leasesB l = false from leases_bad HX.out (by rw [HPV.out]; exact leaseF_ord (by omega))]; rfl, HB2.out⟩
          · have hk1 : decide (0 < k) = false := by simp; omega
            have HPV := hide (show prevAt l k = none by unfold prevAt; rw [if_pos (by omega)])
            clear hk0
            go_wp2_with fail
            (refine wp_region_calm (by kernel_rfl) (by kernel_rfl) ?_; (repeat (first | go_big_quiet_skip | (go_big_quiet_want; go_big_quiet_op; (first | go_big_quiet_on | (apply Exists.intro; refine ⟨fun ic => ?_, ?_⟩; (focus (first | (go_at_call 29; refine (isMember_c _ _).mono ?_; rintro e w2 ⟨rfl, rfl⟩; exact ⟨rfl, Calm.same _⟩) | (go_at_call 61; refine (isTick_c _ _).mono ?_; rintro e w2 ⟨rfl, rfl⟩; exact ⟨rfl, Calm.same _⟩); done)); go_big_quiet_on))))); refine wpQuiet_nil ?_; intro wq hwq; obtain ⟨iq, hwe⟩ := hwq; subst hwe)
            have HB2 := hide (HB.out.trans (Below.mono (show Below wr.heap.size wr iq.world by first | exact iq.boxed | exact iq.below) HB.out.size))
            go_wp2_with fail
            go_roundg (l.length - (k + 1))
            case measure => omega
            case rel => exact ⟨k + 1, by omega, by omega, by go_num, hide (adj_step HT.out HX.out (by rw [HPV.out]; exact leaseF_none HOKM.out)), HB2⟩
        · have a2 : inB m.until_ 0 1000000 = false := by simpa using a2
          have HNO := hide (show leaseFOk m = false by simp [leaseFOk, a2])
          go_wp2_with fail
          (refine wp_region_calm (by kernel_rfl) (by kernel_rfl) ?_; (repeat (first | go_big_quiet_skip | (go_big_quiet_want; go_big_quiet_op; (first | go_big_quiet_on | (apply Exists.intro; refine ⟨fun ic => ?_, ?_⟩; (focus (first | (go_at_call 29; refine (isMember_c _ _).mono ?_; rintro e w2 ⟨rfl, rfl⟩; exact ⟨rfl, Calm.same _⟩) | (go_at_call 61; refine (isTick_c _ _).mono ?_; rintro e w2 ⟨rfl, rfl⟩; exact ⟨rfl, Calm.same _⟩); done)); go_big_quiet_on))))); refine wpQuiet_nil ?_; intro wq hwq; obtain ⟨iq, hwe⟩ := hwq; subst hwe)
          have HB2 := hide (HB.out.trans (Below.mono (show Below wr.heap.size wr iq.world by first | exact iq.boxed | exact iq.below) HB.out.size))
          go_wp2_with fail
          go_ret
          exact ⟨by rw [show leasesB l = false from leases_bad HX.out (leaseF_no HNO.out)]; rfl, HB2.out⟩
      · have a1 : inB m.member 1 1000 = false := by simpa using a1
        have HNO := hide (show leaseFOk m = false by simp [leaseFOk, a1])
        go_wp2_with fail
        (refine wp_region_calm (by kernel_rfl) (by kernel_rfl) ?_; (repeat (first | go_big_quiet_skip | (go_big_quiet_want; go_big_quiet_op; (first | go_big_quiet_on | (apply Exists.intro; refine ⟨fun ic => ?_, ?_⟩; (focus (first | (go_at_call 29; refine (isMember_c _ _).mono ?_; rintro e w2 ⟨rfl, rfl⟩; exact ⟨rfl, Calm.same _⟩) | (go_at_call 61; refine (isTick_c _ _).mono ?_; rintro e w2 ⟨rfl, rfl⟩; exact ⟨rfl, Calm.same _⟩); done)); go_big_quiet_on))))); refine wpQuiet_nil ?_; intro wq hwq; obtain ⟨iq, hwe⟩ := hwq; subst hwe)
        have HB2 := hide (HB.out.trans (Below.mono (show Below wr.heap.size wr iq.world by first | exact iq.boxed | exact iq.below) HB.out.size))
        go_wp2_with fail
        go_ret
        exact ⟨by rw [show leasesB l = false from leases_bad HX.out (leaseF_no HNO.out)]; rfl, HB2.out⟩
    · obtain rfl : k = l.length := by omega
      clear hlt hk hg
      have hr := hide (leases_all HT.out)
      clear HA
      go_wp2_with fail
      go_ret
      exact ⟨by rw [hr.out]; rfl, HB.out⟩
set_option maxHeartbeats 8000000 in
set_option maxRecDepth 100000 in
theorem l05Leases_c (l : List Lease) (v : Value) (w : World) (h : SliceK leaseD w v l) : Calls Try.prog 41 #[v] w fun e w' => e = .returned (.bool (leasesB l)) ∧ Below w.heap.size w w' := by
  obtain ⟨A, c, rfl, hl, hm, hra⟩ := h
  have HA := hide hra
  have HBS := hide (Below.refl w.heap.size w)
  clear hra
  go_enter Try.func41, Try.ntmps41
  go_wp2_with fail
  go_loopg [6] l.length (fun gg sk wr => ∃ k : Nat, k ≤ l.length ∧ l.length - k ≤ gg ∧ sk = .int .i64 k ∧ Hid (∀ j y, j < k → l[j]? = some y → leaseF y (prevAt l j) = true) ∧ Hid (Below w.heap.size w wr))
  case atStart => exact ⟨0, Nat.zero_le _, by omega, rfl, hide (by intro j y hj; omega), HBS⟩
  case round =>
    obtain ⟨k, hk, hg, rfl, HT, HB⟩ := hrel
    clear HBS
    skip
    by_cases hlt : k < l.length
    · obtain ⟨m, hx⟩ : ∃ m, l[k]? = some m := ⟨_, List.getElem?_eq_getElem hlt⟩
      rcases HA.out with hnil | ⟨q, o2, rfl, hra⟩
      · rw [hnil] at hlt; simp at hlt
      obtain ⟨hq, hc0, hc1⟩ := lease_at hra HB.out hx
      have HX := hide hx
      have HRA := hide hra
      have hlt2 : (k : Int) < (l.length : Int) := by omega
      clear hx hra
      by_cases a1 : inB m.member 1 1000 = true
      · skip
        by_cases a2 : inB m.until_ 0 1000000 = true
        · skip
          have HOKM := hide (show leaseFOk m = true by simp [leaseFOk, a1, a2])
          by_cases hk0 : 0 < k
          · obtain ⟨p', hy⟩ : ∃ p', l[k - 1]? = some p' := ⟨_, List.getElem?_eq_getElem (by omega)⟩
            obtain ⟨hqp, hd0, hd1⟩ := lease_at HRA.out HB.out hy
            have HPV := hide (prevAt_succ hk0 hy)
            have hk1 : decide (0 < k) = true := by simp; omega
            have hk3 : (1 : Int) ≤ (k : Int) := by omega
            have hk5 : IntKind.i64.wrap ((k : Int) - 1) = (k : Int) - 1 := IntWalk.i64_in _ (by omega)
            have hk6 : (0 : Int) ≤ (k : Int) - 1 := by omega
            have hk7 : ((k : Int) - 1).toNat = k - 1 := by omega
            clear hy
            by_cases hpo : p'.member < m.member
            · have hpo2 : decide (m.member ≤ p'.member) = false := by simp; omega
              go_wp2_with fail
              (refine wp_region_calm (by kernel_rfl) (by kernel_rfl) ?_; (repeat (first | go_big_quiet_skip | (go_big_quiet_want; go_big_quiet_op; (first | go_big_quiet_on | (apply Exists.intro; refine ⟨fun ic => ?_, ?_⟩; (focus (first | (go_at_call 22; refine (l01Member_c _ _).mono ?_; rintro e w2 ⟨rfl, rfl⟩; exact ⟨rfl, Calm.same _⟩) | (go_at_call 56; refine (l01Tick_c _ _).mono ?_; rintro e w2 ⟨rfl, rfl⟩; exact ⟨rfl, Calm.same _⟩); done)); go_big_quiet_on))))); refine wpQuiet_nil ?_; intro wq hwq; obtain ⟨iq, hwe⟩ := hwq; subst hwe)
              have HB2 := hide (HB.out.trans (Below.mono (show Below wr.heap.size wr iq.world by first | exact iq.boxed | exact iq.below) HB.out.size))
              go_wp2_with fail
              go_roundg (l.length - (k + 1))
              case measure => omega
              case rel => exact ⟨k + 1, by omega, by omega, by go_num, hide (adj_step HT.out HX.out (by rw [HPV.out]; exact leaseF_some HOKM.out hpo)), HB2⟩
            · have hpo2 : decide (m.member ≤ p'.member) = true := by simp; omega
              go_wp2_with fail
              (refine wp_region_calm (by kernel_rfl) (by kernel_rfl) ?_; (repeat (first | go_big_quiet_skip | (go_big_quiet_want; go_big_quiet_op; (first | go_big_quiet_on | (apply Exists.intro; refine ⟨fun ic => ?_, ?_⟩; (focus (first | (go_at_call 22; refine (l01Member_c _ _).mono ?_; rintro e w2 ⟨rfl, rfl⟩; exact ⟨rfl, Calm.same _⟩) | (go_at_call 56; refine (l01Tick_c _ _).mono ?_; rintro e w2 ⟨rfl, rfl⟩; exact ⟨rfl, Calm.same _⟩); done)); go_big_quiet_on))))); refine wpQuiet_nil ?_; intro wq hwq; obtain ⟨iq, hwe⟩ := hwq; subst hwe)
              have HB2 := hide (HB.out.trans (Below.mono (show Below wr.heap.size wr iq.world by first | exact iq.boxed | exact iq.below) HB.out.size))
              go_wp2_with fail
              go_ret
              exact ⟨by rw [show leasesB l = false from leases_bad HX.out (by rw [HPV.out]; exact leaseF_ord (by omega))]; rfl, HB2.out⟩
          · have hk1 : decide (0 < k) = false := by simp; omega
            have HPV := hide (show prevAt l k = none by unfold prevAt; rw [if_pos (by omega)])
            clear hk0
            go_wp2_with fail
            (refine wp_region_calm (by kernel_rfl) (by kernel_rfl) ?_; (repeat (first | go_big_quiet_skip | (go_big_quiet_want; go_big_quiet_op; (first | go_big_quiet_on | (apply Exists.intro; refine ⟨fun ic => ?_, ?_⟩; (focus (first | (go_at_call 22; refine (l01Member_c _ _).mono ?_; rintro e w2 ⟨rfl, rfl⟩; exact ⟨rfl, Calm.same _⟩) | (go_at_call 56; refine (l01Tick_c _ _).mono ?_; rintro e w2 ⟨rfl, rfl⟩; exact ⟨rfl, Calm.same _⟩); done)); go_big_quiet_on))))); refine wpQuiet_nil ?_; intro wq hwq; obtain ⟨iq, hwe⟩ := hwq; subst hwe)
            have HB2 := hide (HB.out.trans (Below.mono (show Below wr.heap.size wr iq.world by first | exact iq.boxed | exact iq.below) HB.out.size))
            go_wp2_with fail
            go_roundg (l.length - (k + 1))
            case measure => omega
            case rel => exact ⟨k + 1, by omega, by omega, by go_num, hide (adj_step HT.out HX.out (by rw [HPV.out]; exact leaseF_none HOKM.out)), HB2⟩
        · have a2 : inB m.until_ 0 1000000 = false := by simpa using a2
          have HNO := hide (show leaseFOk m = false by simp [leaseFOk, a2])
          go_wp2_with fail
          (refine wp_region_calm (by kernel_rfl) (by kernel_rfl) ?_; (repeat (first | go_big_quiet_skip | (go_big_quiet_want; go_big_quiet_op; (first | go_big_quiet_on | (apply Exists.intro; refine ⟨fun ic => ?_, ?_⟩; (focus (first | (go_at_call 22; refine (l01Member_c _ _).mono ?_; rintro e w2 ⟨rfl, rfl⟩; exact ⟨rfl, Calm.same _⟩) | (go_at_call 56; refine (l01Tick_c _ _).mono ?_; rintro e w2 ⟨rfl, rfl⟩; exact ⟨rfl, Calm.same _⟩); done)); go_big_quiet_on))))); refine wpQuiet_nil ?_; intro wq hwq; obtain ⟨iq, hwe⟩ := hwq; subst hwe)
          have HB2 := hide (HB.out.trans (Below.mono (show Below wr.heap.size wr iq.world by first | exact iq.boxed | exact iq.below) HB.out.size))
          go_wp2_with fail
          go_ret
          exact ⟨by rw [show leasesB l = false from leases_bad HX.out (leaseF_no HNO.out)]; rfl, HB2.out⟩
      · have a1 : inB m.member 1 1000 = false := by simpa using a1
        have HNO := hide (show leaseFOk m = false by simp [leaseFOk, a1])
        go_wp2_with fail
        (refine wp_region_calm (by kernel_rfl) (by kernel_rfl) ?_; (repeat (first | go_big_quiet_skip | (go_big_quiet_want; go_big_quiet_op; (first | go_big_quiet_on | (apply Exists.intro; refine ⟨fun ic => ?_, ?_⟩; (focus (first | (go_at_call 22; refine (l01Member_c _ _).mono ?_; rintro e w2 ⟨rfl, rfl⟩; exact ⟨rfl, Calm.same _⟩) | (go_at_call 56; refine (l01Tick_c _ _).mono ?_; rintro e w2 ⟨rfl, rfl⟩; exact ⟨rfl, Calm.same _⟩); done)); go_big_quiet_on))))); refine wpQuiet_nil ?_; intro wq hwq; obtain ⟨iq, hwe⟩ := hwq; subst hwe)
        have HB2 := hide (HB.out.trans (Below.mono (show Below wr.heap.size wr iq.world by first | exact iq.boxed | exact iq.below) HB.out.size))
        go_wp2_with fail
        go_ret
        exact ⟨by rw [show leasesB l = false from leases_bad HX.out (leaseF_no HNO.out)]; rfl, HB2.out⟩
    · obtain rfl : k = l.length := by omega
      clear hlt hk hg
      have hr := hide (leases_all HT.out)
      clear HA
      go_wp2_with fail
      go_ret
      exact ⟨by rw [hr.out]; rfl, HB.out⟩
set_option maxHeartbeats 8000000 in
set_option maxRecDepth 100000 in
theorem validPresence_c (p : Presence) (v0 v1 v2 : Value) (w : World) (h0 : SliceK leaseD w v0 p.here) (h1 : SliceK leaseD w v1 p.typing) (h2 : SliceK markD w v2 p.marks) :
    Calls Try.prog 27 #[.agg #[v0, v1, v2]] w fun e w' => e = .returned (.bool (validPresB p)) ∧ Below w.heap.size w w' := by
  obtain ⟨V, hV⟩ : ∃ V, V = w.alloc (.cells #[v0, v1, v2] 37) := ⟨_, rfl⟩
  have HV := hide (show Below w.heap.size w V by subst hV; exact (Below.refl _ _).alloc (Nat.le_refl _) _)
  obtain ⟨A0, c0, rfl⟩ := h0.shape
  obtain ⟨A1, c1, rfl⟩ := h1.shape
  obtain ⟨A2, c2, rfl, hl2, hm2, hr2⟩ := h2.below HV.out
  have hlw : w.heap.size < V.heap.size := by subst hV; simp
  have HBC := hide (And.intro (show V.cell? ⟨w.heap.size, 0, none⟩ = some (.slice A0 p.here.length c0) by subst hV; simp) (And.intro (show V.cell? ⟨w.heap.size, 1, none⟩ = some (.slice A1 p.typing.length c1) by subst hV; simp) (And.intro (show V.cell? ⟨w.heap.size, 2, none⟩ = some (.slice A2 p.marks.length c2) by subst hV; simp) hlw)))
  have H0 := hide (h0.below HV.out)
  have H1 := hide (h1.below HV.out)
  have HR2 := hide hr2
  have HBS := hide (Below.refl V.heap.size V)
  clear h0 h1 h2 hr2 hlw
  go_enter Try.func27, Try.ntmps27
  go_wp2_with fail
  rw [← hV]
  clear hV
  go_loopg [8] p.marks.length (fun gg sk wr => ∃ k : Nat, k ≤ p.marks.length ∧ p.marks.length - k ≤ gg ∧ sk = .int .i64 k ∧ Hid (∀ j y, j < k → p.marks[j]? = some y → markF y (prevAt p.marks j) = true) ∧ Hid (Below V.heap.size V wr))
  case atStart => exact ⟨0, Nat.zero_le _, by omega, rfl, hide (by intro j y hj; omega), HBS⟩
  case round =>
    obtain ⟨k, hk, hg, rfl, HT, HB⟩ := hrel
    clear HBS
    have b0 := cell_below HB.out HBC.out.1
    have b1 := cell_below HB.out HBC.out.2.1
    have b2 := cell_below HB.out HBC.out.2.2.1
    have hlw := Nat.lt_of_lt_of_le HBC.out.2.2.2 HB.out.size
    by_cases hlt : k < p.marks.length
    · obtain ⟨m, hx⟩ : ∃ m, p.marks[k]? = some m := ⟨_, List.getElem?_eq_getElem hlt⟩
      rcases HR2.out with hnil | ⟨q, o2, rfl, hra⟩
      · rw [hnil] at hlt; simp at hlt
      obtain ⟨hq, hc0, hc1⟩ := mark_at hra HB.out hx
      have HX := hide hx
      have HRA := hide hra
      have hlt2 : (k : Int) < (p.marks.length : Int) := by omega
      clear hx hra
      by_cases a1 : inB m.member 1 1000 = true
      · skip
        by_cases a2 : inB m.upto 0 1000000000 = true
        · skip
          have HOKM := hide (show markFOk m = true by simp [markFOk, a1, a2])
          by_cases hk0 : 0 < k
          · obtain ⟨p', hy⟩ : ∃ p', p.marks[k - 1]? = some p' := ⟨_, List.getElem?_eq_getElem (by omega)⟩
            obtain ⟨hqp, hd0, hd1⟩ := mark_at HRA.out HB.out hy
            have HPV := hide (prevAt_succ hk0 hy)
            have hk1 : decide (0 < k) = true := by simp; omega
            have hk3 : (1 : Int) ≤ (k : Int) := by omega
            have hk5 : IntKind.i64.wrap ((k : Int) - 1) = (k : Int) - 1 := IntWalk.i64_in _ (by omega)
            have hk6 : (0 : Int) ≤ (k : Int) - 1 := by omega
            have hk7 : ((k : Int) - 1).toNat = k - 1 := by omega
            clear hy
            by_cases hpo : p'.member < m.member
            · have hpo2 : decide (m.member ≤ p'.member) = false := by simp; omega
              go_wp2_with fail
              (refine wp_region_calm (by kernel_rfl) (by kernel_rfl) ?_; (repeat (first | go_big_quiet_skip | (go_big_quiet_want; go_big_quiet_op; (first | go_big_quiet_on | (apply Exists.intro; refine ⟨fun ic => ?_, ?_⟩; (focus (first | (go_at_call 29; refine (isMember_c _ _).mono ?_; rintro e w2 ⟨rfl, rfl⟩; exact ⟨rfl, Calm.same _⟩) | (go_at_call 47; refine (in_c _ _ _ _).mono ?_; rintro e w2 ⟨rfl, rfl⟩; exact ⟨rfl, Calm.same _⟩); done)); go_big_quiet_on))))); refine wpQuiet_nil ?_; intro wq hwq; obtain ⟨iq, hwe⟩ := hwq; subst hwe)
              have HB2 := hide (HB.out.trans (Below.mono (show Below wr.heap.size wr iq.world by first | exact iq.boxed | exact iq.below) HB.out.size))
              go_wp2_with fail
              go_roundg (p.marks.length - (k + 1))
              case measure => omega
              case rel => exact ⟨k + 1, by omega, by omega, by go_num, hide (adj_step HT.out HX.out (by rw [HPV.out]; exact markF_some HOKM.out hpo)), HB2⟩
            · have hpo2 : decide (m.member ≤ p'.member) = true := by simp; omega
              go_wp2_with fail
              (refine wp_region_calm (by kernel_rfl) (by kernel_rfl) ?_; (repeat (first | go_big_quiet_skip | (go_big_quiet_want; go_big_quiet_op; (first | go_big_quiet_on | (apply Exists.intro; refine ⟨fun ic => ?_, ?_⟩; (focus (first | (go_at_call 29; refine (isMember_c _ _).mono ?_; rintro e w2 ⟨rfl, rfl⟩; exact ⟨rfl, Calm.same _⟩) | (go_at_call 47; refine (in_c _ _ _ _).mono ?_; rintro e w2 ⟨rfl, rfl⟩; exact ⟨rfl, Calm.same _⟩); done)); go_big_quiet_on))))); refine wpQuiet_nil ?_; intro wq hwq; obtain ⟨iq, hwe⟩ := hwq; subst hwe)
              have HB2 := hide (HB.out.trans (Below.mono (show Below wr.heap.size wr iq.world by first | exact iq.boxed | exact iq.below) HB.out.size))
              go_wp2_with fail
              go_ret
              exact ⟨by rw [show validPresB p = false from pres_bad HX.out (by rw [HPV.out]; exact markF_ord (by omega))]; rfl, below_step HV.out HB2.out⟩
          · have hk1 : decide (0 < k) = false := by simp; omega
            have HPV := hide (show prevAt p.marks k = none by unfold prevAt; rw [if_pos (by omega)])
            clear hk0
            go_wp2_with fail
            (refine wp_region_calm (by kernel_rfl) (by kernel_rfl) ?_; (repeat (first | go_big_quiet_skip | (go_big_quiet_want; go_big_quiet_op; (first | go_big_quiet_on | (apply Exists.intro; refine ⟨fun ic => ?_, ?_⟩; (focus (first | (go_at_call 29; refine (isMember_c _ _).mono ?_; rintro e w2 ⟨rfl, rfl⟩; exact ⟨rfl, Calm.same _⟩) | (go_at_call 47; refine (in_c _ _ _ _).mono ?_; rintro e w2 ⟨rfl, rfl⟩; exact ⟨rfl, Calm.same _⟩); done)); go_big_quiet_on))))); refine wpQuiet_nil ?_; intro wq hwq; obtain ⟨iq, hwe⟩ := hwq; subst hwe)
            have HB2 := hide (HB.out.trans (Below.mono (show Below wr.heap.size wr iq.world by first | exact iq.boxed | exact iq.below) HB.out.size))
            go_wp2_with fail
            go_roundg (p.marks.length - (k + 1))
            case measure => omega
            case rel => exact ⟨k + 1, by omega, by omega, by go_num, hide (adj_step HT.out HX.out (by rw [HPV.out]; exact markF_none HOKM.out)), HB2⟩
        · have a2 : inB m.upto 0 1000000000 = false := by simpa using a2
          have HNO := hide (show markFOk m = false by simp [markFOk, a2])
          go_wp2_with fail
          (refine wp_region_calm (by kernel_rfl) (by kernel_rfl) ?_; (repeat (first | go_big_quiet_skip | (go_big_quiet_want; go_big_quiet_op; (first | go_big_quiet_on | (apply Exists.intro; refine ⟨fun ic => ?_, ?_⟩; (focus (first | (go_at_call 29; refine (isMember_c _ _).mono ?_; rintro e w2 ⟨rfl, rfl⟩; exact ⟨rfl, Calm.same _⟩) | (go_at_call 47; refine (in_c _ _ _ _).mono ?_; rintro e w2 ⟨rfl, rfl⟩; exact ⟨rfl, Calm.same _⟩); done)); go_big_quiet_on))))); refine wpQuiet_nil ?_; intro wq hwq; obtain ⟨iq, hwe⟩ := hwq; subst hwe)
          have HB2 := hide (HB.out.trans (Below.mono (show Below wr.heap.size wr iq.world by first | exact iq.boxed | exact iq.below) HB.out.size))
          go_wp2_with fail
          go_ret
          exact ⟨by rw [show validPresB p = false from pres_bad HX.out (markF_no HNO.out)]; rfl, below_step HV.out HB2.out⟩
      · have a1 : inB m.member 1 1000 = false := by simpa using a1
        have HNO := hide (show markFOk m = false by simp [markFOk, a1])
        go_wp2_with fail
        (refine wp_region_calm (by kernel_rfl) (by kernel_rfl) ?_; (repeat (first | go_big_quiet_skip | (go_big_quiet_want; go_big_quiet_op; (first | go_big_quiet_on | (apply Exists.intro; refine ⟨fun ic => ?_, ?_⟩; (focus (first | (go_at_call 29; refine (isMember_c _ _).mono ?_; rintro e w2 ⟨rfl, rfl⟩; exact ⟨rfl, Calm.same _⟩) | (go_at_call 47; refine (in_c _ _ _ _).mono ?_; rintro e w2 ⟨rfl, rfl⟩; exact ⟨rfl, Calm.same _⟩); done)); go_big_quiet_on))))); refine wpQuiet_nil ?_; intro wq hwq; obtain ⟨iq, hwe⟩ := hwq; subst hwe)
        have HB2 := hide (HB.out.trans (Below.mono (show Below wr.heap.size wr iq.world by first | exact iq.boxed | exact iq.below) HB.out.size))
        go_wp2_with fail
        go_ret
        exact ⟨by rw [show validPresB p = false from pres_bad HX.out (markF_no HNO.out)]; rfl, below_step HV.out HB2.out⟩
    · obtain rfl : k = p.marks.length := by omega
      clear hlt hk hg
      clear HR2
      have hall := hide (pres_all HT.out)
      by_cases e0 : leasesB p.here = true
      · have E0 := hide e0
        by_cases e1 : leasesB p.typing = true
        · have E1 := hide e1
          have hr := hide (show validPresB p = decide ((p.marks.length : Int) ≤ 30) by rw [hall.out, e0, e1]; rfl)
          clear e0 e1
          go_wp2_with (first
            | (go_at_call 48
               refine (leasesOk_c p.typing _ _ (H1.out.below HB8.out)).mono ?_
               rintro e w9 ⟨rfl, hb⟩
               rw [E1.out]
               have HB9 := hide (HB8.out.trans (hb.mono HB8.out.size))
               clear b0 b1 b2 hlw; have b0 := cell_below HB9.out HBC.out.1; have b1 := cell_below HB9.out HBC.out.2.1; have b2 := cell_below HB9.out HBC.out.2.2.1; have hlw := Nat.lt_of_lt_of_le HBC.out.2.2.2 HB9.out.size
               clear hb)
            | (go_at_call 48
               refine (leasesOk_c p.here _ _ (H0.out.below HB.out)).mono ?_
               rintro e w8 ⟨rfl, hb⟩
               rw [E0.out]
               have HB8 := hide (HB.out.trans (hb.mono HB.out.size))
               clear b0 b1 b2 hlw; have b0 := cell_below HB8.out HBC.out.1; have b1 := cell_below HB8.out HBC.out.2.1; have b2 := cell_below HB8.out HBC.out.2.2.1; have hlw := Nat.lt_of_lt_of_le HBC.out.2.2.2 HB8.out.size
               clear hb))
          go_ret
          exact ⟨by rw [hr.out]; rfl, below_step HV.out HB9.out⟩
        · have E1 := hide (show leasesB p.typing = false by simpa using e1)
          have hr := hide (show validPresB p = false by rw [hall.out, E1.out]; simp)
          clear e0 e1
          go_wp2_with (first
            | (go_at_call 48
               refine (leasesOk_c p.typing _ _ (H1.out.below HB8.out)).mono ?_
               rintro e w9 ⟨rfl, hb⟩
               rw [E1.out]
               have HB9 := hide (HB8.out.trans (hb.mono HB8.out.size))
               clear b0 b1 b2 hlw; have b0 := cell_below HB9.out HBC.out.1; have b1 := cell_below HB9.out HBC.out.2.1; have b2 := cell_below HB9.out HBC.out.2.2.1; have hlw := Nat.lt_of_lt_of_le HBC.out.2.2.2 HB9.out.size
               clear hb)
            | (go_at_call 48
               refine (leasesOk_c p.here _ _ (H0.out.below HB.out)).mono ?_
               rintro e w8 ⟨rfl, hb⟩
               rw [E0.out]
               have HB8 := hide (HB.out.trans (hb.mono HB.out.size))
               clear b0 b1 b2 hlw; have b0 := cell_below HB8.out HBC.out.1; have b1 := cell_below HB8.out HBC.out.2.1; have b2 := cell_below HB8.out HBC.out.2.2.1; have hlw := Nat.lt_of_lt_of_le HBC.out.2.2.2 HB8.out.size
               clear hb))
          go_ret
          exact ⟨by rw [hr.out]; rfl, below_step HV.out HB9.out⟩
      · have E0 := hide (show leasesB p.here = false by simpa using e0)
        have hr := hide (show validPresB p = false by rw [hall.out, E0.out]; simp)
        clear e0
        go_wp2_with (first
          | (go_at_call 48
             refine (leasesOk_c p.here _ _ (H0.out.below HB.out)).mono ?_
             rintro e w8 ⟨rfl, hb⟩
             rw [E0.out]
             have HB8 := hide (HB.out.trans (hb.mono HB.out.size))
             clear b0 b1 b2 hlw; have b0 := cell_below HB8.out HBC.out.1; have b1 := cell_below HB8.out HBC.out.2.1; have b2 := cell_below HB8.out HBC.out.2.2.1; have hlw := Nat.lt_of_lt_of_le HBC.out.2.2.2 HB8.out.size
             clear hb))
        go_ret
        exact ⟨by rw [hr.out]; rfl, below_step HV.out HB8.out⟩
set_option maxHeartbeats 8000000 in
set_option maxRecDepth 100000 in
theorem l05Is_c (p : Presence) (b o : Nat) (w : World) (hp : RowAt presenceD w b o [p]) :
    Calls Try.prog 20 #[.pointer (some ⟨b, o, none⟩)] w fun e w' => e = .returned (.bool (validPresB p)) ∧ Below w.heap.size w w' := by
  obtain ⟨v0, v1, v2, h0, h1, h2, hbz, hb0, hb1, hb2⟩ := presence_at hp (Below.refl _ _) (j := 0) rfl
  simp only [Nat.zero_mul, Nat.add_zero] at hb0 hb1 hb2
  obtain ⟨A0, c0, rfl⟩ := h0.shape
  obtain ⟨A1, c1, rfl⟩ := h1.shape
  obtain ⟨A2, c2, rfl, hl2, hm2, hr2⟩ := h2
  have HBC := hide (And.intro hb0 (And.intro hb1 (And.intro hb2 hbz)))
  have H0 := hide h0
  have H1 := hide h1
  have HR2 := hide hr2
  have HBS := hide (Below.refl w.heap.size w)
  clear h0 h1 hr2 hp
  go_enter Try.func20, Try.ntmps20
  go_wp2_with fail
  clear hb0 hb1 hb2 hbz
  go_loopg [10] p.marks.length (fun gg sk wr => ∃ k : Nat, k ≤ p.marks.length ∧ p.marks.length - k ≤ gg ∧ sk = .int .i64 k ∧ Hid (∀ j y, j < k → p.marks[j]? = some y → markF y (prevAt p.marks j) = true) ∧ Hid (Below w.heap.size w wr))
  case atStart => exact ⟨0, Nat.zero_le _, by omega, rfl, hide (by intro j y hj; omega), HBS⟩
  case round =>
    obtain ⟨k, hk, hg, rfl, HT, HB⟩ := hrel
    clear HBS
    have b0 := cell_below HB.out HBC.out.1
    have b1 := cell_below HB.out HBC.out.2.1
    have b2 := cell_below HB.out HBC.out.2.2.1
    have hlw := Nat.lt_of_lt_of_le HBC.out.2.2.2 HB.out.size
    by_cases hlt : k < p.marks.length
    · obtain ⟨m, hx⟩ : ∃ m, p.marks[k]? = some m := ⟨_, List.getElem?_eq_getElem hlt⟩
      rcases HR2.out with hnil | ⟨q, o2, rfl, hra⟩
      · rw [hnil] at hlt; simp at hlt
      obtain ⟨hq, hc0, hc1⟩ := mark_at hra HB.out hx
      have HX := hide hx
      have HRA := hide hra
      have hlt2 : (k : Int) < (p.marks.length : Int) := by omega
      clear hx hra
      by_cases a1 : inB m.member 1 1000 = true
      · skip
        by_cases a2 : inB m.upto 0 1000000000 = true
        · skip
          have HOKM := hide (show markFOk m = true by simp [markFOk, a1, a2])
          by_cases hk0 : 0 < k
          · obtain ⟨p', hy⟩ : ∃ p', p.marks[k - 1]? = some p' := ⟨_, List.getElem?_eq_getElem (by omega)⟩
            obtain ⟨hqp, hd0, hd1⟩ := mark_at HRA.out HB.out hy
            have HPV := hide (prevAt_succ hk0 hy)
            have hk1 : decide (0 < k) = true := by simp; omega
            have hk3 : (1 : Int) ≤ (k : Int) := by omega
            have hk5 : IntKind.i64.wrap ((k : Int) - 1) = (k : Int) - 1 := IntWalk.i64_in _ (by omega)
            have hk6 : (0 : Int) ≤ (k : Int) - 1 := by omega
            have hk7 : ((k : Int) - 1).toNat = k - 1 := by omega
            clear hy
            by_cases hpo : p'.member < m.member
            · have hpo2 : decide (m.member ≤ p'.member) = false := by simp; omega
              go_wp2_with fail
              (refine wp_region_calm (by kernel_rfl) (by kernel_rfl) ?_; (repeat (first | go_big_quiet_skip | (go_big_quiet_want; go_big_quiet_op; (first | go_big_quiet_on | (apply Exists.intro; refine ⟨fun ic => ?_, ?_⟩; (focus (first | (go_at_call 22; refine (l01Member_c _ _).mono ?_; rintro e w2 ⟨rfl, rfl⟩; exact ⟨rfl, Calm.same _⟩) | (go_at_call 40; refine (l00In_c _ _ _ _).mono ?_; rintro e w2 ⟨rfl, rfl⟩; exact ⟨rfl, Calm.same _⟩); done)); go_big_quiet_on))))); refine wpQuiet_nil ?_; intro wq hwq; obtain ⟨iq, hwe⟩ := hwq; subst hwe)
              have HB2 := hide (HB.out.trans (Below.mono (show Below wr.heap.size wr iq.world by first | exact iq.boxed | exact iq.below) HB.out.size))
              go_wp2_with fail
              go_roundg (p.marks.length - (k + 1))
              case measure => omega
              case rel => exact ⟨k + 1, by omega, by omega, by go_num, hide (adj_step HT.out HX.out (by rw [HPV.out]; exact markF_some HOKM.out hpo)), HB2⟩
            · have hpo2 : decide (m.member ≤ p'.member) = true := by simp; omega
              go_wp2_with fail
              (refine wp_region_calm (by kernel_rfl) (by kernel_rfl) ?_; (repeat (first | go_big_quiet_skip | (go_big_quiet_want; go_big_quiet_op; (first | go_big_quiet_on | (apply Exists.intro; refine ⟨fun ic => ?_, ?_⟩; (focus (first | (go_at_call 22; refine (l01Member_c _ _).mono ?_; rintro e w2 ⟨rfl, rfl⟩; exact ⟨rfl, Calm.same _⟩) | (go_at_call 40; refine (l00In_c _ _ _ _).mono ?_; rintro e w2 ⟨rfl, rfl⟩; exact ⟨rfl, Calm.same _⟩); done)); go_big_quiet_on))))); refine wpQuiet_nil ?_; intro wq hwq; obtain ⟨iq, hwe⟩ := hwq; subst hwe)
              have HB2 := hide (HB.out.trans (Below.mono (show Below wr.heap.size wr iq.world by first | exact iq.boxed | exact iq.below) HB.out.size))
              go_wp2_with fail
              go_ret
              exact ⟨by rw [show validPresB p = false from pres_bad HX.out (by rw [HPV.out]; exact markF_ord (by omega))]; rfl, HB2.out⟩
          · have hk1 : decide (0 < k) = false := by simp; omega
            have HPV := hide (show prevAt p.marks k = none by unfold prevAt; rw [if_pos (by omega)])
            clear hk0
            go_wp2_with fail
            (refine wp_region_calm (by kernel_rfl) (by kernel_rfl) ?_; (repeat (first | go_big_quiet_skip | (go_big_quiet_want; go_big_quiet_op; (first | go_big_quiet_on | (apply Exists.intro; refine ⟨fun ic => ?_, ?_⟩; (focus (first | (go_at_call 22; refine (l01Member_c _ _).mono ?_; rintro e w2 ⟨rfl, rfl⟩; exact ⟨rfl, Calm.same _⟩) | (go_at_call 40; refine (l00In_c _ _ _ _).mono ?_; rintro e w2 ⟨rfl, rfl⟩; exact ⟨rfl, Calm.same _⟩); done)); go_big_quiet_on))))); refine wpQuiet_nil ?_; intro wq hwq; obtain ⟨iq, hwe⟩ := hwq; subst hwe)
            have HB2 := hide (HB.out.trans (Below.mono (show Below wr.heap.size wr iq.world by first | exact iq.boxed | exact iq.below) HB.out.size))
            go_wp2_with fail
            go_roundg (p.marks.length - (k + 1))
            case measure => omega
            case rel => exact ⟨k + 1, by omega, by omega, by go_num, hide (adj_step HT.out HX.out (by rw [HPV.out]; exact markF_none HOKM.out)), HB2⟩
        · have a2 : inB m.upto 0 1000000000 = false := by simpa using a2
          have HNO := hide (show markFOk m = false by simp [markFOk, a2])
          go_wp2_with fail
          (refine wp_region_calm (by kernel_rfl) (by kernel_rfl) ?_; (repeat (first | go_big_quiet_skip | (go_big_quiet_want; go_big_quiet_op; (first | go_big_quiet_on | (apply Exists.intro; refine ⟨fun ic => ?_, ?_⟩; (focus (first | (go_at_call 22; refine (l01Member_c _ _).mono ?_; rintro e w2 ⟨rfl, rfl⟩; exact ⟨rfl, Calm.same _⟩) | (go_at_call 40; refine (l00In_c _ _ _ _).mono ?_; rintro e w2 ⟨rfl, rfl⟩; exact ⟨rfl, Calm.same _⟩); done)); go_big_quiet_on))))); refine wpQuiet_nil ?_; intro wq hwq; obtain ⟨iq, hwe⟩ := hwq; subst hwe)
          have HB2 := hide (HB.out.trans (Below.mono (show Below wr.heap.size wr iq.world by first | exact iq.boxed | exact iq.below) HB.out.size))
          go_wp2_with fail
          go_ret
          exact ⟨by rw [show validPresB p = false from pres_bad HX.out (markF_no HNO.out)]; rfl, HB2.out⟩
      · have a1 : inB m.member 1 1000 = false := by simpa using a1
        have HNO := hide (show markFOk m = false by simp [markFOk, a1])
        go_wp2_with fail
        (refine wp_region_calm (by kernel_rfl) (by kernel_rfl) ?_; (repeat (first | go_big_quiet_skip | (go_big_quiet_want; go_big_quiet_op; (first | go_big_quiet_on | (apply Exists.intro; refine ⟨fun ic => ?_, ?_⟩; (focus (first | (go_at_call 22; refine (l01Member_c _ _).mono ?_; rintro e w2 ⟨rfl, rfl⟩; exact ⟨rfl, Calm.same _⟩) | (go_at_call 40; refine (l00In_c _ _ _ _).mono ?_; rintro e w2 ⟨rfl, rfl⟩; exact ⟨rfl, Calm.same _⟩); done)); go_big_quiet_on))))); refine wpQuiet_nil ?_; intro wq hwq; obtain ⟨iq, hwe⟩ := hwq; subst hwe)
        have HB2 := hide (HB.out.trans (Below.mono (show Below wr.heap.size wr iq.world by first | exact iq.boxed | exact iq.below) HB.out.size))
        go_wp2_with fail
        go_ret
        exact ⟨by rw [show validPresB p = false from pres_bad HX.out (markF_no HNO.out)]; rfl, HB2.out⟩
    · obtain rfl : k = p.marks.length := by omega
      clear hlt hk hg
      clear HR2
      have hall := hide (pres_all HT.out)
      by_cases h30 : (p.marks.length : Int) ≤ 30
      · have hd30 : decide ((p.marks.length : Int) ≤ 30) = true := decide_eq_true h30
        have HD30 := hide hd30
        by_cases e0 : leasesB p.here = true
        · have E0 := hide e0
          by_cases e1 : leasesB p.typing = true
          · have E1 := hide e1
            have hr := hide (show validPresB p = true by rw [hall.out, e0, e1, HD30.out]; rfl)
            clear e0 e1
            go_wp2_with (first
              | (go_at_call 41
                 refine (l05Leases_c p.typing _ _ (H1.out.below HB8.out)).mono ?_
                 rintro e w9 ⟨rfl, hb⟩
                 rw [E1.out]
                 have HB9 := hide (HB8.out.trans (hb.mono HB8.out.size))
                 clear b0 b1 b2 hlw; have b0 := cell_below HB9.out HBC.out.1; have b1 := cell_below HB9.out HBC.out.2.1; have b2 := cell_below HB9.out HBC.out.2.2.1; have hlw := Nat.lt_of_lt_of_le HBC.out.2.2.2 HB9.out.size
                 clear hb)
              | (go_at_call 41
                 refine (l05Leases_c p.here _ _ (H0.out.below HB.out)).mono ?_
                 rintro e w8 ⟨rfl, hb⟩
                 rw [E0.out]
                 have HB8 := hide (HB.out.trans (hb.mono HB.out.size))
                 clear b0 b1 b2 hlw; have b0 := cell_below HB8.out HBC.out.1; have b1 := cell_below HB8.out HBC.out.2.1; have b2 := cell_below HB8.out HBC.out.2.2.1; have hlw := Nat.lt_of_lt_of_le HBC.out.2.2.2 HB8.out.size
                 clear hb))
            go_ret
            exact ⟨by rw [hr.out]; rfl, HB9.out⟩
          · have E1 := hide (show leasesB p.typing = false by simpa using e1)
            have hr := hide (show validPresB p = false by rw [hall.out, E1.out]; simp)
            clear e0 e1
            go_wp2_with (first
              | (go_at_call 41
                 refine (l05Leases_c p.typing _ _ (H1.out.below HB8.out)).mono ?_
                 rintro e w9 ⟨rfl, hb⟩
                 rw [E1.out]
                 have HB9 := hide (HB8.out.trans (hb.mono HB8.out.size))
                 clear b0 b1 b2 hlw; have b0 := cell_below HB9.out HBC.out.1; have b1 := cell_below HB9.out HBC.out.2.1; have b2 := cell_below HB9.out HBC.out.2.2.1; have hlw := Nat.lt_of_lt_of_le HBC.out.2.2.2 HB9.out.size
                 clear hb)
              | (go_at_call 41
                 refine (l05Leases_c p.here _ _ (H0.out.below HB.out)).mono ?_
                 rintro e w8 ⟨rfl, hb⟩
                 rw [E0.out]
                 have HB8 := hide (HB.out.trans (hb.mono HB.out.size))
                 clear b0 b1 b2 hlw; have b0 := cell_below HB8.out HBC.out.1; have b1 := cell_below HB8.out HBC.out.2.1; have b2 := cell_below HB8.out HBC.out.2.2.1; have hlw := Nat.lt_of_lt_of_le HBC.out.2.2.2 HB8.out.size
                 clear hb))
            go_ret
            exact ⟨by rw [hr.out]; rfl, HB9.out⟩
        · have E0 := hide (show leasesB p.here = false by simpa using e0)
          have hr := hide (show validPresB p = false by rw [hall.out, E0.out]; simp)
          clear e0
          go_wp2_with (first
            | (go_at_call 41
               refine (l05Leases_c p.here _ _ (H0.out.below HB.out)).mono ?_
               rintro e w8 ⟨rfl, hb⟩
               rw [E0.out]
               have HB8 := hide (HB.out.trans (hb.mono HB.out.size))
               clear b0 b1 b2 hlw; have b0 := cell_below HB8.out HBC.out.1; have b1 := cell_below HB8.out HBC.out.2.1; have b2 := cell_below HB8.out HBC.out.2.2.1; have hlw := Nat.lt_of_lt_of_le HBC.out.2.2.2 HB8.out.size
               clear hb))
          go_ret
          exact ⟨by rw [hr.out]; rfl, HB8.out⟩
      · have hd30 : decide ((p.marks.length : Int) ≤ 30) = false := decide_eq_false h30
        have hr := hide (show validPresB p = false by rw [hall.out, hd30]; simp)
        go_wp2_with fail
        go_ret
        exact ⟨by rw [hr.out]; rfl, HB.out⟩
end Go.Proofs.Ytodmongmaoeknaa
