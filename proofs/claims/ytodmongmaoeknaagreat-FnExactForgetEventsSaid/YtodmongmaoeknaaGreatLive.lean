/- A message that is not gone; a log that is handed out if it is valid: the reference. -/
import Derived.Test.YtodmongmaoeknaaGreatWith
import Derived.Test.YtodmongmaoeknaaGreatRGround
import Derived.Test.YtodmongmaoeknaaGreatSMsg
namespace Go.Proofs.YtodmongmaoeknaaGreat
open Go Go.RowKit Go.BigFrame
attribute [local go_sem] Calm.cell Calm.frozen
set_option linter.unusedVariables false
set_option linter.unusedSimpArgs false

theorem eight {P : Nat → Value → Prop} {a0 a1 a2 a3 a4 a5 a6 a7 : Value} (h0 : P 0 a0) (h1 : P 1 a1) (h2 : P 2 a2) (h3 : P 3 a3) (h4 : P 4 a4) (h5 : P 5 a5) (h6 : P 6 a6) (h7 : P 7 a7) :
    ∀ i u, ([a0, a1, a2, a3, a4, a5, a6, a7] : List Value)[i]? = some u → P i u := by
  intro i u h
  match i, h with
  | 0, h => simp at h; subst h; exact h0
  | 1, h => simp at h; subst h; exact h1
  | 2, h => simp at h; subst h; exact h2
  | 3, h => simp at h; subst h; exact h3
  | 4, h => simp at h; subst h; exact h4
  | 5, h => simp at h; subst h; exact h5
  | 6, h => simp at h; subst h; exact h6
  | 7, h => simp at h; subst h; exact h7
  | i + 8, h => simp at h
def liveI (l : Log) (n : Int) : Int := match l.messages.find? (numIs n) with
  | none => -1
  | some m => if m.gone then -1 else idxP (numIs n) l.messages
theorem live_none {l : Log} {n : Int} (h : idxP (numIs n) l.messages < 0) : liveI l n = -1 := by simp [liveI, find_none h]
theorem live_gone {l : Log} {n : Int} {k : Nat} {m : Message} (hk : idxP (numIs n) l.messages = (k : Int)) (hx : l.messages[k]? = some m) (hg : m.gone = true) : liveI l n = -1 := by simp [liveI, (find_of_idx hk hx).1, hg]
theorem live_at {l : Log} {n : Int} {k : Nat} {m : Message} (hk : idxP (numIs n) l.messages = (k : Int)) (hx : l.messages[k]? = some m) (hg : m.gone = false) : liveI l n = (k : Int) := by simp [liveI, (find_of_idx hk hx).1, hg, hk]
set_option maxHeartbeats 4000000 in
theorem l03Live_c (l : Log) (b o : Nat) (n : Int) (w : World) (hp : RowAt logD w b o [l]) :
    Calls Tryz.prog 75 #[.pointer (some ⟨b, o, none⟩), .int .i64 n] w fun e w' => e = .returned (.int .i64 (liveI l n)) ∧ Below w.heap.size w w' := by
  obtain ⟨v1, h1, hbz, hb0, hb1⟩ := log_at hp (Below.refl _ _) (j := 0) rfl
  simp only [Nat.zero_mul, Nat.add_zero] at hb0 hb1
  obtain ⟨A, c, rfl, hl, hm, hra⟩ := h1
  have HP := hide hp
  by_cases hn : 0 ≤ idxP (numIs n) l.messages
  · obtain ⟨k, m, hk, hlk, hx, hmn⟩ := idx_found hn
    have hlt2 : (k : Int) < (l.messages.length : Int) := by omega
    rcases hra with hnil | ⟨q, o2, rfl, hra⟩
    · rw [hnil] at hlk; simp at hlk
    obtain ⟨v7, h7, hq, hc0, hc1, hc2, hc3, hc4, hc5, hc6, hc7⟩ := message_at hra (Below.refl _ _) hx
    have HX := hide hx
    clear hra hp hn hx hmn h7
    by_cases hg : m.gone = true
    · have HR := hide (live_gone hk HX.out hg)
      go_enter Tryz.func75, Tryz.ntmps75
      go_wp2_with (go_at_call 73
                   refine (l03Find_c l _ _ n _ HP.out).mono ?_
                   rintro e w1 ⟨rfl, hb⟩
                   rw [hk]
                   obtain ⟨iq, rfl⟩ : ∃ i : Calm _, w1 = i.world := ⟨⟨w1, hb⟩, rfl⟩
                   clear hb)
      go_ret
      exact ⟨by rw [HR.out]; rfl, iq.below⟩
    · have hg' : m.gone = false := by simpa using hg
      have HR := hide (live_at hk HX.out hg')
      clear hg
      go_enter Tryz.func75, Tryz.ntmps75
      go_wp2_with (go_at_call 73
                   refine (l03Find_c l _ _ n _ HP.out).mono ?_
                   rintro e w1 ⟨rfl, hb⟩
                   rw [hk]
                   obtain ⟨iq, rfl⟩ : ∃ i : Calm _, w1 = i.world := ⟨⟨w1, hb⟩, rfl⟩
                   clear hb)
      go_ret
      exact ⟨by rw [HR.out]; rfl, iq.below⟩
  · have hn2 : idxP (numIs n) l.messages < 0 := by omega
    have hn3 := idxP_neg hn2
    have HR := hide (live_none hn2)
    clear hra hp hn hn2
    go_enter Tryz.func75, Tryz.ntmps75
    go_wp2_with (go_at_call 73
                 refine (l03Find_c l _ _ n _ HP.out).mono ?_
                 rintro e w1 ⟨rfl, hb⟩
                 rw [hn3]
                 obtain ⟨iq, rfl⟩ : ∃ i : Calm _, w1 = i.world := ⟨⟨w1, hb⟩, rfl⟩
                 clear hb)
    go_ret
    exact ⟨by rw [HR.out]; rfl, iq.below⟩
set_option maxHeartbeats 2000000 in
theorem giveYes_c (x : Log) (v1 : Value) (w : World) (h : SliceK messageD w v1 x.messages) (ht : okTexts x.messages) (hv : validLogB x = true) :
    Calls Tryz.prog 74 #[.agg #[.int .i64 x.next, v1], .bool true] w fun e w' => e = .returned (.tuple #[.agg #[.int .i64 x.next, v1], .bool true]) ∧ Below w.heap.size w w' := by
  obtain ⟨A, c, rfl⟩ := h.shape
  have HB := hide (((Below.refl w.heap.size w).alloc (Nat.le_refl _) (.cells #[.int .i64 x.next, .slice A x.messages.length c] 31)).alloc (by simp) (.cells #[.int .i64 0, .slice none 0 0] 31))
  have HBX := hide ((RowAt.box (d := logD) (x := x) (log_K_mk h) (arr := #[.int .i64 x.next, .slice A x.messages.length c]) rfl 31).below ((Below.refl _ _).alloc (Nat.le_refl _) (.cells #[.int .i64 0, .slice none 0 0] 31)))
  have HV := hide hv
  have HT := hide ht
  clear h hv ht
  go_enter Tryz.func74, Tryz.ntmps74
  go_wp2_with (go_at_call 30
               refine (l03Is_c x _ _ _ HBX.out HT.out).mono ?_
               rintro e w1 ⟨rfl, hb⟩
               rw [HV.out]
               have hz := hb.size
               simp only [World.size_alloc] at hz
               have p0 : w1.cell? ⟨w.heap.size + 1, 0, none⟩ = some (.int .i64 0) := cell_below hb (by go_simp)
               have p1 : w1.cell? ⟨w.heap.size + 1, 1, none⟩ = some (.slice none 0 0) := cell_below hb (by go_simp)
               have q0 : w1.cell? ⟨w.heap.size, 0, none⟩ = some (.int .i64 x.next) := cell_below hb (by go_simp)
               have q1 : w1.cell? ⟨w.heap.size, 1, none⟩ = some (.slice A x.messages.length c) := cell_below hb (by go_simp)
               have hbl : w1.heap[w.heap.size + 1]? = some (.cells #[.int .i64 0, .slice none 0 0] 31 (0, 0)) := (hb.block _ (by simp)).trans (by have := alloc_new (w.alloc (.cells #[.int .i64 x.next, .slice A x.messages.length c] 31)) (.cells #[.int .i64 0, .slice none 0 0] 31); simpa using this)
               have pf : ∀ o, w1.frozen? ⟨w.heap.size + 1, o, none⟩ = false := fun o => frozen_block hbl
               have HW := hide (below_step HB.out hb)
               clear hb hbl)
  have HZ : Hid (∀ wz, Chg [w.heap.size + 1] w1 wz → (Ending.returned (.tuple #[.agg #[.int .i64 x.next, .slice A x.messages.length c], .bool true]) = .returned (.tuple #[.agg #[.int .i64 x.next, .slice A x.messages.length c], .bool true])) ∧ Below w.heap.size w wz) :=
    fun wz hch => ⟨rfl, HW.out.trans (hch.below HW.out.size (by simp))⟩
  refine bodyPost_ret (v := .tuple #[.agg #[.int .i64 x.next, .slice A x.messages.length c], .bool true]) (by simp [results, Tryz.results74, go_sem, p0, p1, pf]) rfl (HZ.out _ ?_)
  (repeat (with_reducible refine Chg.setCell ?_ (.inl (by simp)) _))
  exact Chg.refl _ _
set_option maxHeartbeats 2000000 in
theorem giveNo_c (x : Log) (v1 : Value) (w : World) (h : SliceK messageD w v1 x.messages) (ht : okTexts x.messages) (hv : validLogB x = false) :
    Calls Tryz.prog 74 #[.agg #[.int .i64 x.next, v1], .bool true] w fun e w' => e = .returned (.tuple #[.agg #[.int .i64 0, .slice none 0 0], .bool false]) ∧ Below w.heap.size w w' := by
  obtain ⟨A, c, rfl⟩ := h.shape
  have HB := hide (((Below.refl w.heap.size w).alloc (Nat.le_refl _) (.cells #[.int .i64 x.next, .slice A x.messages.length c] 31)).alloc (by simp) (.cells #[.int .i64 0, .slice none 0 0] 31))
  have HBX := hide ((RowAt.box (d := logD) (x := x) (log_K_mk h) (arr := #[.int .i64 x.next, .slice A x.messages.length c]) rfl 31).below ((Below.refl _ _).alloc (Nat.le_refl _) (.cells #[.int .i64 0, .slice none 0 0] 31)))
  have HV := hide hv
  have HT := hide ht
  clear h hv ht
  go_enter Tryz.func74, Tryz.ntmps74
  go_wp2_with (go_at_call 30
               refine (l03Is_c x _ _ _ HBX.out HT.out).mono ?_
               rintro e w1 ⟨rfl, hb⟩
               rw [HV.out]
               have hz := hb.size
               simp only [World.size_alloc] at hz
               have p0 : w1.cell? ⟨w.heap.size + 1, 0, none⟩ = some (.int .i64 0) := cell_below hb (by go_simp)
               have p1 : w1.cell? ⟨w.heap.size + 1, 1, none⟩ = some (.slice none 0 0) := cell_below hb (by go_simp)
               have q0 : w1.cell? ⟨w.heap.size, 0, none⟩ = some (.int .i64 x.next) := cell_below hb (by go_simp)
               have q1 : w1.cell? ⟨w.heap.size, 1, none⟩ = some (.slice A x.messages.length c) := cell_below hb (by go_simp)
               have hbl : w1.heap[w.heap.size + 1]? = some (.cells #[.int .i64 0, .slice none 0 0] 31 (0, 0)) := (hb.block _ (by simp)).trans (by have := alloc_new (w.alloc (.cells #[.int .i64 x.next, .slice A x.messages.length c] 31)) (.cells #[.int .i64 0, .slice none 0 0] 31); simpa using this)
               have pf : ∀ o, w1.frozen? ⟨w.heap.size + 1, o, none⟩ = false := fun o => frozen_block hbl
               have HW := hide (below_step HB.out hb)
               clear hb hbl)
  have HZ : Hid (∀ wz, Chg [w.heap.size + 1] w1 wz → (Ending.returned (.tuple #[.agg #[.int .i64 0, .slice none 0 0], .bool false]) = .returned (.tuple #[.agg #[.int .i64 0, .slice none 0 0], .bool false])) ∧ Below w.heap.size w wz) :=
    fun wz hch => ⟨rfl, HW.out.trans (hch.below HW.out.size (by simp))⟩
  refine bodyPost_ret (v := .tuple #[.agg #[.int .i64 0, .slice none 0 0], .bool false]) (by simp [results, Tryz.results74, go_sem, p0, p1, pf]) rfl (HZ.out _ ?_)
  (repeat (with_reducible refine Chg.setCell ?_ (.inl (by simp)) _))
  exact Chg.refl _ _
end Go.Proofs.YtodmongmaoeknaaGreat
