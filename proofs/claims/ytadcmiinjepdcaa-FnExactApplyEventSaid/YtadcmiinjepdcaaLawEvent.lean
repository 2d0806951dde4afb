/- The laws' own helpers on the structs of the part Event. -/
import Derived.Test.YtadcmiinjepdcaaLawInt
import Derived.Test.YtadcmiinjepdcaaLawText
import Derived.Test.YtadcmiinjepdcaaRow
import Derived.Test.YtadcmiinjepdcaaTyEvent
import Derived.StillTailTactics
import Derived.Deep.RegionWith
import Derived.Test.YtadcmiinjepdcaaLawLog
namespace Go.Proofs.Ytadcmiinjepdcaa
open Go Go.RowKit
set_option linter.unusedVariables false
set_option linter.unusedSimpArgs false

/-! ### Event -/
def sizeEvent (x : Event) : Nat := x.text.size
/-- Its strings are no longer than a machine holds. -/
def okEvent (x : Event) : Prop := x.text.size ≤ 9223372036854775807
def eqEventB (a b : Event) : Bool := !(a.kind != b.kind) && !(a.number != b.number) && !(a.member != b.member) && !(a.at_ != b.at_) && !(!(a.text.toList == b.text.toList)) && !(a.reply != b.reply)
theorem eqEventB_iff (a b : Event) : eqEventB a b = true ↔ a = b := by
  cases a; cases b
  simp [eqEventB, bytes_eq, and_assoc]
theorem eqEventB_eq (a b : Event) : eqEventB a b = decide (a = b) := by
  rw [Bool.eq_iff_iff, eqEventB_iff, decide_eq_true_iff]
set_option maxHeartbeats 2000000 in
theorem eqEvent_c (x y : Event) (w : World) :
    Calls Try.prog 62 #[.agg #[.int .i64 x.kind, .int .i64 x.number, .int .i64 x.member, .int .i64 x.at_, .string x.text, .int .i64 x.reply], .agg #[.int .i64 y.kind, .int .i64 y.number, .int .i64 y.member, .int .i64 y.at_, .string y.text, .int .i64 y.reply]] w fun e w' => e = .returned (.bool (eqEventB x y)) ∧ Below w.heap.size w w' := by
  have HB := hide (((Below.refl w.heap.size w).alloc (Nat.le_refl _) (.cells #[.int .i64 x.kind, .int .i64 x.number, .int .i64 x.member, .int .i64 x.at_, .string x.text, .int .i64 x.reply] 39)).alloc (by simp) (.cells #[.int .i64 y.kind, .int .i64 y.number, .int .i64 y.member, .int .i64 y.at_, .string y.text, .int .i64 y.reply] 39))
  go_enter Try.func62, Try.ntmps62
  go_wp2
  all_goals
    go_ret
    refine ⟨?_, HB.out⟩
    first
    | (rw [show eqEventB x y = false from by simp only [eqEventB, decide_true, decide_false, Bool.not_true, Bool.not_false, Bool.and_false, Bool.false_and, Bool.and_true, Bool.true_and, *]]; rfl)
    | (rw [show eqEventB x y = true from by simp only [eqEventB, decide_true, decide_false, Bool.not_true, Bool.not_false, Bool.and_false, Bool.false_and, Bool.and_true, Bool.true_and, *]]; rfl)
set_option maxHeartbeats 2000000 in
set_option maxRecDepth 100000 in
theorem eqEventS_c (va vb : Value) (a b : List Event) (w : World) (ha : SliceK eventD w va a) (hb : SliceK eventD w vb b) :
    Calls Try.prog 23 #[va, vb] w fun e w' => e = .returned (.bool (decide (a = b))) ∧ Below w.heap.size w w' := by
  obtain ⟨A, c, rfl, hl1, hm1, hra⟩ := ha
  obtain ⟨B, c', rfl, hl2, hm2, hrb⟩ := hb
  by_cases hlen : a.length = b.length
  · have hne : (((a.length : Nat) : Int) != ((b.length : Nat) : Int)) = false := by simp [hlen]
    have HL := hide hlen
    have HA := hide hra
    have HB := hide hrb
    clear hlen hra hrb
    go_enter Try.func23, Try.ntmps23
    go_wp2
    go_loopg [5] a.length (fun gg s5 wr => ∃ k : Nat, k ≤ a.length ∧ a.length - k ≤ gg ∧ s5 = .int .i64 k ∧ Hid (a.take k = b.take k) ∧ Hid (Below w.heap.size w wr))
    case atStart => exact ⟨0, Nat.zero_le _, by omega, rfl, rfl, Below.refl _ _⟩
    case round =>
      obtain ⟨k, hk, hg, rfl, HT, HW⟩ := hrel
      by_cases hlt : k < a.length
      · obtain ⟨x, hx⟩ : ∃ x, a[k]? = some x := ⟨_, List.getElem?_eq_getElem hlt⟩
        obtain ⟨y, hy⟩ : ∃ y, b[k]? = some y := ⟨_, List.getElem?_eq_getElem (by have := HL.out; omega)⟩
        have hkb : k < b.length := by have := HL.out; omega
        rcases HA.out with rfl | ⟨p, o, rfl, hra⟩
        · simp at hlt
        rcases HB.out with rfl | ⟨p', o', rfl, hrb⟩
        · simp at hkb
        obtain ⟨p, hc0, hc1, hc2, hc3, hc4, hc5⟩ := event_at hra HW.out hx
        obtain ⟨p', gc0, gc1, gc2, gc3, gc4, gc5⟩ := event_at hrb HW.out hy
        have HX := hide hx
        have HY := hide hy
        clear hx hy hra hrb HA HB 
        go_wp2
        go_still_tail 8, (by kernel_rfl)
        change wpList _ _ _ _ _ wr.drew
        go_wp2_with (go_at_call 62; refine (eqEvent_c x y  _  ).mono ?_; rintro e w1 ⟨rfl, hb1⟩; have H1 := hide (HW.out.drew.trans (hb1.mono (by simpa using HW.out.size))); clear hb1)
        · have hq : ¬ x = y := fun e => by rw [(eqEventB_iff x y).2 e] at *; contradiction
          go_ret
          exact ⟨by rw [eqAll_pre HT.out HX.out HY.out hq]; rfl, H1.out⟩
        · have hq : eqEventB x y = true := by simpa using ‹(!eqEventB x y) = false›
          have HQ := hide ((eqEventB_iff x y).1 hq)
          clear hq
          go_roundg (a.length - (k + 1))
          case measure => omega
          case rel => exact ⟨k + 1, by omega, by omega, by go_num, hide (by rw [List.take_add_one, List.take_add_one, HX.out, HY.out, HT.out, HQ.out]), H1⟩
      · have : k = a.length := by omega
        subst this
        go_wp2
        go_ret
        exact ⟨by rw [show decide (a = b) = true from by rw [decide_eq_true_iff]; have := HT.out; rw [List.take_length] at this; rw [this, HL.out, List.take_length]]; rfl, HW.out⟩
  · have hne : (((a.length : Nat) : Int) != ((b.length : Nat) : Int)) = true := by simp; omega
    have he : decide (a = b) = false := decide_eq_false (by rintro rfl; exact hlen rfl)
    have HE := hide he
    clear he hlen hra hrb
    go_enter Try.func23, Try.ntmps23
    go_wp2
    go_ret
    exact ⟨by rw [HE.out]; rfl, Below.refl _ _⟩
set_option maxHeartbeats 2000000 in
theorem toEvent_c (x : Event) (w : World) :
    Calls Try.prog 17 #[.agg #[.int .i64 x.kind, .int .i64 x.number, .int .i64 x.member, .int .i64 x.at_, .string x.text, .int .i64 x.reply]] w (RetElem eventD w x) := by
  go_enter Try.func17, Try.ntmps17
  go_wp2_with fail
  refine bodyPost_ret (v := .agg #[.int .i64 x.kind, .int .i64 x.number, .int .i64 x.member, .int .i64 x.at_, .string x.text, .int .i64 x.reply]) (by simp [results, Try.results17, go_sem]) rfl ⟨_, [], rfl, ⟨rfl, rfl⟩, List.nodup_nil, by simp, ?_⟩
  repeat (first | exact Below.refl _ _ | refine Below.setCell ?_ (by simp <;> omega) _ | refine Below.alloc ?_ (by simp <;> omega) _)
theorem infoEvent : (Try.prog.info? 39).map (fun i => (i.zero, i.size, i.bytes)) = some (some (.agg #[(.int .i64 0), (.int .i64 0), (.int .i64 0), (.int .i64 0), (.string ⟨#[]⟩), (.int .i64 0)]), 6, 56) := by kernel_rfl
set_option maxHeartbeats 2000000 in
set_option maxRecDepth 100000 in
theorem toEventS_c (v : Value) (a : List Event) (w : World) (ha : SliceK eventD w v a) (hn : a.length ≤ 1048576) :
    Calls Try.prog 21 #[v] w (RetMade eventD 39 w a) := by
  obtain ⟨A, c, rfl, hl1, hm1, hra⟩ := ha
  have HA := hide hra
  have hmk := run_mk (P := Try.prog) 45 39 (.agg #[(.int .i64 0), (.int .i64 0), (.int .i64 0), (.int .i64 0), (.string ⟨#[]⟩), (.int .i64 0)]) 6 56 Try.underlying45 infoEvent a.length (by omega) (by omega)
  clear hra
  go_enter Try.func21, Try.ntmps21
  go_wp2_with fail
  obtain ⟨B, hB⟩ : ∃ B, B = w.heap.size := ⟨_, rfl⟩
  have HBs := hide hB
  rw [← hB]
  have H0 : ∃ cur css Fs, Row eventD 39 (w.alloc (Obj.cells (mkRow (.agg #[(.int .i64 0), (.int .i64 0), (.int .i64 0), (.int .i64 0), (.string ⟨#[]⟩), (.int .i64 0)]) (a.length * 6)) 39)) B a.length cur css Fs (a.take 0) ∧ (B :: Fs.flatten).Nodup ∧ (∀ q ∈ B :: Fs.flatten, w.heap.size ≤ q) :=
    ⟨_, [], [], by rw [hB]; exact Row.start (d := eventD) (by omega), by simp, by intro q hq; simp at hq; omega⟩
  have H0 := hide H0
  clear hB
  go_loopg [4] a.length (fun gg s4 wr => ∃ k : Nat, k ≤ a.length ∧ a.length - k ≤ gg ∧ s4 = .int .i64 k ∧ Hid (∃ cur css Fs, Row eventD 39 wr B a.length cur css Fs (a.take k) ∧ (B :: Fs.flatten).Nodup ∧ (∀ q ∈ B :: Fs.flatten, w.heap.size ≤ q)) ∧ Hid (Below w.heap.size w wr))
  case atStart => exact ⟨0, Nat.zero_le _, by omega, rfl, H0, (Below.refl _ _).alloc (Nat.le_refl _) _⟩
  case round =>
    obtain ⟨k, hk, hg, rfl, HR, HW⟩ := hrel
    clear H0 hmk
    by_cases hlt : k < a.length
    · obtain ⟨x, hx⟩ : ∃ x, a[k]? = some x := ⟨_, List.getElem?_eq_getElem hlt⟩
      rcases HA.out with rfl | ⟨p, o, rfl, hra⟩
      · simp at hlt
      obtain ⟨p, hc0, hc1, hc2, hc3, hc4, hc5⟩ := event_at hra HW.out hx
      have HX := hide hx
      clear hx hra HA 
      go_wp2_with fail
      refine (toEvent_c x  _ ).mono ?_
      rintro e w1 ⟨cs, G, rfl, hm, hnd, hG, hb1⟩
      obtain ⟨cur, css, Fs, hrow, hnF, hgF⟩ := HR.out
      have HM := hide hm
      obtain ⟨rfl, rfl⟩ := hm
      have hsz : cur.size = a.length * 6 := hrow.size
      have hlB : B < wr.heap.size := block_lt hrow.blk
      have hblk1 : w1.heap[B]? = some (.cells cur 39 (0, 0)) := (hb1.block B hlB).trans hrow.blk
      have hfz : ∀ o, w1.frozen? ⟨B, o, none⟩ = false := fun o => frozen_block hblk1
      have hlB1 : B < w1.heap.size := block_lt hblk1
      obtain ⟨z0, hz0⟩ : ∃ z, w1.cell? ⟨B, k * 6, none⟩ = some z := ⟨cur[k * 6]'(by omega), by rw [cell_block hblk1]; exact Array.getElem?_eq_getElem (by omega)⟩
      obtain ⟨z1, hz1⟩ : ∃ z, w1.cell? ⟨B, k * 6 + 1, none⟩ = some z := ⟨cur[k * 6 + 1]'(by omega), by rw [cell_block hblk1]; exact Array.getElem?_eq_getElem (by omega)⟩
      obtain ⟨z2, hz2⟩ : ∃ z, w1.cell? ⟨B, k * 6 + 2, none⟩ = some z := ⟨cur[k * 6 + 2]'(by omega), by rw [cell_block hblk1]; exact Array.getElem?_eq_getElem (by omega)⟩
      obtain ⟨z3, hz3⟩ : ∃ z, w1.cell? ⟨B, k * 6 + 3, none⟩ = some z := ⟨cur[k * 6 + 3]'(by omega), by rw [cell_block hblk1]; exact Array.getElem?_eq_getElem (by omega)⟩
      obtain ⟨z4, hz4⟩ : ∃ z, w1.cell? ⟨B, k * 6 + 4, none⟩ = some z := ⟨cur[k * 6 + 4]'(by omega), by rw [cell_block hblk1]; exact Array.getElem?_eq_getElem (by omega)⟩
      obtain ⟨z5, hz5⟩ : ∃ z, w1.cell? ⟨B, k * 6 + 5, none⟩ = some z := ⟨cur[k * 6 + 5]'(by omega), by rw [cell_block hblk1]; exact Array.getElem?_eq_getElem (by omega)⟩
      have HC := hide (And.intro hrow (And.intro hnF (And.intro hgF (And.intro hnd (And.intro hG (And.intro hb1 hblk1))))))
      have HSZ := hide hsz
      clear HR hrow hnF hgF hnd hG hb1 hblk1 hlB hsz
      go_wp2_with fail
      obtain ⟨hrow, hnF, hgF, hnd, hG, hb1, hblk1⟩ := HC.out
      obtain ⟨cur', hcur', hlist'⟩ := putCells_block [.int .i64 x.kind, .int .i64 x.number, .int .i64 x.member, .int .i64 x.at_, .string x.text, .int .i64 x.reply] w1 B (k * 6) hblk1
      have hBl : ∀ q ∈ B :: Fs.flatten, q < wr.heap.size := hrow.lt
      have htl : (a.take k).length = k := by rw [List.length_take]; omega
      go_roundg (a.length - (k + 1))
      case measure => omega
      case rel =>
        refine ⟨k + 1, by omega, by omega, by go_num, hide ⟨cur', css ++ [[.int .i64 x.kind, .int .i64 x.number, .int .i64 x.member, .int .i64 x.at_, .string x.text, .int .i64 x.reply]], Fs ++ [([] : List Nat)], ?_, ?_, ?_⟩, hide ?_⟩
        · rw [List.take_add_one, HX.out]
          refine Row.snoc (w' := putCells w1 B (k * 6) [.int .i64 x.kind, .int .i64 x.number, .int .i64 x.member, .int .i64 x.at_, .string x.text, .int .i64 x.reply]) hrow (by omega) (Dt.M_move _ (fun q hq => putCells_other _ _ _ _ ?_) HM.out) hcur' (by rw [htl]; exact hlist') (fun q hq => (putCells_other _ _ _ _ ?_).trans (hb1.block q (hBl q (List.mem_cons_of_mem _ hq))))
          · have := hG q hq; have := hBl B List.mem_cons_self; omega
          · intro e; subst e; exact (List.nodup_cons.1 hnF).1 hq
        · rw [List.flatten_append, List.flatten_singleton, ← List.cons_append]
          exact nodup_app hnF hnd hBl hG
        · intro q hq
          rw [List.flatten_append, List.flatten_singleton, ← List.cons_append, List.mem_append] at hq
          rcases hq with hq | hq
          · exact hgF q hq
          · exact Nat.le_trans HW.out.size (hG q hq)
        · exact putCells_below [.int .i64 x.kind, .int .i64 x.number, .int .i64 x.member, .int .i64 x.at_, .string x.text, .int .i64 x.reply] B (k * 6) (HW.out.trans (hb1.mono HW.out.size)) (hgF B List.mem_cons_self)
    · have : k = a.length := by omega
      subst this
      go_wp2
      go_ret
      obtain ⟨cur, css, Fs, hrow, hnF, hgF⟩ := HR.out
      rw [List.take_length] at hrow
      exact ⟨_, rfl, ⟨_, hrow.M, hnF, hgF⟩, HW.out⟩
set_option maxHeartbeats 2000000 in
theorem szEvent_c (x : Event) (left : Int) (w : World) (b0 : 0 ≤ left) (b1 : left ≤ 1048576) (hok : okEvent x) :
    Calls Try.prog 15 #[.agg #[.int .i64 x.kind, .int .i64 x.number, .int .i64 x.member, .int .i64 x.at_, .string x.text, .int .i64 x.reply], .int .i64 left] w fun e w' => RetSz left (sizeEvent x) e ∧ Below w.heap.size w w' := by
  have HK := hide hok
  unfold okEvent at hok
  have hs4 := hok
  clear hok
  have HB := hide ((Below.refl w.heap.size w).alloc (Nat.le_refl _) (.cells #[.int .i64 x.kind, .int .i64 x.number, .int .i64 x.member, .int .i64 x.at_, .string x.text, .int .i64 x.reply] 36))
  go_enter Try.func15, Try.ntmps15
  go_wp2
  all_goals
    go_ret
    refine ⟨⟨_, rfl, ?_⟩, HB.out⟩
    unfold szR sizeEvent
    split <;> omega
set_option maxHeartbeats 2000000 in
theorem szEventS_c (v : Value) (a : List Event) (left : Int) (w : World) (ha : SliceK eventD w v a) (h0 : 0 ≤ left) (h1 : left ≤ 1048576) (hok : ∀ x ∈ a, okEvent x) :
    Calls Try.prog 19 #[v, .int .i64 left] w fun e w' => RetSz left (a.length + sizeAll sizeEvent a) e ∧ Below w.heap.size w w' := by
  obtain ⟨A, c, rfl, hl1, hm1, hra⟩ := ha
  have HA := hide hra
  have HOK := hide hok
  clear hok
  clear hra
  by_cases h : (a.length : Int) ≤ left
  · have h2 : ¬ (left - (a.length : Int) < 0) := by omega
    go_enter Try.func19, Try.ntmps19
    go_wp2
    go_loopg [1, 5] a.length (fun gg s1 s5 wr => ∃ (k : Nat) (q : Int), k ≤ a.length ∧ a.length - k ≤ gg ∧ s1 = .int .i64 q ∧ s5 = .int .i64 k ∧ 0 ≤ q ∧ q ≤ 1048576 ∧ Hid (q = left - a.length - sizeAll sizeEvent (a.take k)) ∧ Hid (Below w.heap.size w wr))
    case atStart => exact ⟨0, left - a.length, Nat.zero_le _, by omega, rfl, rfl, by omega, by omega, hide (by simp [sizeAll]), Below.refl _ _⟩
    case round =>
      obtain ⟨k, q, hk, hg, rfl, rfl, hq0, hq1, HQ, HW⟩ := hrel
      by_cases hlt : k < a.length
      · obtain ⟨x, hx⟩ : ∃ x, a[k]? = some x := ⟨_, List.getElem?_eq_getElem hlt⟩
        rcases HA.out with rfl | ⟨p, o, rfl, hra⟩
        · simp at hlt
        obtain ⟨p, hc0, hc1, hc2, hc3, hc4, hc5⟩ := event_at hra HW.out hx
        have HX := hide hx
        have hokx := hide (HOK.out x (List.mem_of_getElem? hx))
        clear hx hra HA 
        go_wp2_with fail
        refine (szEvent_c x  q _  hq0 hq1 hokx.out).mono ?_
        rintro e w1 ⟨⟨r, rfl, hr⟩, hb1⟩
        have hd := szR_bd hr hq0
        have R := hide hr
        have H1 := hide (HW.out.trans (hb1.mono HW.out.size))
        clear hr hb1
        go_wp2_with fail
        · have hT := sizeAll_take sizeEvent a k x HX.out
          have hL := sizeAll_le sizeEvent a (k + 1)
          have hsp := szR_spec R.out hq0
          have := HQ.out
          go_ret
          exact ⟨⟨_, rfl, by unfold szR; rw [if_neg (by omega)]⟩, H1.out⟩
        · have hT := sizeAll_take sizeEvent a k x HX.out
          have hsp := szR_spec R.out hq0
          have := HQ.out
          have hrq : r = q - sizeEvent x := by omega
          go_roundg (a.length - (k + 1))
          case measure => omega
          case rel => exact ⟨k + 1, r, by omega, by omega, rfl, by go_num, by omega, by omega, hide (by rw [hT]; omega), H1⟩
      · have : k = a.length := by omega
        subst this
        go_wp2
        go_ret
        have := HQ.out
        rw [List.take_length] at this
        exact ⟨⟨_, rfl, by unfold szR; rw [if_pos (by omega)]; omega⟩, HW.out⟩
  · have hr := hide (show -1 = szR left (a.length + sizeAll sizeEvent a) from (if_neg (by omega)).symm)
    have h2 : (left - (a.length : Int) < 0) := by omega
    go_enter Try.func19, Try.ntmps19
    go_wp2
    go_ret
    exact ⟨⟨_, rfl, hr.out⟩, Below.refl _ _⟩
def cntEvent (x : Event) : Nat := 6
def mkEvent (k : Int) (x : Event) : Event := { kind := (k), number := (k + 1), member := (k + 1 + 1), at_ := (k + 1 + 1 + 1), text := markT (k + 1 + 1 + 1 + 1), reply := (k + 1 + 1 + 1 + 1 + 1) }
theorem cntEvent_mk (k : Int) (x : Event) : cntEvent (mkEvent k x) = cntEvent x := by simp [cntEvent, mkEvent, marks_len, marks_len]
theorem mkEvent_mk (k : Int) (x : Event) : mkEvent k (mkEvent k x) = mkEvent k x := by simp [mkEvent, marks_len, marks_len]
def heldEventB (k : Int) (x : Event) : Bool := !(x.kind != k) && !(x.number != k + 1) && !(x.member != k + 1 + 1) && !(x.at_ != k + 1 + 1 + 1) && !(!(x.text.toList == (markT (k + 1 + 1 + 1 + 1)).toList)) && !(x.reply != k + 1 + 1 + 1 + 1 + 1)
theorem heldEventB_iff {k : Int} (h : 0 ≤ k) (x : Event) : heldEventB k x = true ↔ x = mkEvent k x := by
  cases x
  simp only [heldEventB, mkEvent, Event.mk.injEq, bytes_eq, Bool.and_eq_true, Bool.not_eq_true', bne_eq_false_iff_eq, Bool.not_eq_false', beq_iff_eq, decide_eq_false_iff_not, and_assoc]
set_option maxHeartbeats 4000000 in
set_option maxRecDepth 100000 in
theorem markEventS_c (v : Value) (xs : List Event) (F : List Nat) (k : Int) (w : World) (h : SliceM eventD 39 w v xs F) (hn : F.Nodup) (h0 : 0 ≤ k) (h1 : k + cntAll cntEvent xs ≤ 1000000000000) :
    Calls Try.prog 24 #[v, .int .i64 k] w (RetMarkA eventD 39 cntEvent mkEvent w v xs F k) := by
  rcases h.row with ⟨rfl, rfl, rfl⟩ | ⟨B, cap, cur, css, Fs, rfl, hrow, rfl⟩
  · go_enter Try.func24, Try.ntmps24
    go_wp2
    go_loopg [1, 5] 0 (fun gg s1 s5 wr => s1 = .int .i64 k ∧ s5 = .int .i64 0 ∧ w = wr)
    case atStart => exact ⟨rfl, rfl, rfl⟩
    case round =>
      obtain ⟨rfl, rfl, rfl⟩ := hrel
      go_wp2
      go_ret
      exact ⟨by simp [cntAll], .inl ⟨rfl, rfl, rfl⟩, Chg.refl _ _⟩
  · have H0 := hide (show ∃ cur css, Row eventD 39 w B cap cur css Fs (mixed cntEvent mkEvent k xs 0) from ⟨cur, css, by rw [mixed_zero]; exact hrow⟩)
    have HN := hide hn
    have hlen := hrow.le
    have hmax := hrow.max
    clear h hrow hn
    go_enter Try.func24, Try.ntmps24
    go_wp2
    go_loopg [1, 5] xs.length (fun gg s1 s5 wr => ∃ (i : Nat) (q : Int), i ≤ xs.length ∧ xs.length - i ≤ gg ∧ s1 = .int .i64 q ∧ s5 = .int .i64 i ∧ 0 ≤ q ∧ Hid (q = k + cntAll cntEvent (xs.take i)) ∧
      Hid (∃ cur css, Row eventD 39 wr B cap cur css Fs (mixed cntEvent mkEvent k xs i)) ∧ Hid (Chg (B :: Fs.flatten) w wr))
    case atStart => exact ⟨0, k, Nat.zero_le _, by omega, rfl, rfl, h0, hide (by simp [cntAll]), H0, Chg.refl _ _⟩
    case round =>
      obtain ⟨i, q, hi, hg, rfl, rfl, hq0, HQ, HR, HW⟩ := hrel
      clear H0
      by_cases hlt : i < xs.length
      · obtain ⟨x, hx⟩ : ∃ x, xs[i]? = some x := ⟨_, List.getElem?_eq_getElem hlt⟩
        obtain ⟨cur, css, hrow⟩ := HR.out
        obtain ⟨cs, G, hE⟩ := RowE.ofRow hrow (mixed_get (cnt := cntEvent) (mk := mkEvent) k xs i hx)
        have hcT := cntAll_take (cnt := cntEvent) xs i x hx
        have hcL := cntAll_le (cnt := cntEvent) xs (i + 1)
        have hq1 : q + cntEvent x ≤ 1000000000000 := by have := HQ.out; omega
        have hq2 : q + (6 : Nat) ≤ 1000000000000 := hq1
        have HT := hide hcT
        have HX := hide hx
        have hlB := hE.blt
        have hfz := hE.frozen
        have hcell := hE.cell
        obtain ⟨rfl, rfl⟩ : cs = [.int .i64 x.kind, .int .i64 x.number, .int .i64 x.member, .int .i64 x.at_, .string x.text, .int .i64 x.reply] ∧ G = [] := hE.M
        have hc0 : wr.cell? ⟨B, i * 6, none⟩ = some (.int .i64 x.kind) := hcell 0 _ rfl
        have hc1 : wr.cell? ⟨B, i * 6 + 1, none⟩ = some (.int .i64 x.number) := hcell 1 _ rfl
        have hc2 : wr.cell? ⟨B, i * 6 + 2, none⟩ = some (.int .i64 x.member) := hcell 2 _ rfl
        have hc3 : wr.cell? ⟨B, i * 6 + 3, none⟩ = some (.int .i64 x.at_) := hcell 3 _ rfl
        have hc4 : wr.cell? ⟨B, i * 6 + 4, none⟩ = some (.string x.text) := hcell 4 _ rfl
        have hc5 : wr.cell? ⟨B, i * 6 + 5, none⟩ = some (.int .i64 x.reply) := hcell 5 _ rfl
        have E0 := hide hE
        clear HR hcell hcT hcL hx hrow hE hq1
        have E1 := hide (E0.out.put HN.out 0 (.int .i64 (q)) ({ x with kind := (q) }) (by decide) fun _ => ⟨rfl, rfl⟩)
        have E2 := hide (E1.out.put HN.out 1 (.int .i64 (q + 1)) ({ x with kind := (q), number := (q + 1) }) (by decide) fun _ => ⟨rfl, rfl⟩)
        have E3 := hide (E2.out.put HN.out 2 (.int .i64 (q + 1 + 1)) ({ x with kind := (q), number := (q + 1), member := (q + 1 + 1) }) (by decide) fun _ => ⟨rfl, rfl⟩)
        have E4 := hide (E3.out.put HN.out 3 (.int .i64 (q + 1 + 1 + 1)) ({ x with kind := (q), number := (q + 1), member := (q + 1 + 1), at_ := (q + 1 + 1 + 1) }) (by decide) fun _ => ⟨rfl, rfl⟩)
        go_wp2_with fail
        refine (markText_c _ _ (by omega) (by omega)).mono ?_
        rintro e w1 ⟨rfl, hb⟩
        have hss := hb.size
        (try simp only [World.size_setCell] at hss)
        have hlB1 : B < w1.heap.size := by omega
        have hle1 : wr.heap.size ≤ w1.heap.size := by omega
        have E5 := hide (E4.out.below hb)
        have hfz1 := E5.out.frozen
        have hcell := E5.out.cell
        have hcc1_0 : w1.cell? ⟨B, i * 6, none⟩ = some _ := hcell 0 _ rfl
        have hcc1_1 : w1.cell? ⟨B, i * 6 + 1, none⟩ = some _ := hcell 1 _ rfl
        have hcc1_2 : w1.cell? ⟨B, i * 6 + 2, none⟩ = some _ := hcell 2 _ rfl
        have hcc1_3 : w1.cell? ⟨B, i * 6 + 3, none⟩ = some _ := hcell 3 _ rfl
        have hcc1_4 : w1.cell? ⟨B, i * 6 + 4, none⟩ = some _ := hcell 4 _ rfl
        have hcc1_5 : w1.cell? ⟨B, i * 6 + 5, none⟩ = some _ := hcell 5 _ rfl
        have HS1 := hide hb
        clear hb hss hcell
        go_wp2_with fail
        have E6 := hide (E5.out.put HN.out 4 (.string (markT (q + 1 + 1 + 1 + 1))) ({ x with kind := (q), number := (q + 1), member := (q + 1 + 1), at_ := (q + 1 + 1 + 1), text := markT (q + 1 + 1 + 1 + 1) }) (by decide) fun _ => ⟨rfl, rfl⟩)
        have E7 := hide (E6.out.put HN.out 5 (.int .i64 (q + 1 + 1 + 1 + 1 + 1)) ({ x with kind := (q), number := (q + 1), member := (q + 1 + 1), at_ := (q + 1 + 1 + 1), text := markT (q + 1 + 1 + 1 + 1), reply := (q + 1 + 1 + 1 + 1 + 1) }) (by decide) fun _ => ⟨rfl, rfl⟩)
        obtain ⟨cur', css', hrow'⟩ := E7.out.row
        simp only [List.set_set] at hrow'
        have hmk : { x with kind := (q), number := (q + 1), member := (q + 1 + 1), at_ := (q + 1 + 1 + 1), text := markT (q + 1 + 1 + 1 + 1), reply := (q + 1 + 1 + 1 + 1 + 1) } = mkEvent q x := rfl
        have hmx : (mixed cntEvent mkEvent k xs i).set i (mkEvent q x) = mixed cntEvent mkEvent k xs (i + 1) := by rw [HQ.out]; exact mixed_set k xs i HX.out
        rw [hmk, hmx] at hrow'
        go_roundg (xs.length - (i + 1))
        case measure => omega
        case rel =>
          refine ⟨i + 1, q + 1 + 1 + 1 + 1 + 1 + 1, by omega, by omega, rfl, by go_num, by omega, hide (by have h1 := HQ.out; have h2 := HT.out; have h3 : cntEvent x = 6 := rfl; rw [h2]; omega), hide ⟨cur', css', hrow'⟩, hide ?_⟩
          exact ((((((((((((((HW.out).setCell (.inl (by simp)) _)).setCell (.inl (by simp)) _)).setCell (.inl (by simp)) _)).setCell (.inl (by simp)) _)).then HS1.out)).setCell (.inl (by simp)) _)).setCell (.inl (by simp)) _)
      · have : i = xs.length := by omega
        subst this
        go_wp2
        go_ret
        obtain ⟨cur, css, hrow⟩ := HR.out
        rw [mixed_all] at hrow
        have hq := HQ.out
        rw [List.take_length] at hq
        refine ⟨by rw [← hq]; rfl, ?_, HW.out⟩
        have hS := hrow.M
        rwa [markAll_len] at hS
/-! ### History -/
def sizeHistory (x : History) : Nat := sizeLog x.base + (x.events.length + sizeAll sizeEvent x.events)
/-- Its strings are no longer than a machine holds. -/
def okHistory (x : History) : Prop := okLog x.base ∧ (∀ y ∈ x.events, okEvent y)
def fewHistory (x : History) : Prop := fewLog x.base ∧ x.events.length ≤ 1048576
def eqHistoryB (a b : History) : Bool := !(!(eqLogB a.base b.base)) && !(!(decide (a.events = b.events)))
theorem eqHistoryB_iff (a b : History) : eqHistoryB a b = true ↔ a = b := by
  cases a; cases b
  simp [eqHistoryB, bytes_eq, and_assoc, eqLogB_eq]
theorem eqHistoryB_eq (a b : History) : eqHistoryB a b = decide (a = b) := by
  rw [Bool.eq_iff_iff, eqHistoryB_iff, decide_eq_true_iff]
set_option maxHeartbeats 2000000 in
theorem eqHistory_c (x y : History) (v1 v2 u1 u2 : Value) (w : World) (h1 : SliceK messageD w v1 x.base.messages) (h2 : SliceK eventD w v2 x.events) (g1 : SliceK messageD w u1 y.base.messages) (g2 : SliceK eventD w u2 y.events) :
    Calls Try.prog 29 #[.agg #[.int .i64 x.base.next, v1, v2], .agg #[.int .i64 y.base.next, u1, u2]] w fun e w' => e = .returned (.bool (eqHistoryB x y)) ∧ Below w.heap.size w w' := by
  have H1 := hide h1
  have G1 := hide g1
  have H2 := hide h2
  have G2 := hide g2
  clear h1 g1 h2 g2
  have HB := hide (((Below.refl w.heap.size w).alloc (Nat.le_refl _) (.cells #[.int .i64 x.base.next, v1, v2] 55)).alloc (by simp) (.cells #[.int .i64 y.base.next, u1, u2] 55))
  go_enter Try.func29, Try.ntmps29
  go_wp2_with (first | (go_at_call 12; ((with_reducible refine (eqLog_c x.base y.base v1 u1 _ (H1.out.below HB.out) (G1.out.below HB.out)).mono ?_); rintro e w1 ⟨rfl, hb1⟩; have HN := hide (HB.out.trans (hb1.mono HB.out.size)); obtain ⟨hc, hf, hs⟩ := bcell hb1; have hz : w.heap.size + 1 < w1.heap.size := (by ((try simp only [World.size_alloc] at hs); omega)); have hy : w.heap.size < w1.heap.size := (by omega); clear hs hb1 HB; have HB := HN; clear HN)) | (go_at_call 23; ((with_reducible refine (eqEventS_c _ _ _ _ _ (H2.out.below HB.out) (G2.out.below HB.out)).mono ?_); rintro e w1 ⟨rfl, hb1⟩; have HN := hide (HB.out.trans (hb1.mono HB.out.size)); obtain ⟨hc, hf, hs⟩ := bcell hb1; have hz : w.heap.size + 1 < w1.heap.size := (by ((try simp only [World.size_alloc] at hs); omega)); have hy : w.heap.size < w1.heap.size := (by omega); clear hs hb1 HB; have HB := HN; clear HN)))
  all_goals
    go_ret
    refine ⟨?_, HB.out⟩
    first
    | (rw [show eqHistoryB x y = false from by simp only [eqHistoryB, decide_true, decide_false, Bool.not_true, Bool.not_false, Bool.and_false, Bool.false_and, Bool.and_true, Bool.true_and, *]]; rfl)
    | (rw [show eqHistoryB x y = true from by simp only [eqHistoryB, decide_true, decide_false, Bool.not_true, Bool.not_false, Bool.and_false, Bool.false_and, Bool.and_true, Bool.true_and, *]]; rfl)
set_option maxHeartbeats 2000000 in
theorem toHistory_c (x : History) (v1 v2 : Value) (w : World) (h1 : SliceK messageD w v1 x.base.messages) (h2 : SliceK eventD w v2 x.events) (hw : fewHistory x) :
    Calls Try.prog 27 #[.agg #[.int .i64 x.base.next, v1, v2]] w (RetElem historyD w x) := by
  unfold fewHistory at hw
  obtain ⟨k1, n2⟩ := hw
  have W1 := hide k1
  clear k1
  have H1 := hide h1
  have H2 := hide h2
  clear h1 h2
  go_enter Try.func27, Try.ntmps27
  go_wp2_with fail
  refine (toLog_c x.base _ _ (H1.out.below ?hb0) W1.out).mono ?_
  case hb0 => exact ((((Below.refl _ _).alloc (Nat.le_refl _) _).alloc (by simp) _).alloc (by simp; omega) _)
  rintro e w1 ⟨cs, J, rfl, hMM, hnJ, hgJ, hb1⟩
  obtain ⟨v, J2, rfl, rfl, hM0⟩ := log_M hMM
  have hM : Made messageD 87 _ w1 v x.base.messages := ⟨_, hM0, hnJ, hgJ⟩
  obtain ⟨A1, c1, rfl⟩ := hM.shape
  have HM0 := hide hM
  have HS0 := hide hb1
  clear hMM hnJ hgJ hM0
  have HB0 := hide (((((Below.refl _ _).alloc (Nat.le_refl _) _).alloc (by simp) _).alloc (by simp; omega) _).trans (hb1.mono (by simp; omega)) : Below w.heap.size w w1)
  obtain ⟨hc0, hf0, hs0⟩ := bcell hb1
  simp only [World.size_alloc, World.size_setCell] at hs0
  have hz0 : w.heap.size + 1 + 1 < w1.heap.size := by omega
  have hy0 : w.heap.size < w1.heap.size := by omega
  have hle0 : w.heap.size ≤ w1.heap.size := by omega
  have hx0 : w.heap.size + 1 < w1.heap.size := by omega
  clear hM hb1 hs0
  go_wp2_with fail
  refine (toEventS_c _ x.events _ (H2.out.below ?hb1) n2).mono ?_
  case hb1 => exact (HB0.out.trans (Chg.below (F := [w.heap.size + 1, w.heap.size + 1 + 1]) (by ((repeat (with_reducible refine Chg.setCell ?_ (.inl (by simp)) _)); exact Chg.refl _ _)) (by omega) (by intro k hk; simp at hk; omega)))
  rintro e w2 ⟨v, rfl, hM, hb1⟩
  obtain ⟨A2, c2, rfl⟩ := hM.shape
  have HM1 := hide hM
  have HS1 := hide hb1
  have HB1 := hide ((HB0.out.trans (Chg.below (F := [w.heap.size + 1, w.heap.size + 1 + 1]) (by ((repeat (with_reducible refine Chg.setCell ?_ (.inl (by simp)) _)); exact Chg.refl _ _)) (by omega) (by intro k hk; simp at hk; omega))).trans (hb1.mono (by simp; omega)) : Below w.heap.size w w2)
  obtain ⟨hc1, hf1, hs1⟩ := bcell hb1
  simp only [World.size_alloc, World.size_setCell] at hs1
  have hz1 : w.heap.size + 1 + 1 < w2.heap.size := by omega
  have hy1 : w.heap.size < w2.heap.size := by omega
  have hle1 : w1.heap.size ≤ w2.heap.size := by omega
  have hx1 : w.heap.size + 1 < w2.heap.size := by omega
  clear hM hb1 hs1
  go_wp2_with fail
  have HZ : Hid (∀ wz, Chg [w.heap.size + 1, w.heap.size + 1 + 1] w2 wz → RetElem historyD w x (.returned (.agg #[.int .i64 x.base.next, .slice A1 x.base.messages.length c1, .slice A2 x.events.length c2])) wz) := by
    intro wz hch
    have c0_ : Chg [w.heap.size + 1, w.heap.size + 1 + 1] w1 wz := ((Chg.trans (b := _) (by ((repeat (with_reducible refine Chg.setCell ?_ (.inl (by simp)) _)); exact Chg.refl _ _)) (Chg.of_below HS1.out [w.heap.size + 1, w.heap.size + 1 + 1])).trans hch)
    obtain ⟨F1, hm1, hn1, hF1⟩ := HM0.out
    have hl1 := hm1.lt
    have m1 := hm1.move fun b hb => c0_.block b (hl1 b hb) (by intro hg; have := hF1 b hb; simp at this hg; omega)
    have c1_ : Chg [w.heap.size + 1, w.heap.size + 1 + 1] w2 wz := hch
    obtain ⟨F2, hm2, hn2, hF2⟩ := HM1.out
    have hl2 := hm2.lt
    have m2 := hm2.move fun b hb => c1_.block b (hl2 b hb) (by intro hg; have := hF2 b hb; simp at this hg; omega)
    refine ⟨_, F1 ++ F2, rfl, history_M_mk m1 m2, (nodup_app (m := w1.heap.size) hn1 hn2 hl1 (by intro b hb; have := hF2 b hb; simp at this; omega)), ?_, ?_⟩
    · intro b hb; simp only [List.mem_append] at hb; rcases hb with hb | hb <;> (first | (have := hF1 b hb; simp at this; omega) | (have := hF2 b hb; simp at this; omega))
    · exact HB1.out.trans (hch.below (by omega) (by intro k hk; simp at hk; omega))
  refine bodyPost_ret (v := .agg #[.int .i64 x.base.next, .slice A1 x.base.messages.length c1, .slice A2 x.events.length c2]) (by simp [results, Try.results27, go_sem, hc0, hz0, hy0, hx0, hc1, hz1, hy1, hx1]) rfl (HZ.out _ ?_)
  repeat (with_reducible refine Chg.setCell ?_ (.inl (by simp)) _)
  exact Chg.refl _ _
set_option maxHeartbeats 2000000 in
theorem szHistory_c (x : History) (v1 v2 : Value) (left : Int) (w : World) (h1 : SliceK messageD w v1 x.base.messages) (h2 : SliceK eventD w v2 x.events) (b0 : 0 ≤ left) (b1 : left ≤ 1048576) (hok : okHistory x) :
    Calls Try.prog 25 #[.agg #[.int .i64 x.base.next, v1, v2], .int .i64 left] w fun e w' => RetSz left (sizeHistory x) e ∧ Below w.heap.size w w' := by
  have H1 := hide h1
  have H2 := hide h2
  clear h1 h2
  have HK := hide hok
  unfold okHistory at hok
  obtain ⟨ho1, ho2⟩ := hok
  have O1 := hide ho1
  clear ho1
  have O2 := hide ho2
  clear ho2
  have HB := hide ((Below.refl w.heap.size w).alloc (Nat.le_refl _) (.cells #[.int .i64 x.base.next, v1, v2] 51))
  go_enter Try.func25, Try.ntmps25
  go_wp2_with (first | (go_at_call 8; ((with_reducible refine (szLog_c x.base _ _ _ (H1.out.below HB.out) (by omega) (by omega) O1.out).mono ?_); rintro e w1 ⟨⟨r1, rfl, hr1⟩, hb1⟩; have hd1 := szR_bd hr1 (by omega); have R1 := hide hr1; have HN := hide (HB.out.trans (hb1.mono HB.out.size)); obtain ⟨hc, hf, hs⟩ := bcell hb1; have hy : w.heap.size < w1.heap.size := (by ((try simp only [World.size_alloc] at hs); omega)); clear hs hb1 HB hr1; have HB := HN; clear HN)) | (go_at_call 19; ((with_reducible refine (szEventS_c _ x.events _ _ (H2.out.below HB.out) (by omega) (by omega) O2.out).mono ?_); rintro e w1 ⟨⟨r2, rfl, hr2⟩, hb1⟩; have hd2 := szR_bd hr2 (by omega); have R2 := hide hr2; have HN := hide (HB.out.trans (hb1.mono HB.out.size)); obtain ⟨hc, hf, hs⟩ := bcell hb1; have hy : w.heap.size < w1.heap.size := (by ((try simp only [World.size_alloc] at hs); omega)); clear hs hb1 HB hr2; have HB := HN; clear HN)))
  all_goals
    go_ret
    refine ⟨⟨_, rfl, ?_⟩, HB.out⟩
    try have e1 := szR_spec R1.out (by omega)
    try have e2 := szR_spec R2.out (by omega)
    unfold szR sizeHistory
    split <;> omega
/-! ### Sync -/
def sizeSync (x : Sync) : Nat := (x.events.length + sizeAll sizeEvent x.events) + sizeLog x.whole
/-- Its strings are no longer than a machine holds. -/
def okSync (x : Sync) : Prop := (∀ y ∈ x.events, okEvent y) ∧ okLog x.whole
def fewSync (x : Sync) : Prop := x.events.length ≤ 1048576 ∧ fewLog x.whole
end Go.Proofs.Ytadcmiinjepdcaa
