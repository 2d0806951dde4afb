/- The laws' own helpers on the structs of the part Event. -/
import Derived.Test.YtadcmiinjepdcaaGreatLawInt
import Derived.Test.YtadcmiinjepdcaaGreatLawText
import Derived.Test.YtadcmiinjepdcaaGreatRow
import Derived.Test.YtadcmiinjepdcaaGreatTyEvent
import Derived.StillTailTactics
import Derived.Deep.RegionWith
import Derived.Test.YtadcmiinjepdcaaGreatLawLog
namespace Go.Proofs.YtadcmiinjepdcaaGreat
open Go Go.RowKit
set_option linter.unusedVariables false
set_option linter.unusedSimpArgs false

/-! ### Event -/
def sizeEvent (x : Event) : Nat := x.text.size
/-- Its strings are no longer than a machine holds. -/
def okEvent (x : Event) : Prop := x.text.size ≤ 9223372036854775807
def eqEventB (a b : Event) : Bool := !(a.kind != b.kind) && !(a.number != b.number) && !(a.member != b.member) && !(a.at_ != b.at_) && !(!(a.text.toList == b.text.toList)) && !(a.reply != b.reply)
theorem eqEventB_iff (a b : Event) : eqEventB a b = true ↔ a = b := by
  cases a; cases b
  simp [eqEventB, bytes_eq, and_assoc]
theorem eqEventB_eq (a b : Event) : eqEventB a b = decide (a = b) := by
  rw [Bool.eq_iff_iff, eqEventB_iff, decide_eq_true_iff]
set_option maxHeartbeats 2000000 in
theorem eqEvent_c (x y : Event) (w : World) :
    Calls Tryz.prog 56 #[.agg #[.int .i64 x.kind, .int .i64 x.number, .int .i64 x.member, .int .i64 x.at_, .string x.text, .int .i64 x.reply], .agg #[.int .i64 y.kind, .int .i64 y.number, .int .i64 y.member, .int .i64 y.at_, .string y.text, .int .i64 y.reply]] w fun e w' => e = .returned (.bool (eqEventB x y)) ∧ Below w.heap.size w w' := by
  have HB := hide (((Below.refl w.heap.size w).alloc (Nat.le_refl _) (.cells #[.int .i64 x.kind, .int .i64 x.number, .int .i64 x.member, .int .i64 x.at_, .string x.text, .int .i64 x.reply] 74)).alloc (by simp) (.cells #[.int .i64 y.kind, .int .i64 y.number, .int .i64 y.member, .int .i64 y.at_, .string y.text, .int .i64 y.reply] 74))
  go_enter Tryz.func56, Tryz.ntmps56
  go_wp2
  all_goals
    go_ret
    refine ⟨?_, HB.out⟩
    first
    | (rw [show eqEventB x y = false from by simp only [eqEventB, decide_true, decide_false, Bool.not_true, Bool.not_false, Bool.and_false, Bool.false_and, Bool.and_true, Bool.true_and, *]]; rfl)
    | (rw [show eqEventB x y = true from by simp only [eqEventB, decide_true, decide_false, Bool.not_true, Bool.not_false, Bool.and_false, Bool.false_and, Bool.and_true, Bool.true_and, *]]; rfl)
set_option maxHeartbeats 2000000 in
set_option maxRecDepth 100000 in
theorem eqEventS_c (va vb : Value) (a b : List Event) (w : World) (ha : SliceK eventD w va a) (hb : SliceK eventD w vb b) :
    Calls Tryz.prog 32 #[va, vb] w fun e w' => e = .returned (.bool (decide (a = b))) ∧ Below w.heap.size w w' := by
  obtain ⟨A, c, rfl, hl1, hm1, hra⟩ := ha
  obtain ⟨B, c', rfl, hl2, hm2, hrb⟩ := hb
  by_cases hlen : a.length = b.length
  · have hne : (((a.length : Nat) : Int) != ((b.length : Nat) : Int)) = false := by simp [hlen]
    have HL := hide hlen
    have HA := hide hra
    have HB := hide hrb
    clear hlen hra hrb
    go_enter Tryz.func32, Tryz.ntmps32
    go_wp2
    go_loopg [5] a.length (fun gg s5 wr => ∃ k : Nat, k ≤ a.length ∧ a.length - k ≤ gg ∧ s5 = .int .i64 k ∧ Hid (a.take k = b.take k) ∧ Hid (Below w.heap.size w wr))
    case atStart => exact ⟨0, Nat.zero_le _, by omega, rfl, rfl, Below.refl _ _⟩
    case round =>
      obtain ⟨k, hk, hg, rfl, HT, HW⟩ := hrel
      by_cases hlt : k < a.length
      · obtain ⟨x, hx⟩ : ∃ x, a[k]? = some x := ⟨_, List.getElem?_eq_getElem hlt⟩
        obtain ⟨y, hy⟩ : ∃ y, b[k]? = some y := ⟨_, List.getElem?_eq_getElem (by have := HL.out; omega)⟩
        have hkb : k < b.length := by have := HL.out; omega
        rcases HA.out with rfl | ⟨p, o, rfl, hra⟩
        · simp at hlt
        rcases HB.out with rfl | ⟨p', o', rfl, hrb⟩
        · simp at hkb
        obtain ⟨p, hc0, hc1, hc2, hc3, hc4, hc5⟩ := event_at hra HW.out hx
        obtain ⟨p', gc0, gc1, gc2, gc3, gc4, gc5⟩ := event_at hrb HW.out hy
        have HX := hide hx
        have HY := hide hy
        clear hx hy hra hrb HA HB 
        go_wp2
        go_still_tail 8, (by kernel_rfl)
        change wpList _ _ _ _ _ wr.drew
        go_wp2_with (go_at_call 56; refine (eqEvent_c x y  _  ).mono ?_; rintro e w1 ⟨rfl, hb1⟩; have H1 := hide (HW.out.drew.trans (hb1.mono (by simpa using HW.out.size))); clear hb1)
        · have hq : ¬ x = y := fun e => by rw [(eqEventB_iff x y).2 e] at *; contradiction
          go_ret
          exact ⟨by rw [eqAll_pre HT.out HX.out HY.out hq]; rfl, H1.out⟩
        · have hq : eqEventB x y = true := by simpa using ‹(!eqEventB x y) = false›
          have HQ := hide ((eqEventB_iff x y).1 hq)
          clear hq
          go_roundg (a.length - (k + 1))
          case measure => omega
          case rel => exact ⟨k + 1, by omega, by omega, by go_num, hide (by rw [List.take_add_one, List.take_add_one, HX.out, HY.out, HT.out, HQ.out]), H1⟩
      · have : k = a.length := by omega
        subst this
        go_wp2
        go_ret
        exact ⟨by rw [show decide (a = b) = true from by rw [decide_eq_true_iff]; have := HT.out; rw [List.take_length] at this; rw [this, HL.out, List.take_length]]; rfl, HW.out⟩
  · have hne : (((a.length : Nat) : Int) != ((b.length : Nat) : Int)) = true := by simp; omega
    have he : decide (a = b) = false := decide_eq_false (by rintro rfl; exact hlen rfl)
    have HE := hide he
    clear he hlen hra hrb
    go_enter Tryz.func32, Tryz.ntmps32
    go_wp2
    go_ret
    exact ⟨by rw [HE.out]; rfl, Below.refl _ _⟩
set_option maxHeartbeats 2000000 in
theorem toEvent_c (x : Event) (w : World) :
    Calls Tryz.prog 52 #[.agg #[.int .i64 x.kind, .int .i64 x.number, .int .i64 x.member, .int .i64 x.at_, .string x.text, .int .i64 x.reply]] w (RetElem eventD w x) := by
  go_enter Tryz.func52, Tryz.ntmps52
  go_wp2_with fail
  refine bodyPost_ret (v := .agg #[.int .i64 x.kind, .int .i64 x.number, .int .i64 x.member, .int .i64 x.at_, .string x.text, .int .i64 x.reply]) (by simp [results, Tryz.results52, go_sem]) rfl ⟨_, [], rfl, ⟨rfl, rfl⟩, List.nodup_nil, by simp, ?_⟩
  repeat (first | exact Below.refl _ _ | refine Below.setCell ?_ (by simp <;> omega) _ | refine Below.alloc ?_ (by simp <;> omega) _)
theorem infoEvent : (Tryz.prog.info? 74).map (fun i => (i.zero, i.size, i.bytes)) = some (some (.agg #[(.int .i64 0), (.int .i64 0), (.int .i64 0), (.int .i64 0), (.string ⟨#[]⟩), (.int .i64 0)]), 6, 56) := by kernel_rfl
set_option maxHeartbeats 2000000 in
set_option maxRecDepth 100000 in
theorem toEventS_c (v : Value) (a : List Event) (w : World) (ha : SliceK eventD w v a) (hn : a.length ≤ 1048576) :
    Calls Tryz.prog 29 #[v] w (RetMade eventD 74 w a) := by
  obtain ⟨A, c, rfl, hl1, hm1, hra⟩ := ha
  have HA := hide hra
  have hmk := run_mk (P := Tryz.prog) 34 74 (.agg #[(.int .i64 0), (.int .i64 0), (.int .i64 0), (.int .i64 0), (.string ⟨#[]⟩), (.int .i64 0)]) 6 56 Tryz.underlying34 infoEvent a.length (by omega) (by omega)
  clear hra
  go_enter Tryz.func29, Tryz.ntmps29
  go_wp2_with fail
  obtain ⟨B, hB⟩ : ∃ B, B = w.heap.size := ⟨_, rfl⟩
  have HBs := hide hB
  rw [← hB]
  have H0 : ∃ cur css Fs, Row eventD 74 (w.alloc (Obj.cells (mkRow (.agg #[(.int .i64 0), (.int .i64 0), (.int .i64 0), (.int .i64 0), (.string ⟨#[]⟩), (.int .i64 0)]) (a.length * 6)) 74)) B a.length cur css Fs (a.take 0) ∧ (B :: Fs.flatten).Nodup ∧ (∀ q ∈ B :: Fs.flatten, w.heap.size ≤ q) :=
    ⟨_, [], [], by rw [hB]; exact Row.start (d := eventD) (by omega), by simp, by intro q hq; simp at hq; omega⟩
  have H0 := hide H0
  clear hB
  go_loopg [4] a.length (fun gg s4 wr => ∃ k : Nat, k ≤ a.length ∧ a.length - k ≤ gg ∧ s4 = .int .i64 k ∧ Hid (∃ cur css Fs, Row eventD 74 wr B a.length cur css Fs (a.take k) ∧ (B :: Fs.flatten).Nodup ∧ (∀ q ∈ B :: Fs.flatten, w.heap.size ≤ q)) ∧ Hid (Below w.heap.size w wr))
  case atStart => exact ⟨0, Nat.zero_le _, by omega, rfl, H0, (Below.refl _ _).alloc (Nat.le_refl _) _⟩
  case round =>
    obtain ⟨k, hk, hg, rfl, HR, HW⟩ := hrel
    clear H0 hmk
    by_cases hlt : k < a.length
    · obtain ⟨x, hx⟩ : ∃ x, a[k]? = some x := ⟨_, List.getElem?_eq_getElem hlt⟩
      rcases HA.out with rfl | ⟨p, o, rfl, hra⟩
      · simp at hlt
      obtain ⟨p, hc0, hc1, hc2, hc3, hc4, hc5⟩ := event_at hra HW.out hx
      have HX := hide hx
      clear hx hra HA 
      go_wp2_with fail
      refine (toEvent_c x  _ ).mono ?_
      rintro e w1 ⟨cs, G, rfl, hm, hnd, hG, hb1⟩
      obtain ⟨cur, css, Fs, hrow, hnF, hgF⟩ := HR.out
      have HM := hide hm
      obtain ⟨rfl, rfl⟩ := hm
      have hsz : cur.size = a.length * 6 := hrow.size
      have hlB : B < wr.heap.size := block_lt hrow.blk
      have hblk1 : w1.heap[B]? = some (.cells cur 74 (0, 0)) := (hb1.block B hlB).trans hrow.blk
      have hfz : ∀ o, w1.frozen? ⟨B, o, none⟩ = false := fun o => frozen_block hblk1
      have hlB1 : B < w1.heap.size := block_lt hblk1
      obtain ⟨z0, hz0⟩ : ∃ z, w1.cell? ⟨B, k * 6, none⟩ = some z := ⟨cur[k * 6]'(by omega), by rw [cell_block hblk1]; exact Array.getElem?_eq_getElem (by omega)⟩
      obtain ⟨z1, hz1⟩ : ∃ z, w1.cell? ⟨B, k * 6 + 1, none⟩ = some z := ⟨cur[k * 6 + 1]'(by omega), by rw [cell_block hblk1]; exact Array.getElem?_eq_getElem (by omega)⟩
      obtain ⟨z2, hz2⟩ : ∃ z, w1.cell? ⟨B, k * 6 + 2, none⟩ = some z := ⟨cur[k * 6 + 2]'(by omega), by rw [cell_block hblk1]; exact Array.getElem?_eq_getElem (by omega)⟩
      obtain ⟨z3, hz3⟩ : ∃ z, w1.cell? ⟨B, k * 6 + 3, none⟩ = some z := ⟨cur[k * 6 + 3]'(by omega), by rw [cell_block hblk1]; exact Array.getElem?_eq_getElem (by omega)⟩
      obtain ⟨z4, hz4⟩ : ∃ z, w1.cell? ⟨B, k * 6 + 4, none⟩ = some z := ⟨cur[k * 6 + 4]'(by omega), by rw [cell_block hblk1]; exact Array.getElem?_eq_getElem (by omega)⟩
      obtain ⟨z5, hz5⟩ : ∃ z, w1.cell? ⟨B, k * 6 + 5, none⟩ = some z := ⟨cur[k * 6 + 5]'(by omega), by rw [cell_block hblk1]; exact Array.getElem?_eq_getElem (by omega)⟩
      have HC := hide (And.intro hrow (And.intro hnF (And.intro hgF (And.intro hnd (And.intro hG (And.intro hb1 hblk1))))))
      have HSZ := hide hsz
      clear HR hrow hnF hgF hnd hG hb1 hblk1 hlB hsz
      go_wp2_with fail
      obtain ⟨hrow, hnF, hgF, hnd, hG, hb1, hblk1⟩ := HC.out
      obtain ⟨cur', hcur', hlist'⟩ := putCells_block [.int .i64 x.kind, .int .i64 x.number, .int .i64 x.member, .int .i64 x.at_, .string x.text, .int .i64 x.reply] w1 B (k * 6) hblk1
      have hBl : ∀ q ∈ B :: Fs.flatten, q < wr.heap.size := hrow.lt
      have htl : (a.take k).length = k := by rw [List.length_take]; omega
      go_roundg (a.length - (k + 1))
      case measure => omega
      case rel =>
        refine ⟨k + 1, by omega, by omega, by go_num, hide ⟨cur', css ++ [[.int .i64 x.kind, .int .i64 x.number, .int .i64 x.member, .int .i64 x.at_, .string x.text, .int .i64 x.reply]], Fs ++ [([] : List Nat)], ?_, ?_, ?_⟩, hide ?_⟩
        · rw [List.take_add_one, HX.out]
          refine Row.snoc (w' := putCells w1 B (k * 6) [.int .i64 x.kind, .int .i64 x.number, .int .i64 x.member, .int .i64 x.at_, .string x.text, .int .i64 x.reply]) hrow (by omega) (Dt.M_move _ (fun q hq => putCells_other _ _ _ _ ?_) HM.out) hcur' (by rw [htl]; exact hlist') (fun q hq => (putCells_other _ _ _ _ ?_).trans (hb1.block q (hBl q (List.mem_cons_of_mem _ hq))))
          · have := hG q hq; have := hBl B List.mem_cons_self; omega
          · intro e; subst e; exact (List.nodup_cons.1 hnF).1 hq
        · rw [List.flatten_append, List.flatten_singleton, ← List.cons_append]
          exact nodup_app hnF hnd hBl hG
        · intro q hq
          rw [List.flatten_append, List.flatten_singleton, ← List.cons_append, List.mem_append] at hq
          rcases hq with hq | hq
          · exact hgF q hq
          · exact Nat.le_trans HW.out.size (hG q hq)
        · exact putCells_below [.int .i64 x.kind, .int .i64 x.number, .int .i64 x.member, .int .i64 x.at_, .string x.text, .int .i64 x.reply] B (k * 6) (HW.out.trans (hb1.mono HW.out.size)) (hgF B List.mem_cons_self)
    · have : k = a.length := by omega
      subst this
      go_wp2
      go_ret
      obtain ⟨cur, css, Fs, hrow, hnF, hgF⟩ := HR.out
      rw [List.take_length] at hrow
      exact ⟨_, rfl, ⟨_, hrow.M, hnF, hgF⟩, HW.out⟩
set_option maxHeartbeats 2000000 in
theorem szEvent_c (x : Event) (left : Int) (w : World) (b0 : 0 ≤ left) (b1 : left ≤ 1048576) (hok : okEvent x) :
    Calls Tryz.prog 50 #[.agg #[.int .i64 x.kind, .int .i64 x.number, .int .i64 x.member, .int .i64 x.at_, .string x.text, .int .i64 x.reply], .int .i64 left] w fun e w' => RetSz left (sizeEvent x) e ∧ Below w.heap.size w w' := by
  have HK := hide hok
  unfold okEvent at hok
  have hs4 := hok
  clear hok
  have HB := hide ((Below.refl w.heap.size w).alloc (Nat.le_refl _) (.cells #[.int .i64 x.kind, .int .i64 x.number, .int .i64 x.member, .int .i64 x.at_, .string x.text, .int .i64 x.reply] 83))
  go_enter Tryz.func50, Tryz.ntmps50
  go_wp2
  all_goals
    go_ret
    refine ⟨⟨_, rfl, ?_⟩, HB.out⟩
    unfold szR sizeEvent
    split <;> omega
set_option maxHeartbeats 2000000 in
theorem szEventS_c (v : Value) (a : List Event) (left : Int) (w : World) (ha : SliceK eventD w v a) (h0 : 0 ≤ left) (h1 : left ≤ 1048576) (hok : ∀ x ∈ a, okEvent x) :
    Calls Tryz.prog 26 #[v, .int .i64 left] w fun e w' => RetSz left (a.length + sizeAll sizeEvent a) e ∧ Below w.heap.size w w' := by
  obtain ⟨A, c, rfl, hl1, hm1, hra⟩ := ha
  have HA := hide hra
  have HOK := hide hok
  clear hok
  clear hra
  by_cases h : (a.length : Int) ≤ left
  · have h2 : ¬ (left - (a.length : Int) < 0) := by omega
    go_enter Tryz.func26, Tryz.ntmps26
    go_wp2
    go_loopg [1, 5] a.length (fun gg s1 s5 wr => ∃ (k : Nat) (q : Int), k ≤ a.length ∧ a.length - k ≤ gg ∧ s1 = .int .i64 q ∧ s5 = .int .i64 k ∧ 0 ≤ q ∧ q ≤ 1048576 ∧ Hid (q = left - a.length - sizeAll sizeEvent (a.take k)) ∧ Hid (Below w.heap.size w wr))
    case atStart => exact ⟨0, left - a.length, Nat.zero_le _, by omega, rfl, rfl, by omega, by omega, hide (by simp [sizeAll]), Below.refl _ _⟩
    case round =>
      obtain ⟨k, q, hk, hg, rfl, rfl, hq0, hq1, HQ, HW⟩ := hrel
      by_cases hlt : k < a.length
      · obtain ⟨x, hx⟩ : ∃ x, a[k]? = some x := ⟨_, List.getElem?_eq_getElem hlt⟩
        rcases HA.out with rfl | ⟨p, o, rfl, hra⟩
        · simp at hlt
        obtain ⟨p, hc0, hc1, hc2, hc3, hc4, hc5⟩ := event_at hra HW.out hx
        have HX := hide hx
        have hokx := hide (HOK.out x (List.mem_of_getElem? hx))
        clear hx hra HA 
        go_wp2_with fail
        refine (szEvent_c x  q _  hq0 hq1 hokx.out).mono ?_
        rintro e w1 ⟨⟨r, rfl, hr⟩, hb1⟩
        have hd := szR_bd hr hq0
        have R := hide hr
        have H1 := hide (HW.out.trans (hb1.mono HW.out.size))
        clear hr hb1
        go_wp2_with fail
        · have hT := sizeAll_take sizeEvent a k x HX.out
          have hL := sizeAll_le sizeEvent a (k + 1)
          have hsp := szR_spec R.out hq0
          have := HQ.out
          go_ret
          exact ⟨⟨_, rfl, by unfold szR; rw [if_neg (by omega)]⟩, H1.out⟩
        · have hT := sizeAll_take sizeEvent a k x HX.out
          have hsp := szR_spec R.out hq0
          have := HQ.out
          have hrq : r = q - sizeEvent x := by omega
          go_roundg (a.length - (k + 1))
          case measure => omega
          case rel => exact ⟨k + 1, r, by omega, by omega, rfl, by go_num, by omega, by omega, hide (by rw [hT]; omega), H1⟩
      · have : k = a.length := by omega
        subst this
        go_wp2
        go_ret
        have := HQ.out
        rw [List.take_length] at this
        exact ⟨⟨_, rfl, by unfold szR; rw [if_pos (by omega)]; omega⟩, HW.out⟩
  · have hr := hide (show -1 = szR left (a.length + sizeAll sizeEvent a) from (if_neg (by omega)).symm)
    have h2 : (left - (a.length : Int) < 0) := by omega
    go_enter Tryz.func26, Tryz.ntmps26
    go_wp2
    go_ret
    exact ⟨⟨_, rfl, hr.out⟩, Below.refl _ _⟩
def cntEvent (x : Event) : Nat := 6
def mkEvent (k : Int) (x : Event) : Event := { kind := (k), number := (k + 1), member := (k + 1 + 1), at_ := (k + 1 + 1 + 1), text := markT (k + 1 + 1 + 1 + 1), reply := (k + 1 + 1 + 1 + 1 + 1) }
theorem cntEvent_mk (k : Int) (x : Event) : cntEvent (mkEvent k x) = cntEvent x := by simp [cntEvent, mkEvent, marks_len, marks_len]
theorem mkEvent_mk (k : Int) (x : Event) : mkEvent k (mkEvent k x) = mkEvent k x := by simp [mkEvent, marks_len, marks_len]
def heldEventB (k : Int) (x : Event) : Bool := !(x.kind != k) && !(x.number != k + 1) && !(x.member != k + 1 + 1) && !(x.at_ != k + 1 + 1 + 1) && !(!(x.text.toList == (markT (k + 1 + 1 + 1 + 1)).toList)) && !(x.reply != k + 1 + 1 + 1 + 1 + 1)
theorem heldEventB_iff {k : Int} (h : 0 ≤ k) (x : Event) : heldEventB k x = true ↔ x = mkEvent k x := by
  cases x
  simp only [heldEventB, mkEvent, Event.mk.injEq, bytes_eq, Bool.and_eq_true, Bool.not_eq_true', bne_eq_false_iff_eq, Bool.not_eq_false', beq_iff_eq, decide_eq_false_iff_not, and_assoc]
set_option maxHeartbeats 4000000 in
set_option maxRecDepth 100000 in
theorem markEventS_c (v : Value) (xs : List Event) (F : List Nat) (k : Int) (w : World) (h : SliceM eventD 74 w v xs F) (hn : F.Nodup) (h0 : 0 ≤ k) (h1 : k + cntAll cntEvent xs ≤ 1000000000000) :
    Calls Tryz.prog 33 #[v, .int .i64 k] w (RetMarkA eventD 74 cntEvent mkEvent w v xs F k) := by
  rcases h.row with ⟨rfl, rfl, rfl⟩ | ⟨B, cap, cur, css, Fs, rfl, hrow, rfl⟩
  · go_enter Tryz.func33, Tryz.ntmps33
    go_wp2
    go_loopg [1, 5] 0 (fun gg s1 s5 wr => s1 = .int .i64 k ∧ s5 = .int .i64 0 ∧ w = wr)
    case atStart => exact ⟨rfl, rfl, rfl⟩
    case round =>
      obtain ⟨rfl, rfl, rfl⟩ := hrel
      go_wp2
      go_ret
      exact ⟨by simp [cntAll], .inl ⟨rfl, rfl, rfl⟩, Chg.refl _ _⟩
  · have H0 := hide (show ∃ cur css, Row eventD 74 w B cap cur css Fs (mixed cntEvent mkEvent k xs 0) from ⟨cur, css, by rw [mixed_zero]; exact hrow⟩)
    have HN := hide hn
    have hlen := hrow.le
    have hmax := hrow.max
    clear h hrow hn
    go_enter Tryz.func33, Tryz.ntmps33
    go_wp2
    go_loopg [1, 5] xs.length (fun gg s1 s5 wr => ∃ (i : Nat) (q : Int), i ≤ xs.length ∧ xs.length - i ≤ gg ∧ s1 = .int .i64 q ∧ s5 = .int .i64 i ∧ 0 ≤ q ∧ Hid (q = k + cntAll cntEvent (xs.take i)) ∧
      Hid (∃ cur css, Row eventD 74 wr B cap cur css Fs (mixed cntEvent mkEvent k xs i)) ∧ Hid (Chg (B :: Fs.flatten) w wr))
    case atStart => exact ⟨0, k, Nat.zero_le _, by omega, rfl, rfl, h0, hide (by simp [cntAll]), H0, Chg.refl _ _⟩
    case round =>
      obtain ⟨i, q, hi, hg, rfl, rfl, hq0, HQ, HR, HW⟩ := hrel
      clear H0
      by_cases hlt : i < xs.length
      · obtain ⟨x, hx⟩ : ∃ x, xs[i]? = some x := ⟨_, List.getElem?_eq_getElem hlt⟩
        obtain ⟨cur, css, hrow⟩ := HR.out
        obtain ⟨cs, G, hE⟩ := RowE.ofRow hrow (mixed_get (cnt := cntEvent) (mk := mkEvent) k xs i hx)
        have hcT := cntAll_take (cnt := cntEvent) xs i x hx
        have hcL := cntAll_le (cnt := cntEvent) xs (i + 1)
        have hq1 : q + cntEvent x ≤ 1000000000000 := by have := HQ.out; omega
        have hq2 : q + (6 : Nat) ≤ 1000000000000 := hq1
        have HT := hide hcT
        have HX := hide hx
        have hlB := hE.blt
        have hfz := hE.frozen
        have hcell := hE.cell
        obtain ⟨rfl, rfl⟩ : cs = [.int .i64 x.kind, .int .i64 x.number, .int .i64 x.member, .int .i64 x.at_, .string x.text, .int .i64 x.reply] ∧ G = [] := hE.M
        have hc0 : wr.cell? ⟨B, i * 6, none⟩ = some (.int .i64 x.kind) := hcell 0 _ rfl
        have hc1 : wr.cell? ⟨B, i * 6 + 1, none⟩ = some (.int .i64 x.number) := hcell 1 _ rfl
        have hc2 : wr.cell? ⟨B, i * 6 + 2, none⟩ = some (.int .i64 x.member) := hcell 2 _ rfl
        have hc3 : wr.cell? ⟨B, i * 6 + 3, none⟩ = some (.int .i64 x.at_) := hcell 3 _ rfl
        have hc4 : wr.cell? ⟨B, i * 6 + 4, none⟩ = some (.string x.text) := hcell 4 _ rfl
        have hc5 : wr.cell? ⟨B, i * 6 + 5, none⟩ = some (.int .i64 x.reply) := hcell 5 _ rfl
        have E0 := hide hE
        clear HR hcell hcT hcL hx hrow hE hq1
        have E1 := hide (E0.out.put HN.out 0 (.int .i64 (q)) ({ x with kind := (q) }) (by decide) fun _ => ⟨rfl, rfl⟩)
        have E2 := hide (E1.out.put HN.out 1 (.int .i64 (q + 1)) ({ x with kind := (q), number := (q + 1) }) (by decide) fun _ => ⟨rfl, rfl⟩)
        have E3 := hide (E2.out.put HN.out 2 (.int .i64 (q + 1 + 1)) ({ x with kind := (q), number := (q + 1), member := (q + 1 + 1) }) (by decide) fun _ => ⟨rfl, rfl⟩)
        have E4 := hide (E3.out.put HN.out 3 (.int .i64 (q + 1 + 1 + 1)) ({ x with kind := (q), number := (q + 1), member := (q + 1 + 1), at_ := (q + 1 + 1 + 1) }) (by decide) fun _ => ⟨rfl, rfl⟩)
        go_wp2_with fail
        refine (markText_c _ _ (by omega) (by omega)).mono ?_
        rintro e w1 ⟨rfl, hb⟩
        have hss := hb.size
        (try simp only [World.size_setCell] at hss)
        have hlB1 : B < w1.heap.size := by omega
        have hle1 : wr.heap.size ≤ w1.heap.size := by omega
        have E5 := hide (E4.out.below hb)
        have hfz1 := E5.out.frozen
        have hcell := E5.out.cell
        have hcc1_0 : w1.cell? ⟨B, i * 6, none⟩ = some _ := hcell 0 _ rfl
        have hcc1_1 : w1.cell? ⟨B, i * 6 + 1, none⟩ = some _ := hcell 1 _ rfl
        have hcc1_2 : w1.cell? ⟨B, i * 6 + 2, none⟩ = some _ := hcell 2 _ rfl
        have hcc1_3 : w1.cell? ⟨B, i * 6 + 3, none⟩ = some _ := hcell 3 _ rfl
        have hcc1_4 : w1.cell? ⟨B, i * 6 + 4, none⟩ = some _ := hcell 4 _ rfl
        have hcc1_5 : w1.cell? ⟨B, i * 6 + 5, none⟩ = some _ := hcell 5 _ rfl
        have HS1 := hide hb
        clear hb hss hcell
        go_wp2_with fail
        have E6 := hide (E5.out.put HN.out 4 (.string (markT (q + 1 + 1 + 1 + 1))) ({ x with kind := (q), number := (q + 1), member := (q + 1 + 1), at_ := (q + 1 + 1 + 1), text := markT (q + 1 + 1 + 1 + 1) }) (by decide) fun _ => ⟨rfl, rfl⟩)
        have E7 := hide (E6.out.put HN.out 5 (.int .i64 (q + 1 + 1 + 1 + 1 + 1)) ({ x with kind := (q), number := (q + 1), member := (q + 1 + 1), at_ := (q + 1 + 1 + 1), text := markT (q + 1 + 1 + 1 + 1), reply := (q + 1 + 1 + 1 + 1 + 1) }) (by decide) fun _ => ⟨rfl, rfl⟩)
        obtain ⟨cur', css', hrow'⟩ := E7.out.row
        simp only [List.set_set] at hrow'
        have hmk : { x with kind := (q), number := (q + 1), member := (q + 1 + 1), at_ := (q + 1 + 1 + 1), text := markT (q + 1 + 1 + 1 + 1), reply := (q + 1 + 1 + 1 + 1 + 1) } = mkEvent q x := rfl
        have hmx : (mixed cntEvent mkEvent k xs i).set i (mkEvent q x) = mixed cntEvent mkEvent k xs (i + 1) := by rw [HQ.out]; exact mixed_set k xs i HX.out
        rw [hmk, hmx] at hrow'
        go_roundg (xs.length - (i + 1))
        case measure => omega
        case rel =>
          refine ⟨i + 1, q + 1 + 1 + 1 + 1 + 1 + 1, by omega, by omega, rfl, by go_num, by omega, hide (by have h1 := HQ.out; have h2 := HT.out; have h3 : cntEvent x = 6 := rfl; rw [h2]; omega), hide ⟨cur', css', hrow'⟩, hide ?_⟩
          exact ((((((((((((((HW.out).setCell (.inl (by simp)) _)).setCell (.inl (by simp)) _)).setCell (.inl (by simp)) _)).setCell (.inl (by simp)) _)).then HS1.out)).setCell (.inl (by simp)) _)).setCell (.inl (by simp)) _)
      · have : i = xs.length := by omega
        subst this
        go_wp2
        go_ret
        obtain ⟨cur, css, hrow⟩ := HR.out
        rw [mixed_all] at hrow
        have hq := HQ.out
        rw [List.take_length] at hq
        refine ⟨by rw [← hq]; rfl, ?_, HW.out⟩
        have hS := hrow.M
        rwa [markAll_len] at hS
set_option maxHeartbeats 4000000 in
set_option maxRecDepth 100000 in
theorem heldEventS_c (v : Value) (xs : List Event) (k : Int) (w : World) (h : SliceK eventD w v xs) (h0 : 0 ≤ k) (h1 : k + cntAll cntEvent xs ≤ 1000000000000) :
    Calls Tryz.prog 41 #[v, .int .i64 k] w fun e w' => e = .returned (.int .i64 (heldAll cntEvent mkEvent k xs)) ∧ Below w.heap.size w w' := by
  obtain ⟨A, c, rfl, hl, hm, hra⟩ := h
  have HA := hide hra
  clear hra
  go_enter Tryz.func41, Tryz.ntmps41
  go_wp2
  go_loopg [1, 5] xs.length (fun gg s1 s5 wr => ∃ (i : Nat) (q : Int), i ≤ xs.length ∧ xs.length - i ≤ gg ∧ s1 = .int .i64 q ∧ s5 = .int .i64 i ∧ 0 ≤ q ∧ Hid (q = k + cntAll cntEvent (xs.take i)) ∧ Hid (xs.take i = (markAll cntEvent mkEvent k xs).take i) ∧ Hid (Below w.heap.size w wr))
  case atStart => exact ⟨0, k, Nat.zero_le _, by omega, rfl, rfl, h0, hide (by simp [cntAll]), rfl, Below.refl _ _⟩
  case round =>
    obtain ⟨i, q, hi, hg, rfl, rfl, hq0, HQ, HT, HB⟩ := hrel
    by_cases hlt : i < xs.length
    · obtain ⟨x, hx⟩ : ∃ x, xs[i]? = some x := ⟨_, List.getElem?_eq_getElem hlt⟩
      rcases HA.out with rfl | ⟨p, o, rfl, hra⟩
      · simp at hlt
      obtain ⟨p, hc0, hc1, hc2, hc3, hc4, hc5⟩ := event_at hra HB.out hx
      have hcT := cntAll_take (cnt := cntEvent) xs i x hx
      have hcL := cntAll_le (cnt := cntEvent) xs (i + 1)
      have hq1 : q + cntEvent x ≤ 1000000000000 := by have := HQ.out; omega
      have hq2 : q + (6 : Nat) ≤ 1000000000000 := hq1
      have HcT := hide hcT
      have HX := hide hx
      clear hx hra HA hcT hcL hq1 
      go_wp2_with fail
      all_goals try (
         have hB : heldEventB q x = false := by simp only [heldEventB, decide_true, decide_false, Bool.not_true, Bool.not_false, Bool.and_false, Bool.false_and, Bool.and_true, Bool.true_and, *]
         have hE : ¬ x = mkEvent q x := fun e => by rw [(heldEventB_iff hq0 x).2 e] at hB; cases hB
         rw [HQ.out] at hE
         go_ret
         exact ⟨by rw [heldAll_neg HX.out hE]; rfl, HB.out⟩)
      go_region_with (go_at_call 57; refine (markText_c _ _ (by omega) (by omega)).mono ?_; rintro e w1 ⟨rfl, hb1⟩; have HN := hide (HB.out.drew.trans (hb1.mono (by simpa using HB.out.size))); have g4 := cell_below hb1 (show wr.drew.cell? _ = _ from hc4); have g5 := cell_below hb1 (show wr.drew.cell? _ = _ from hc5); have bw := hide hb1; clear hb1 HB; have HB := HN; clear HN)
      all_goals go_wp2
      all_goals first
      | (
         go_roundg (xs.length - (i + 1))
         case measure => omega
         case rel =>
           have hB : heldEventB q x = true := by simp only [heldEventB, decide_true, decide_false, Bool.not_true, Bool.not_false, Bool.and_false, Bool.false_and, Bool.and_true, Bool.true_and, *]
           have hE := (heldEventB_iff hq0 x).1 hB
           have hQ := HQ.out
           exact ⟨i + 1, q + cntEvent x, by omega, by omega, (int_congr (by unfold cntEvent; omega)), by go_num, by omega, hide (by rw [HcT.out, hQ]; omega), hide (by rw [List.take_add_one, List.take_add_one, HX.out, HT.out, markAll_get _ _ _ _ HX.out, ← hQ, ← hE]), HB⟩)
      | (
         have hB : heldEventB q x = false := by simp only [heldEventB, decide_true, decide_false, Bool.not_true, Bool.not_false, Bool.and_false, Bool.false_and, Bool.and_true, Bool.true_and, *]
         have hE : ¬ x = mkEvent q x := fun e => by rw [(heldEventB_iff hq0 x).2 e] at hB; cases hB
         rw [HQ.out] at hE
         go_ret
         exact ⟨by rw [heldAll_neg HX.out hE]; rfl, HB.out⟩)
    · have : i = xs.length := by omega
      subst this
      go_wp2
      go_ret
      have hq := HQ.out
      rw [List.take_length] at hq
      exact ⟨by rw [heldAll_pos HT.out, ← hq]; rfl, HB.out⟩
/-! ### History -/
def sizeHistory (x : History) : Nat := sizeLog x.base + (x.events.length + sizeAll sizeEvent x.events)
/-- Its strings are no longer than a machine holds. -/
def okHistory (x : History) : Prop := okLog x.base ∧ (∀ y ∈ x.events, okEvent y)
def fewHistory (x : History) : Prop := fewLog x.base ∧ x.events.length ≤ 1048576
def eqHistoryB (a b : History) : Bool := !(!(eqLogB a.base b.base)) && !(!(decide (a.events = b.events)))
theorem eqHistoryB_iff (a b : History) : eqHistoryB a b = true ↔ a = b := by
  cases a; cases b
  simp [eqHistoryB, bytes_eq, and_assoc, eqLogB_eq]
theorem eqHistoryB_eq (a b : History) : eqHistoryB a b = decide (a = b) := by
  rw [Bool.eq_iff_iff, eqHistoryB_iff, decide_eq_true_iff]
set_option maxHeartbeats 2000000 in
theorem eqHistory_c (x y : History) (v1 v2 u1 u2 : Value) (w : World) (h1 : SliceK messageD w v1 x.base.messages) (h2 : SliceK eventD w v2 x.events) (g1 : SliceK messageD w u1 y.base.messages) (g2 : SliceK eventD w u2 y.events) :
    Calls Tryz.prog 11 #[.agg #[.int .i64 x.base.next, v1, v2], .agg #[.int .i64 y.base.next, u1, u2]] w fun e w' => e = .returned (.bool (eqHistoryB x y)) ∧ Below w.heap.size w w' := by
  have H1 := hide h1
  have G1 := hide g1
  have H2 := hide h2
  have G2 := hide g2
  clear h1 g1 h2 g2
  have HB := hide (((Below.refl w.heap.size w).alloc (Nat.le_refl _) (.cells #[.int .i64 x.base.next, v1, v2] 36)).alloc (by simp) (.cells #[.int .i64 y.base.next, u1, u2] 36))
  go_enter Tryz.func11, Tryz.ntmps11
  go_wp2_with (first | (go_at_call 10; ((with_reducible refine (eqLog_c x.base y.base v1 u1 _ (H1.out.below HB.out) (G1.out.below HB.out)).mono ?_); rintro e w1 ⟨rfl, hb1⟩; have HN := hide (HB.out.trans (hb1.mono HB.out.size)); obtain ⟨hc, hf, hs⟩ := bcell hb1; have hz : w.heap.size + 1 < w1.heap.size := (by ((try simp only [World.size_alloc] at hs); omega)); have hy : w.heap.size < w1.heap.size := (by omega); clear hs hb1 HB; have HB := HN; clear HN)) | (go_at_call 32; ((with_reducible refine (eqEventS_c _ _ _ _ _ (H2.out.below HB.out) (G2.out.below HB.out)).mono ?_); rintro e w1 ⟨rfl, hb1⟩; have HN := hide (HB.out.trans (hb1.mono HB.out.size)); obtain ⟨hc, hf, hs⟩ := bcell hb1; have hz : w.heap.size + 1 < w1.heap.size := (by ((try simp only [World.size_alloc] at hs); omega)); have hy : w.heap.size < w1.heap.size := (by omega); clear hs hb1 HB; have HB := HN; clear HN)))
  all_goals
    go_ret
    refine ⟨?_, HB.out⟩
    first
    | (rw [show eqHistoryB x y = false from by simp only [eqHistoryB, decide_true, decide_false, Bool.not_true, Bool.not_false, Bool.and_false, Bool.false_and, Bool.and_true, Bool.true_and, *]]; rfl)
    | (rw [show eqHistoryB x y = true from by simp only [eqHistoryB, decide_true, decide_false, Bool.not_true, Bool.not_false, Bool.and_false, Bool.false_and, Bool.and_true, Bool.true_and, *]]; rfl)
set_option maxHeartbeats 2000000 in
theorem toHistory_c (x : History) (v1 v2 : Value) (w : World) (h1 : SliceK messageD w v1 x.base.messages) (h2 : SliceK eventD w v2 x.events) (hw : fewHistory x) :
    Calls Tryz.prog 8 #[.agg #[.int .i64 x.base.next, v1, v2]] w (RetElem historyD w x) := by
  unfold fewHistory at hw
  obtain ⟨k1, n2⟩ := hw
  have W1 := hide k1
  clear k1
  have H1 := hide h1
  have H2 := hide h2
  clear h1 h2
  go_enter Tryz.func8, Tryz.ntmps8
  go_wp2_with fail
  refine (toLog_c x.base _ _ (H1.out.below ?hb0) W1.out).mono ?_
  case hb0 => exact ((((Below.refl _ _).alloc (Nat.le_refl _) _).alloc (by simp) _).alloc (by simp; omega) _)
  rintro e w1 ⟨cs, J, rfl, hMM, hnJ, hgJ, hb1⟩
  obtain ⟨v, J2, rfl, rfl, hM0⟩ := log_M hMM
  have hM : Made messageD 90 _ w1 v x.base.messages := ⟨_, hM0, hnJ, hgJ⟩
  obtain ⟨A1, c1, rfl⟩ := hM.shape
  have HM0 := hide hM
  have HS0 := hide hb1
  clear hMM hnJ hgJ hM0
  have HB0 := hide (((((Below.refl _ _).alloc (Nat.le_refl _) _).alloc (by simp) _).alloc (by simp; omega) _).trans (hb1.mono (by simp; omega)) : Below w.heap.size w w1)
  obtain ⟨hc0, hf0, hs0⟩ := bcell hb1
  simp only [World.size_alloc, World.size_setCell] at hs0
  have hz0 : w.heap.size + 1 + 1 < w1.heap.size := by omega
  have hy0 : w.heap.size < w1.heap.size := by omega
  have hle0 : w.heap.size ≤ w1.heap.size := by omega
  have hx0 : w.heap.size + 1 < w1.heap.size := by omega
  clear hM hb1 hs0
  go_wp2_with fail
  refine (toEventS_c _ x.events _ (H2.out.below ?hb1) n2).mono ?_
  case hb1 => exact (HB0.out.trans (Chg.below (F := [w.heap.size + 1, w.heap.size + 1 + 1]) (by ((repeat (with_reducible refine Chg.setCell ?_ (.inl (by simp)) _)); exact Chg.refl _ _)) (by omega) (by intro k hk; simp at hk; omega)))
  rintro e w2 ⟨v, rfl, hM, hb1⟩
  obtain ⟨A2, c2, rfl⟩ := hM.shape
  have HM1 := hide hM
  have HS1 := hide hb1
  have HB1 := hide ((HB0.out.trans (Chg.below (F := [w.heap.size + 1, w.heap.size + 1 + 1]) (by ((repeat (with_reducible refine Chg.setCell ?_ (.inl (by simp)) _)); exact Chg.refl _ _)) (by omega) (by intro k hk; simp at hk; omega))).trans (hb1.mono (by simp; omega)) : Below w.heap.size w w2)
  obtain ⟨hc1, hf1, hs1⟩ := bcell hb1
  simp only [World.size_alloc, World.size_setCell] at hs1
  have hz1 : w.heap.size + 1 + 1 < w2.heap.size := by omega
  have hy1 : w.heap.size < w2.heap.size := by omega
  have hle1 : w1.heap.size ≤ w2.heap.size := by omega
  have hx1 : w.heap.size + 1 < w2.heap.size := by omega
  clear hM hb1 hs1
  go_wp2_with fail
  have HZ : Hid (∀ wz, Chg [w.heap.size + 1, w.heap.size + 1 + 1] w2 wz → RetElem historyD w x (.returned (.agg #[.int .i64 x.base.next, .slice A1 x.base.messages.length c1, .slice A2 x.events.length c2])) wz) := by
    intro wz hch
    have c0_ : Chg [w.heap.size + 1, w.heap.size + 1 + 1] w1 wz := ((Chg.trans (b := _) (by ((repeat (with_reducible refine Chg.setCell ?_ (.inl (by simp)) _)); exact Chg.refl _ _)) (Chg.of_below HS1.out [w.heap.size + 1, w.heap.size + 1 + 1])).trans hch)
    obtain ⟨F1, hm1, hn1, hF1⟩ := HM0.out
    have hl1 := hm1.lt
    have m1 := hm1.move fun b hb => c0_.block b (hl1 b hb) (by intro hg; have := hF1 b hb; simp at this hg; omega)
    have c1_ : Chg [w.heap.size + 1, w.heap.size + 1 + 1] w2 wz := hch
    obtain ⟨F2, hm2, hn2, hF2⟩ := HM1.out
    have hl2 := hm2.lt
    have m2 := hm2.move fun b hb => c1_.block b (hl2 b hb) (by intro hg; have := hF2 b hb; simp at this hg; omega)
    refine ⟨_, F1 ++ F2, rfl, history_M_mk m1 m2, (nodup_app (m := w1.heap.size) hn1 hn2 hl1 (by intro b hb; have := hF2 b hb; simp at this; omega)), ?_, ?_⟩
    · intro b hb; simp only [List.mem_append] at hb; rcases hb with hb | hb <;> (first | (have := hF1 b hb; simp at this; omega) | (have := hF2 b hb; simp at this; omega))
    · exact HB1.out.trans (hch.below (by omega) (by intro k hk; simp at hk; omega))
  refine bodyPost_ret (v := .agg #[.int .i64 x.base.next, .slice A1 x.base.messages.length c1, .slice A2 x.events.length c2]) (by simp [results, Tryz.results8, go_sem, hc0, hz0, hy0, hx0, hc1, hz1, hy1, hx1]) rfl (HZ.out _ ?_)
  repeat (with_reducible refine Chg.setCell ?_ (.inl (by simp)) _)
  exact Chg.refl _ _
set_option maxHeartbeats 2000000 in
theorem szHistory_c (x : History) (v1 v2 : Value) (left : Int) (w : World) (h1 : SliceK messageD w v1 x.base.messages) (h2 : SliceK eventD w v2 x.events) (b0 : 0 ≤ left) (b1 : left ≤ 1048576) (hok : okHistory x) :
    Calls Tryz.prog 6 #[.agg #[.int .i64 x.base.next, v1, v2], .int .i64 left] w fun e w' => RetSz left (sizeHistory x) e ∧ Below w.heap.size w w' := by
  have H1 := hide h1
  have H2 := hide h2
  clear h1 h2
  have HK := hide hok
  unfold okHistory at hok
  obtain ⟨ho1, ho2⟩ := hok
  have O1 := hide ho1
  clear ho1
  have O2 := hide ho2
  clear ho2
  have HB := hide ((Below.refl w.heap.size w).alloc (Nat.le_refl _) (.cells #[.int .i64 x.base.next, v1, v2] 27))
  go_enter Tryz.func6, Tryz.ntmps6
  go_wp2_with (first | (go_at_call 18; ((with_reducible refine (szLog_c x.base _ _ _ (H1.out.below HB.out) (by omega) (by omega) O1.out).mono ?_); rintro e w1 ⟨⟨r1, rfl, hr1⟩, hb1⟩; have hd1 := szR_bd hr1 (by omega); have R1 := hide hr1; have HN := hide (HB.out.trans (hb1.mono HB.out.size)); obtain ⟨hc, hf, hs⟩ := bcell hb1; have hy : w.heap.size < w1.heap.size := (by ((try simp only [World.size_alloc] at hs); omega)); clear hs hb1 HB hr1; have HB := HN; clear HN)) | (go_at_call 26; ((with_reducible refine (szEventS_c _ x.events _ _ (H2.out.below HB.out) (by omega) (by omega) O2.out).mono ?_); rintro e w1 ⟨⟨r2, rfl, hr2⟩, hb1⟩; have hd2 := szR_bd hr2 (by omega); have R2 := hide hr2; have HN := hide (HB.out.trans (hb1.mono HB.out.size)); obtain ⟨hc, hf, hs⟩ := bcell hb1; have hy : w.heap.size < w1.heap.size := (by ((try simp only [World.size_alloc] at hs); omega)); clear hs hb1 HB hr2; have HB := HN; clear HN)))
  all_goals
    go_ret
    refine ⟨⟨_, rfl, ?_⟩, HB.out⟩
    try have e1 := szR_spec R1.out (by omega)
    try have e2 := szR_spec R2.out (by omega)
    unfold szR sizeHistory
    split <;> omega
def tcntHistory (x : History) : Nat := tcntLog x.base + cntAll cntEvent x.events
def tmkHistory (k : Int) (x : History) : History := { x with base := tmkLog (k) x.base, events := markAll cntEvent mkEvent (k + tcntLog x.base) x.events }
theorem tcntHistory_mk (k : Int) (x : History) : tcntHistory (tmkHistory k x) = tcntHistory x := by simp [tcntHistory, tmkHistory, marks_len, tcntLog_mk, tmkLog_mk, cntAll_mark cntEvent_mk, markAll_mark cntEvent_mk mkEvent_mk, marks_len]
theorem tmkHistory_mk (k : Int) (x : History) : tmkHistory k (tmkHistory k x) = tmkHistory k x := by simp [tmkHistory, marks_len, tcntLog_mk, tmkLog_mk, cntAll_mark cntEvent_mk, markAll_mark cntEvent_mk mkEvent_mk, marks_len]
def theldHistory (k : Int) (x : History) : Int := if x = tmkHistory k x then k + tcntHistory x else -1
theorem theldHistory_nn {k : Int} (h : 0 ≤ k) (x : History) : theldHistory k x < 0 ↔ ¬ x = tmkHistory k x := by
  unfold theldHistory; split
  · rename_i h1; constructor
    · intro h2; omega
    · intro h2; exact absurd h1 h2
  · rename_i h1; exact ⟨fun _ => h1, fun _ => by omega⟩
theorem theldHistory_mk (k : Int) (x : History) : theldHistory k (tmkHistory k x) = k + tcntHistory x := by
  unfold theldHistory
  rw [if_pos (tmkHistory_mk k x).symm, tcntHistory_mk]
set_option maxHeartbeats 4000000 in
theorem markHistory_c (x : History) (cs : List Value) (F : List Nat) (k : Int) (w : World) (h : historyD.M w x cs F) (hn : F.Nodup) (h0 : 0 ≤ k) (h1 : k + tcntHistory x ≤ 1000000000000) :
    Calls Tryz.prog 12 #[.agg cs.toArray, .int .i64 k] w (RetMarkT historyD w (tcntHistory x) (tmkHistory k x) cs F k) := by
  unfold tcntHistory at h1
  obtain ⟨v1, v2, F1, F2, rfl, rfl, g1, g2⟩ := history_M h
  have hnn := hn
  simp only [List.nodup_append, List.mem_append] at hnn
  have HN := hide hn
  have HNN := hide hnn
  clear h hn hnn
  have M1 := hide g1
  have M2 := hide g2
  clear g1 g2
  have LT1 := hide (fun b hb => M1.out.lt b hb : ∀ b ∈ F1, b < w.heap.size)
  have LT2 := hide (fun b hb => M2.out.lt b hb : ∀ b ∈ F2, b < w.heap.size)
  have HC := hide ((Chg.refl (F1 ++ F2) w).alloc (.cells #[.int .i64 x.base.next, v1, v2] 36))
  have HB := hide (Below.refl w.heap.size w |>.alloc (Nat.le_refl _) (.cells #[.int .i64 x.base.next, v1, v2] 36))
  have M1 := hide (M1.out.move (fun b hb => HB.out.block b (M1.out.lt b hb)))
  have M2 := hide (M2.out.move (fun b hb => HB.out.block b (M2.out.lt b hb)))
  go_enter Tryz.func12, Tryz.ntmps12
  go_wp2_with fail
  refine (markLog_c x.base _ _ _ _ (log_M_mk M1.out) (HNN.out.1) (by omega) (by omega)).mono ?_
  rintro e w1 ⟨rfl, hMs, hCk⟩
  obtain ⟨t1, J1, hl, rfl, hMk⟩ := log_M hMs
  simp [tmkLog] at hl
  subst hl
  clear hMs
  have HK1 := hide hCk
  have HC := hide (HC.out.trans (hCk.mono (fun b hb => .inl (by simp [hb]))))
  have N1 := hide hMk
  have M2 := hide (M2.out.move (fun b hb => hCk.block b (M2.out.lt b hb) (fun hb2 => HNN.out.2.2 _ hb2 _ hb rfl)))
  clear hMk hCk
  have hbx1 : ∀ o, w1.cell? ⟨w.heap.size, o, none⟩ = (w.alloc (.cells #[.int .i64 x.base.next, v1, v2] 36)).cell? ⟨w.heap.size, o, none⟩ := fun o => World.cell?_of_block (HK1.out.block w.heap.size (by simp) (fun hb => absurd (LT1.out _ hb) (by omega)))
  have hsz1 : w.heap.size < w1.heap.size := by have := HK1.out.size; simp only [World.size_alloc] at this; omega
  go_wp2_with fail
  refine (markEventS_c _ x.events _ _ _ M2.out (HNN.out.2.1) (by omega) (by omega)).mono ?_
  rintro e w2 ⟨rfl, hMk, hCk⟩
  have HK2 := hide hCk
  have HC := hide (HC.out.trans (hCk.mono (fun b hb => .inl (by simp [hb]))))
  have N2 := hide hMk
  have N1 := hide (N1.out.move (fun b hb => hCk.block b (N1.out.lt b hb) (fun hb2 => HNN.out.2.2 _ hb _ hb2 rfl)))
  clear hMk hCk
  go_wp2_with fail
  go_ret
  refine ⟨?_, history_M_mk (x := tmkHistory k x) N1.out N2.out, HC.out⟩
  simp only [tcntHistory]
  exact ret_int (by first | rfl | omega)
theorem tmkHistory_iff (k : Int) (x : History) : x = tmkHistory k x ↔ x.base = tmkLog (k) x.base ∧ x.events = markAll cntEvent mkEvent (k + tcntLog x.base) x.events := by cases x; simp [tmkHistory]
theorem theldHistory_spec {k r : Int} {x : History} (h : r = theldHistory k x) (h0 : 0 ≤ k) : (r = k + tcntHistory x ∧ x = tmkHistory k x) ∨ (r = -1 ∧ ¬ x = tmkHistory k x) := by
  subst h; unfold theldHistory; split
  · rename_i h1; exact .inl ⟨rfl, h1⟩
  · rename_i h1; exact .inr ⟨rfl, h1⟩
set_option maxHeartbeats 4000000 in
theorem heldHistory_c (x : History) (v1 v2 : Value) (k : Int) (w : World) (h1 : SliceK messageD w v1 x.base.messages) (h2 : SliceK eventD w v2 x.events) (b0 : 0 ≤ k) (b1 : k + tcntHistory x ≤ 1000000000000) :
    Calls Tryz.prog 17 #[.agg #[.int .i64 x.base.next, v1, v2], .int .i64 k] w fun e w' => e = .returned (.int .i64 (theldHistory k x)) ∧ Below w.heap.size w w' := by
  unfold tcntHistory at b1
  have H1 := hide h1
  have H2 := hide h2
  clear h1 h2
  have HB := hide ((Below.refl w.heap.size w).alloc (Nat.le_refl _) (.cells #[.int .i64 x.base.next, v1, v2] 36))
  go_enter Tryz.func17, Tryz.ntmps17
  go_wp2_with (first | (go_at_call 14; ((with_reducible refine (heldLog_c x.base _ _ _ (H1.out.below HB.out) (by omega) (by omega)).mono ?_); rintro e w1 ⟨rfl, hb1⟩; have HN := hide (HB.out.trans (hb1.mono HB.out.size)); obtain ⟨hc, hf, hs⟩ := bcell hb1; have hy : w.heap.size < w1.heap.size := (by ((try simp only [World.size_alloc] at hs); omega)); clear hs hb1 HB; have HB := HN; clear HN; obtain ⟨r0, hr0⟩ : ∃ r, r = theldLog (k) x.base := ⟨_, rfl⟩; rw [← hr0]; have hd0 : -1 ≤ r0 ∧ r0 ≤ k + tcntLog x.base := (by rcases theldLog_spec hr0 (by omega) with h | h <;> omega); have R0 := hide hr0; clear hr0)) | (go_at_call 41; ((with_reducible refine (heldEventS_c _ x.events _ _ (H2.out.below HB.out) (by omega) (by omega)).mono ?_); rintro e w1 ⟨rfl, hb1⟩; have HN := hide (HB.out.trans (hb1.mono HB.out.size)); obtain ⟨hc, hf, hs⟩ := bcell hb1; have hy : w.heap.size < w1.heap.size := (by ((try simp only [World.size_alloc] at hs); omega)); clear hs hb1 HB; have HB := HN; clear HN; obtain ⟨r1, hr1⟩ : ∃ r, r = heldAll cntEvent mkEvent (r0) x.events := ⟨_, rfl⟩; rw [← hr1]; have hd1 : -1 ≤ r1 ∧ r1 ≤ r0 + cntAll cntEvent x.events := (by rcases heldAll_spec hr1 (by omega) with h | h <;> omega); have R1 := hide hr1; clear hr1)))
  · go_ret
    refine ⟨?_, HB.out⟩
    have s0 := theldLog_spec R0.out (by omega)
    have hne : ¬ x = tmkHistory k x := fun hx => by
      have hx2 := (tmkHistory_iff k x).1 hx
      rcases s0 with ⟨e0, m0⟩ | ⟨e0, m0⟩
      · omega
      · exact m0 hx2.1
    rw [show theldHistory k x = -1 from if_neg hne]
    rfl
  · go_ret
    refine ⟨?_, HB.out⟩
    have s0 := theldLog_spec R0.out (by omega)
    have s1 := heldAll_spec R1.out (by omega)
    rcases s0 with ⟨e0, m0⟩ | ⟨e0, _⟩
    case inr => omega
    rw [e0] at s1
    have hne : ¬ x = tmkHistory k x := fun hx => by
      have hx2 := (tmkHistory_iff k x).1 hx
      rcases s1 with ⟨e1, m1⟩ | ⟨e1, m1⟩
      · omega
      · exact m1 hx2.2
    rw [show theldHistory k x = -1 from if_neg hne]
    rfl
  · go_ret
    refine ⟨?_, HB.out⟩
    have s0 := theldLog_spec R0.out (by omega)
    have s1 := heldAll_spec R1.out (by omega)
    rcases s0 with ⟨e0, m0⟩ | ⟨e0, _⟩
    case inr => omega
    rw [e0] at s1
    rcases s1 with ⟨e1, m1⟩ | ⟨e1, _⟩
    case inr => omega
    have hx : x = tmkHistory k x := (tmkHistory_iff k x).2 ⟨m0, m1⟩
    rw [show theldHistory k x = r1 from by unfold theldHistory tcntHistory; rw [if_pos hx]; omega]
    rfl
/-! ### Sync -/
def sizeSync (x : Sync) : Nat := (x.events.length + sizeAll sizeEvent x.events) + sizeLog x.whole
/-- Its strings are no longer than a machine holds. -/
def okSync (x : Sync) : Prop := (∀ y ∈ x.events, okEvent y) ∧ okLog x.whole
def fewSync (x : Sync) : Prop := x.events.length ≤ 1048576 ∧ fewLog x.whole
def eqSyncB (a b : Sync) : Bool := !(a.kind != b.kind) && !(!(decide (a.events = b.events))) && !(!(eqLogB a.whole b.whole))
theorem eqSyncB_iff (a b : Sync) : eqSyncB a b = true ↔ a = b := by
  cases a; cases b
  simp [eqSyncB, bytes_eq, and_assoc, eqLogB_eq]
theorem eqSyncB_eq (a b : Sync) : eqSyncB a b = decide (a = b) := by
  rw [Bool.eq_iff_iff, eqSyncB_iff, decide_eq_true_iff]
set_option maxHeartbeats 2000000 in
theorem eqSync_c (x y : Sync) (v1 v3 u1 u3 : Value) (w : World) (h1 : SliceK eventD w v1 x.events) (h3 : SliceK messageD w v3 x.whole.messages) (g1 : SliceK eventD w u1 y.events) (g3 : SliceK messageD w u3 y.whole.messages) :
    Calls Tryz.prog 24 #[.agg #[.int .i64 x.kind, v1, .int .i64 x.whole.next, v3], .agg #[.int .i64 y.kind, u1, .int .i64 y.whole.next, u3]] w fun e w' => e = .returned (.bool (eqSyncB x y)) ∧ Below w.heap.size w w' := by
  have H1 := hide h1
  have G1 := hide g1
  have H3 := hide h3
  have G3 := hide g3
  clear h1 g1 h3 g3
  have HB := hide (((Below.refl w.heap.size w).alloc (Nat.le_refl _) (.cells #[.int .i64 x.kind, v1, .int .i64 x.whole.next, v3] 53)).alloc (by simp) (.cells #[.int .i64 y.kind, u1, .int .i64 y.whole.next, u3] 53))
  go_enter Tryz.func24, Tryz.ntmps24
  go_wp2_with (first | (go_at_call 32; ((with_reducible refine (eqEventS_c _ _ _ _ _ (H1.out.below HB.out) (G1.out.below HB.out)).mono ?_); rintro e w1 ⟨rfl, hb1⟩; have HN := hide (HB.out.trans (hb1.mono HB.out.size)); obtain ⟨hc, hf, hs⟩ := bcell hb1; have hz : w.heap.size + 1 < w1.heap.size := (by ((try simp only [World.size_alloc] at hs); omega)); have hy : w.heap.size < w1.heap.size := (by omega); clear hs hb1 HB; have HB := HN; clear HN)) | (go_at_call 10; ((with_reducible refine (eqLog_c x.whole y.whole v3 u3 _ (H3.out.below HB.out) (G3.out.below HB.out)).mono ?_); rintro e w1 ⟨rfl, hb1⟩; have HN := hide (HB.out.trans (hb1.mono HB.out.size)); obtain ⟨hc, hf, hs⟩ := bcell hb1; have hz : w.heap.size + 1 < w1.heap.size := (by ((try simp only [World.size_alloc] at hs); omega)); have hy : w.heap.size < w1.heap.size := (by omega); clear hs hb1 HB; have HB := HN; clear HN)))
  all_goals
    go_ret
    refine ⟨?_, HB.out⟩
    first
    | (rw [show eqSyncB x y = false from by simp only [eqSyncB, decide_true, decide_false, Bool.not_true, Bool.not_false, Bool.and_false, Bool.false_and, Bool.and_true, Bool.true_and, *]]; rfl)
    | (rw [show eqSyncB x y = true from by simp only [eqSyncB, decide_true, decide_false, Bool.not_true, Bool.not_false, Bool.and_false, Bool.false_and, Bool.and_true, Bool.true_and, *]]; rfl)
set_option maxHeartbeats 2000000 in
theorem toSync_c (x : Sync) (v1 v3 : Value) (w : World) (h1 : SliceK eventD w v1 x.events) (h3 : SliceK messageD w v3 x.whole.messages) (hw : fewSync x) :
    Calls Tryz.prog 22 #[.agg #[.int .i64 x.kind, v1, .int .i64 x.whole.next, v3]] w (RetElem syncD w x) := by
  unfold fewSync at hw
  obtain ⟨n1, k3⟩ := hw
  have W3 := hide k3
  clear k3
  have H1 := hide h1
  have H3 := hide h3
  clear h1 h3
  go_enter Tryz.func22, Tryz.ntmps22
  go_wp2_with fail
  refine (toEventS_c _ x.events _ (H1.out.below ?hb0) n1).mono ?_
  case hb0 => exact ((((Below.refl _ _).alloc (Nat.le_refl _) _).alloc (by simp) _).alloc (by simp; omega) _)
  rintro e w1 ⟨v, rfl, hM, hb1⟩
  obtain ⟨A1, c1, rfl⟩ := hM.shape
  have HM0 := hide hM
  have HS0 := hide hb1
  have HB0 := hide (((((Below.refl _ _).alloc (Nat.le_refl _) _).alloc (by simp) _).alloc (by simp; omega) _).trans (hb1.mono (by simp; omega)) : Below w.heap.size w w1)
  obtain ⟨hc0, hf0, hs0⟩ := bcell hb1
  simp only [World.size_alloc, World.size_setCell] at hs0
  have hz0 : w.heap.size + 1 + 1 < w1.heap.size := by omega
  have hy0 : w.heap.size < w1.heap.size := by omega
  have hle0 : w.heap.size ≤ w1.heap.size := by omega
  have hx0 : w.heap.size + 1 < w1.heap.size := by omega
  clear hM hb1 hs0
  go_wp2_with fail
  refine (toLog_c x.whole _ _ (H3.out.below ?hb1) W3.out).mono ?_
  case hb1 => exact (HB0.out.trans (Chg.below (F := [w.heap.size + 1, w.heap.size + 1 + 1]) (by ((repeat (with_reducible refine Chg.setCell ?_ (.inl (by simp)) _)); exact Chg.refl _ _)) (by omega) (by intro k hk; simp at hk; omega)))
  rintro e w2 ⟨cs, J, rfl, hMM, hnJ, hgJ, hb1⟩
  obtain ⟨v, J2, rfl, rfl, hM0⟩ := log_M hMM
  have hM : Made messageD 90 _ w2 v x.whole.messages := ⟨_, hM0, hnJ, hgJ⟩
  obtain ⟨A3, c3, rfl⟩ := hM.shape
  have HM1 := hide hM
  have HS1 := hide hb1
  clear hMM hnJ hgJ hM0
  have HB1 := hide ((HB0.out.trans (Chg.below (F := [w.heap.size + 1, w.heap.size + 1 + 1]) (by ((repeat (with_reducible refine Chg.setCell ?_ (.inl (by simp)) _)); exact Chg.refl _ _)) (by omega) (by intro k hk; simp at hk; omega))).trans (hb1.mono (by simp; omega)) : Below w.heap.size w w2)
  obtain ⟨hc1, hf1, hs1⟩ := bcell hb1
  simp only [World.size_alloc, World.size_setCell] at hs1
  have hz1 : w.heap.size + 1 + 1 < w2.heap.size := by omega
  have hy1 : w.heap.size < w2.heap.size := by omega
  have hle1 : w1.heap.size ≤ w2.heap.size := by omega
  have hx1 : w.heap.size + 1 < w2.heap.size := by omega
  clear hM hb1 hs1
  go_wp2_with fail
  have HZ : Hid (∀ wz, Chg [w.heap.size + 1, w.heap.size + 1 + 1] w2 wz → RetElem syncD w x (.returned (.agg #[.int .i64 x.kind, .slice A1 x.events.length c1, .int .i64 x.whole.next, .slice A3 x.whole.messages.length c3])) wz) := by
    intro wz hch
    have c0_ : Chg [w.heap.size + 1, w.heap.size + 1 + 1] w1 wz := ((Chg.trans (b := _) (by ((repeat (with_reducible refine Chg.setCell ?_ (.inl (by simp)) _)); exact Chg.refl _ _)) (Chg.of_below HS1.out [w.heap.size + 1, w.heap.size + 1 + 1])).trans hch)
    obtain ⟨F1, hm1, hn1, hF1⟩ := HM0.out
    have hl1 := hm1.lt
    have m1 := hm1.move fun b hb => c0_.block b (hl1 b hb) (by intro hg; have := hF1 b hb; simp at this hg; omega)
    have c1_ : Chg [w.heap.size + 1, w.heap.size + 1 + 1] w2 wz := hch
    obtain ⟨F3, hm3, hn3, hF3⟩ := HM1.out
    have hl3 := hm3.lt
    have m3 := hm3.move fun b hb => c1_.block b (hl3 b hb) (by intro hg; have := hF3 b hb; simp at this hg; omega)
    refine ⟨_, F1 ++ F3, rfl, sync_M_mk m1 m3, (nodup_app (m := w1.heap.size) hn1 hn3 hl1 (by intro b hb; have := hF3 b hb; simp at this; omega)), ?_, ?_⟩
    · intro b hb; simp only [List.mem_append] at hb; rcases hb with hb | hb <;> (first | (have := hF1 b hb; simp at this; omega) | (have := hF3 b hb; simp at this; omega))
    · exact HB1.out.trans (hch.below (by omega) (by intro k hk; simp at hk; omega))
  refine bodyPost_ret (v := .agg #[.int .i64 x.kind, .slice A1 x.events.length c1, .int .i64 x.whole.next, .slice A3 x.whole.messages.length c3]) (by simp [results, Tryz.results22, go_sem, hc0, hz0, hy0, hx0, hc1, hz1, hy1, hx1]) rfl (HZ.out _ ?_)
  repeat (with_reducible refine Chg.setCell ?_ (.inl (by simp)) _)
  exact Chg.refl _ _
set_option maxHeartbeats 2000000 in
theorem szSync_c (x : Sync) (v1 v3 : Value) (left : Int) (w : World) (h1 : SliceK eventD w v1 x.events) (h3 : SliceK messageD w v3 x.whole.messages) (b0 : 0 ≤ left) (b1 : left ≤ 1048576) (hok : okSync x) :
    Calls Tryz.prog 19 #[.agg #[.int .i64 x.kind, v1, .int .i64 x.whole.next, v3], .int .i64 left] w fun e w' => RetSz left (sizeSync x) e ∧ Below w.heap.size w w' := by
  have H1 := hide h1
  have H3 := hide h3
  clear h1 h3
  have HK := hide hok
  unfold okSync at hok
  obtain ⟨ho1, ho3⟩ := hok
  have O1 := hide ho1
  clear ho1
  have O3 := hide ho3
  clear ho3
  have HB := hide ((Below.refl w.heap.size w).alloc (Nat.le_refl _) (.cells #[.int .i64 x.kind, v1, .int .i64 x.whole.next, v3] 47))
  go_enter Tryz.func19, Tryz.ntmps19
  go_wp2_with (first | (go_at_call 26; ((with_reducible refine (szEventS_c _ x.events _ _ (H1.out.below HB.out) (by omega) (by omega) O1.out).mono ?_); rintro e w1 ⟨⟨r1, rfl, hr1⟩, hb1⟩; have hd1 := szR_bd hr1 (by omega); have R1 := hide hr1; have HN := hide (HB.out.trans (hb1.mono HB.out.size)); obtain ⟨hc, hf, hs⟩ := bcell hb1; have hy : w.heap.size < w1.heap.size := (by ((try simp only [World.size_alloc] at hs); omega)); clear hs hb1 HB hr1; have HB := HN; clear HN)) | (go_at_call 18; ((with_reducible refine (szLog_c x.whole _ _ _ (H3.out.below HB.out) (by omega) (by omega) O3.out).mono ?_); rintro e w1 ⟨⟨r3, rfl, hr3⟩, hb1⟩; have hd3 := szR_bd hr3 (by omega); have R3 := hide hr3; have HN := hide (HB.out.trans (hb1.mono HB.out.size)); obtain ⟨hc, hf, hs⟩ := bcell hb1; have hy : w.heap.size < w1.heap.size := (by ((try simp only [World.size_alloc] at hs); omega)); clear hs hb1 HB hr3; have HB := HN; clear HN)))
  all_goals
    go_ret
    refine ⟨⟨_, rfl, ?_⟩, HB.out⟩
    try have e1 := szR_spec R1.out (by omega)
    try have e3 := szR_spec R3.out (by omega)
    unfold szR sizeSync
    split <;> omega
def tcntSync (x : Sync) : Nat := cntAll cntEvent x.events + tcntLog x.whole
def tmkSync (k : Int) (x : Sync) : Sync := { x with events := markAll cntEvent mkEvent (k) x.events, whole := tmkLog (k + cntAll cntEvent x.events) x.whole }
theorem tcntSync_mk (k : Int) (x : Sync) : tcntSync (tmkSync k x) = tcntSync x := by simp [tcntSync, tmkSync, marks_len, cntAll_mark cntEvent_mk, markAll_mark cntEvent_mk mkEvent_mk, tcntLog_mk, tmkLog_mk, marks_len]
theorem tmkSync_mk (k : Int) (x : Sync) : tmkSync k (tmkSync k x) = tmkSync k x := by simp [tmkSync, marks_len, cntAll_mark cntEvent_mk, markAll_mark cntEvent_mk mkEvent_mk, tcntLog_mk, tmkLog_mk, marks_len]
def theldSync (k : Int) (x : Sync) : Int := if x = tmkSync k x then k + tcntSync x else -1
theorem theldSync_nn {k : Int} (h : 0 ≤ k) (x : Sync) : theldSync k x < 0 ↔ ¬ x = tmkSync k x := by
  unfold theldSync; split
  · rename_i h1; constructor
    · intro h2; omega
    · intro h2; exact absurd h1 h2
  · rename_i h1; exact ⟨fun _ => h1, fun _ => by omega⟩
theorem theldSync_mk (k : Int) (x : Sync) : theldSync k (tmkSync k x) = k + tcntSync x := by
  unfold theldSync
  rw [if_pos (tmkSync_mk k x).symm, tcntSync_mk]
set_option maxHeartbeats 4000000 in
theorem markSync_c (x : Sync) (cs : List Value) (F : List Nat) (k : Int) (w : World) (h : syncD.M w x cs F) (hn : F.Nodup) (h0 : 0 ≤ k) (h1 : k + tcntSync x ≤ 1000000000000) :
    Calls Tryz.prog 25 #[.agg cs.toArray, .int .i64 k] w (RetMarkT syncD w (tcntSync x) (tmkSync k x) cs F k) := by
  unfold tcntSync at h1
  obtain ⟨v1, v3, F1, F3, rfl, rfl, g1, g3⟩ := sync_M h
  have hnn := hn
  simp only [List.nodup_append, List.mem_append] at hnn
  have HN := hide hn
  have HNN := hide hnn
  clear h hn hnn
  have M1 := hide g1
  have M3 := hide g3
  clear g1 g3
  have LT1 := hide (fun b hb => M1.out.lt b hb : ∀ b ∈ F1, b < w.heap.size)
  have LT3 := hide (fun b hb => M3.out.lt b hb : ∀ b ∈ F3, b < w.heap.size)
  have HC := hide ((Chg.refl (F1 ++ F3) w).alloc (.cells #[.int .i64 x.kind, v1, .int .i64 x.whole.next, v3] 53))
  have HB := hide (Below.refl w.heap.size w |>.alloc (Nat.le_refl _) (.cells #[.int .i64 x.kind, v1, .int .i64 x.whole.next, v3] 53))
  have M1 := hide (M1.out.move (fun b hb => HB.out.block b (M1.out.lt b hb)))
  have M3 := hide (M3.out.move (fun b hb => HB.out.block b (M3.out.lt b hb)))
  go_enter Tryz.func25, Tryz.ntmps25
  go_wp2_with fail
  refine (markEventS_c _ x.events _ _ _ M1.out (HNN.out.1) (by omega) (by omega)).mono ?_
  rintro e w1 ⟨rfl, hMk, hCk⟩
  have HK1 := hide hCk
  have HC := hide (HC.out.trans (hCk.mono (fun b hb => .inl (by simp [hb]))))
  have N1 := hide hMk
  have M3 := hide (M3.out.move (fun b hb => hCk.block b (M3.out.lt b hb) (fun hb2 => HNN.out.2.2 _ hb2 _ hb rfl)))
  clear hMk hCk
  have hbx1 : ∀ o, w1.cell? ⟨w.heap.size, o, none⟩ = (w.alloc (.cells #[.int .i64 x.kind, v1, .int .i64 x.whole.next, v3] 53)).cell? ⟨w.heap.size, o, none⟩ := fun o => World.cell?_of_block (HK1.out.block w.heap.size (by simp) (fun hb => absurd (LT1.out _ hb) (by omega)))
  have hsz1 : w.heap.size < w1.heap.size := by have := HK1.out.size; simp only [World.size_alloc] at this; omega
  go_wp2_with fail
  refine (markLog_c x.whole _ _ _ _ (log_M_mk M3.out) (HNN.out.2.1) (by omega) (by omega)).mono ?_
  rintro e w2 ⟨rfl, hMs, hCk⟩
  obtain ⟨t3, J3, hl, rfl, hMk⟩ := log_M hMs
  simp [tmkLog] at hl
  subst hl
  clear hMs
  have HK2 := hide hCk
  have HC := hide (HC.out.trans (hCk.mono (fun b hb => .inl (by simp [hb]))))
  have N3 := hide hMk
  have N1 := hide (N1.out.move (fun b hb => hCk.block b (N1.out.lt b hb) (fun hb2 => HNN.out.2.2 _ hb _ hb2 rfl)))
  clear hMk hCk
  go_wp2_with fail
  go_ret
  refine ⟨?_, sync_M_mk (x := tmkSync k x) N1.out N3.out, HC.out⟩
  simp only [tcntSync]
  exact ret_int (by first | rfl | omega)
end Go.Proofs.YtadcmiinjepdcaaGreat
