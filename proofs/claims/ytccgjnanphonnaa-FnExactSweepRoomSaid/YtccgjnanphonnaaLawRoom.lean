/- The laws' own helpers on the structs of the part Room. -/
import Derived.Test.YtccgjnanphonnaaLawInt
import Derived.Test.YtccgjnanphonnaaLawText
import Derived.Test.YtccgjnanphonnaaRow
import Derived.Test.YtccgjnanphonnaaTyRoom
import Derived.StillTailTactics
import Derived.Deep.RegionWith
namespace Go.Proofs.Ytccgjnanphonnaa
open Go Go.RowKit
set_option linter.unusedVariables false
set_option linter.unusedSimpArgs false

/-! ### Member -/
def eqMemberB (a b : Member) : Bool := !(a.id != b.id) && !(a.role != b.role) && !(a.since != b.since) && !(a.quiet != b.quiet)
theorem eqMemberB_iff (a b : Member) : eqMemberB a b = true ↔ a = b := by
  cases a; cases b
  simp [eqMemberB, bytes_eq, and_assoc]
theorem eqMemberB_eq (a b : Member) : eqMemberB a b = decide (a = b) := by
  rw [Bool.eq_iff_iff, eqMemberB_iff, decide_eq_true_iff]
set_option maxHeartbeats 2000000 in
theorem eqMember_c (x y : Member) (w : World) :
    Calls Try.prog 75 #[.agg #[.int .i64 x.id, .int .i64 x.role, .int .i64 x.since, .int .i64 x.quiet], .agg #[.int .i64 y.id, .int .i64 y.role, .int .i64 y.since, .int .i64 y.quiet]] w fun e w' => e = .returned (.bool (eqMemberB x y)) ∧ Below w.heap.size w w' := by
  have HB := hide (((Below.refl w.heap.size w).alloc (Nat.le_refl _) (.cells #[.int .i64 x.id, .int .i64 x.role, .int .i64 x.since, .int .i64 x.quiet] 69)).alloc (by simp) (.cells #[.int .i64 y.id, .int .i64 y.role, .int .i64 y.since, .int .i64 y.quiet] 69))
  go_enter Try.func75, Try.ntmps75
  go_wp2
  all_goals
    go_ret
    refine ⟨?_, HB.out⟩
    first
    | (rw [show eqMemberB x y = false from by simp only [eqMemberB, decide_true, decide_false, Bool.not_true, Bool.not_false, Bool.and_false, Bool.false_and, Bool.and_true, Bool.true_and, *]]; rfl)
    | (rw [show eqMemberB x y = true from by simp only [eqMemberB, decide_true, decide_false, Bool.not_true, Bool.not_false, Bool.and_false, Bool.false_and, Bool.and_true, Bool.true_and, *]]; rfl)
set_option maxHeartbeats 2000000 in
set_option maxRecDepth 100000 in
theorem eqMemberS_c (va vb : Value) (a b : List Member) (w : World) (ha : SliceK memberD w va a) (hb : SliceK memberD w vb b) :
    Calls Try.prog 35 #[va, vb] w fun e w' => e = .returned (.bool (decide (a = b))) ∧ Below w.heap.size w w' := by
  obtain ⟨A, c, rfl, hl1, hm1, hra⟩ := ha
  obtain ⟨B, c', rfl, hl2, hm2, hrb⟩ := hb
  by_cases hlen : a.length = b.length
  · have hne : (((a.length : Nat) : Int) != ((b.length : Nat) : Int)) = false := by simp [hlen]
    have HL := hide hlen
    have HA := hide hra
    have HB := hide hrb
    clear hlen hra hrb
    go_enter Try.func35, Try.ntmps35
    go_wp2
    go_loopg [5] a.length (fun gg s5 wr => ∃ k : Nat, k ≤ a.length ∧ a.length - k ≤ gg ∧ s5 = .int .i64 k ∧ Hid (a.take k = b.take k) ∧ Hid (Below w.heap.size w wr))
    case atStart => exact ⟨0, Nat.zero_le _, by omega, rfl, rfl, Below.refl _ _⟩
    case round =>
      obtain ⟨k, hk, hg, rfl, HT, HW⟩ := hrel
      by_cases hlt : k < a.length
      · obtain ⟨x, hx⟩ : ∃ x, a[k]? = some x := ⟨_, List.getElem?_eq_getElem hlt⟩
        obtain ⟨y, hy⟩ : ∃ y, b[k]? = some y := ⟨_, List.getElem?_eq_getElem (by have := HL.out; omega)⟩
        have hkb : k < b.length := by have := HL.out; omega
        rcases HA.out with rfl | ⟨p, o, rfl, hra⟩
        · simp at hlt
        rcases HB.out with rfl | ⟨p', o', rfl, hrb⟩
        · simp at hkb
        obtain ⟨p, hc0, hc1, hc2, hc3⟩ := member_at hra HW.out hx
        obtain ⟨p', gc0, gc1, gc2, gc3⟩ := member_at hrb HW.out hy
        have HX := hide hx
        have HY := hide hy
        clear hx hy hra hrb HA HB 
        go_wp2
        go_still_tail 8, (by kernel_rfl)
        change wpList _ _ _ _ _ wr.drew
        go_wp2_with (go_at_call 75; refine (eqMember_c x y  _  ).mono ?_; rintro e w1 ⟨rfl, hb1⟩; have H1 := hide (HW.out.drew.trans (hb1.mono (by simpa using HW.out.size))); clear hb1)
        · have hq : ¬ x = y := fun e => by rw [(eqMemberB_iff x y).2 e] at *; contradiction
          go_ret
          exact ⟨by rw [eqAll_pre HT.out HX.out HY.out hq]; rfl, H1.out⟩
        · have hq : eqMemberB x y = true := by simpa using ‹(!eqMemberB x y) = false›
          have HQ := hide ((eqMemberB_iff x y).1 hq)
          clear hq
          go_roundg (a.length - (k + 1))
          case measure => omega
          case rel => exact ⟨k + 1, by omega, by omega, by go_num, hide (by rw [List.take_add_one, List.take_add_one, HX.out, HY.out, HT.out, HQ.out]), H1⟩
      · have : k = a.length := by omega
        subst this
        go_wp2
        go_ret
        exact ⟨by rw [show decide (a = b) = true from by rw [decide_eq_true_iff]; have := HT.out; rw [List.take_length] at this; rw [this, HL.out, List.take_length]]; rfl, HW.out⟩
  · have hne : (((a.length : Nat) : Int) != ((b.length : Nat) : Int)) = true := by simp; omega
    have he : decide (a = b) = false := decide_eq_false (by rintro rfl; exact hlen rfl)
    have HE := hide he
    clear he hlen hra hrb
    go_enter Try.func35, Try.ntmps35
    go_wp2
    go_ret
    exact ⟨by rw [HE.out]; rfl, Below.refl _ _⟩
set_option maxHeartbeats 2000000 in
theorem toMember_c (x : Member) (w : World) :
    Calls Try.prog 68 #[.agg #[.int .i64 x.id, .int .i64 x.role, .int .i64 x.since, .int .i64 x.quiet]] w (RetElem memberD w x) := by
  go_enter Try.func68, Try.ntmps68
  go_wp2_with fail
  refine bodyPost_ret (v := .agg #[.int .i64 x.id, .int .i64 x.role, .int .i64 x.since, .int .i64 x.quiet]) (by simp [results, Try.results68, go_sem]) rfl ⟨_, [], rfl, ⟨rfl, rfl⟩, List.nodup_nil, by simp, ?_⟩
  repeat (first | exact Below.refl _ _ | refine Below.setCell ?_ (by simp <;> omega) _ | refine Below.alloc ?_ (by simp <;> omega) _)
theorem infoMember : (Try.prog.info? 69).map (fun i => (i.zero, i.size, i.bytes)) = some (some (.agg #[(.int .i64 0), (.int .i64 0), (.int .i64 0), (.int .i64 0)]), 4, 32) := by kernel_rfl
set_option maxHeartbeats 2000000 in
set_option maxRecDepth 100000 in
theorem toMemberS_c (v : Value) (a : List Member) (w : World) (ha : SliceK memberD w v a) (hn : a.length ≤ 1048576) :
    Calls Try.prog 29 #[v] w (RetMade memberD 69 w a) := by
  obtain ⟨A, c, rfl, hl1, hm1, hra⟩ := ha
  have HA := hide hra
  have hmk := run_mk (P := Try.prog) 28 69 (.agg #[(.int .i64 0), (.int .i64 0), (.int .i64 0), (.int .i64 0)]) 4 32 Try.underlying28 infoMember a.length (by omega) (by omega)
  clear hra
  go_enter Try.func29, Try.ntmps29
  go_wp2_with fail
  obtain ⟨B, hB⟩ : ∃ B, B = w.heap.size := ⟨_, rfl⟩
  have HBs := hide hB
  rw [← hB]
  have H0 : ∃ cur css Fs, Row memberD 69 (w.alloc (Obj.cells (mkRow (.agg #[(.int .i64 0), (.int .i64 0), (.int .i64 0), (.int .i64 0)]) (a.length * 4)) 69)) B a.length cur css Fs (a.take 0) ∧ (B :: Fs.flatten).Nodup ∧ (∀ q ∈ B :: Fs.flatten, w.heap.size ≤ q) :=
    ⟨_, [], [], by rw [hB]; exact Row.start (d := memberD) (by omega), by simp, by intro q hq; simp at hq; omega⟩
  have H0 := hide H0
  clear hB
  go_loopg [4] a.length (fun gg s4 wr => ∃ k : Nat, k ≤ a.length ∧ a.length - k ≤ gg ∧ s4 = .int .i64 k ∧ Hid (∃ cur css Fs, Row memberD 69 wr B a.length cur css Fs (a.take k) ∧ (B :: Fs.flatten).Nodup ∧ (∀ q ∈ B :: Fs.flatten, w.heap.size ≤ q)) ∧ Hid (Below w.heap.size w wr))
  case atStart => exact ⟨0, Nat.zero_le _, by omega, rfl, H0, (Below.refl _ _).alloc (Nat.le_refl _) _⟩
  case round =>
    obtain ⟨k, hk, hg, rfl, HR, HW⟩ := hrel
    clear H0 hmk
    by_cases hlt : k < a.length
    · obtain ⟨x, hx⟩ : ∃ x, a[k]? = some x := ⟨_, List.getElem?_eq_getElem hlt⟩
      rcases HA.out with rfl | ⟨p, o, rfl, hra⟩
      · simp at hlt
      obtain ⟨p, hc0, hc1, hc2, hc3⟩ := member_at hra HW.out hx
      have HX := hide hx
      clear hx hra HA 
      go_wp2_with fail
      refine (toMember_c x  _ ).mono ?_
      rintro e w1 ⟨cs, G, rfl, hm, hnd, hG, hb1⟩
      obtain ⟨cur, css, Fs, hrow, hnF, hgF⟩ := HR.out
      have HM := hide hm
      obtain ⟨rfl, rfl⟩ := hm
      have hsz : cur.size = a.length * 4 := hrow.size
      have hlB : B < wr.heap.size := block_lt hrow.blk
      have hblk1 : w1.heap[B]? = some (.cells cur 69 (0, 0)) := (hb1.block B hlB).trans hrow.blk
      have hfz : ∀ o, w1.frozen? ⟨B, o, none⟩ = false := fun o => frozen_block hblk1
      have hlB1 : B < w1.heap.size := block_lt hblk1
      obtain ⟨z0, hz0⟩ : ∃ z, w1.cell? ⟨B, k * 4, none⟩ = some z := ⟨cur[k * 4]'(by omega), by rw [cell_block hblk1]; exact Array.getElem?_eq_getElem (by omega)⟩
      obtain ⟨z1, hz1⟩ : ∃ z, w1.cell? ⟨B, k * 4 + 1, none⟩ = some z := ⟨cur[k * 4 + 1]'(by omega), by rw [cell_block hblk1]; exact Array.getElem?_eq_getElem (by omega)⟩
      obtain ⟨z2, hz2⟩ : ∃ z, w1.cell? ⟨B, k * 4 + 2, none⟩ = some z := ⟨cur[k * 4 + 2]'(by omega), by rw [cell_block hblk1]; exact Array.getElem?_eq_getElem (by omega)⟩
      obtain ⟨z3, hz3⟩ : ∃ z, w1.cell? ⟨B, k * 4 + 3, none⟩ = some z := ⟨cur[k * 4 + 3]'(by omega), by rw [cell_block hblk1]; exact Array.getElem?_eq_getElem (by omega)⟩
      have HC := hide (And.intro hrow (And.intro hnF (And.intro hgF (And.intro hnd (And.intro hG (And.intro hb1 hblk1))))))
      have HSZ := hide hsz
      clear HR hrow hnF hgF hnd hG hb1 hblk1 hlB hsz
      go_wp2_with fail
      obtain ⟨hrow, hnF, hgF, hnd, hG, hb1, hblk1⟩ := HC.out
      obtain ⟨cur', hcur', hlist'⟩ := putCells_block [.int .i64 x.id, .int .i64 x.role, .int .i64 x.since, .int .i64 x.quiet] w1 B (k * 4) hblk1
      have hBl : ∀ q ∈ B :: Fs.flatten, q < wr.heap.size := hrow.lt
      have htl : (a.take k).length = k := by rw [List.length_take]; omega
      go_roundg (a.length - (k + 1))
      case measure => omega
      case rel =>
        refine ⟨k + 1, by omega, by omega, by go_num, hide ⟨cur', css ++ [[.int .i64 x.id, .int .i64 x.role, .int .i64 x.since, .int .i64 x.quiet]], Fs ++ [([] : List Nat)], ?_, ?_, ?_⟩, hide ?_⟩
        · rw [List.take_add_one, HX.out]
          refine Row.snoc (w' := putCells w1 B (k * 4) [.int .i64 x.id, .int .i64 x.role, .int .i64 x.since, .int .i64 x.quiet]) hrow (by omega) (Dt.M_move _ (fun q hq => putCells_other _ _ _ _ ?_) HM.out) hcur' (by rw [htl]; exact hlist') (fun q hq => (putCells_other _ _ _ _ ?_).trans (hb1.block q (hBl q (List.mem_cons_of_mem _ hq))))
          · have := hG q hq; have := hBl B List.mem_cons_self; omega
          · intro e; subst e; exact (List.nodup_cons.1 hnF).1 hq
        · rw [List.flatten_append, List.flatten_singleton, ← List.cons_append]
          exact nodup_app hnF hnd hBl hG
        · intro q hq
          rw [List.flatten_append, List.flatten_singleton, ← List.cons_append, List.mem_append] at hq
          rcases hq with hq | hq
          · exact hgF q hq
          · exact Nat.le_trans HW.out.size (hG q hq)
        · exact putCells_below [.int .i64 x.id, .int .i64 x.role, .int .i64 x.since, .int .i64 x.quiet] B (k * 4) (HW.out.trans (hb1.mono HW.out.size)) (hgF B List.mem_cons_self)
    · have : k = a.length := by omega
      subst this
      go_wp2
      go_ret
      obtain ⟨cur, css, Fs, hrow, hnF, hgF⟩ := HR.out
      rw [List.take_length] at hrow
      exact ⟨_, rfl, ⟨_, hrow.M, hnF, hgF⟩, HW.out⟩
theorem szMemberS_c (v : Value) (a : List Member) (left : Int) (w : World) (ha : SliceK memberD w v a) (h0 : 0 ≤ left) (h1 : left ≤ 1048576) :
    Calls Try.prog 23 #[v, .int .i64 left] w fun e w' => RetSz left a.length e ∧ Below w.heap.size w w' := by
  obtain ⟨A, c, rfl, hl1, hm1, hra⟩ := ha
  clear hra
  by_cases h : (a.length : Int) ≤ left
  · have hr := hide (show left - (a.length : Int) = szR left a.length from (if_pos h).symm)
    have h2 : ¬ (left - (a.length : Int) < 0) := by omega
    go_enter Try.func23, Try.ntmps23
    go_wp2
    go_ret
    exact ⟨⟨_, rfl, hr.out⟩, Below.refl _ _⟩
  · have hr := hide (show -1 = szR left a.length from (if_neg h).symm)
    have h2 : (left - (a.length : Int) < 0) := by omega
    go_enter Try.func23, Try.ntmps23
    go_wp2
    go_ret
    exact ⟨⟨_, rfl, hr.out⟩, Below.refl _ _⟩
def cntMember (x : Member) : Nat := 4
def mkMember (k : Int) (x : Member) : Member := { id := (k), role := (k + 1), since := (k + 1 + 1), quiet := (k + 1 + 1 + 1) }
theorem cntMember_mk (k : Int) (x : Member) : cntMember (mkMember k x) = cntMember x := by simp [cntMember, mkMember, marks_len, marks_len]
theorem mkMember_mk (k : Int) (x : Member) : mkMember k (mkMember k x) = mkMember k x := by simp [mkMember, marks_len, marks_len]
def heldMemberB (k : Int) (x : Member) : Bool := !(x.id != k) && !(x.role != k + 1) && !(x.since != k + 1 + 1) && !(x.quiet != k + 1 + 1 + 1)
theorem heldMemberB_iff {k : Int} (h : 0 ≤ k) (x : Member) : heldMemberB k x = true ↔ x = mkMember k x := by
  cases x
  simp only [heldMemberB, mkMember, Member.mk.injEq, bytes_eq, Bool.and_eq_true, Bool.not_eq_true', bne_eq_false_iff_eq, Bool.not_eq_false', beq_iff_eq, decide_eq_false_iff_not, and_assoc]
set_option maxHeartbeats 4000000 in
set_option maxRecDepth 100000 in
theorem markMemberS_c (v : Value) (xs : List Member) (F : List Nat) (k : Int) (w : World) (h : SliceM memberD 69 w v xs F) (hn : F.Nodup) (h0 : 0 ≤ k) (h1 : k + cntAll cntMember xs ≤ 1000000000000) :
    Calls Try.prog 38 #[v, .int .i64 k] w (RetMarkA memberD 69 cntMember mkMember w v xs F k) := by
  rcases h.row with ⟨rfl, rfl, rfl⟩ | ⟨B, cap, cur, css, Fs, rfl, hrow, rfl⟩
  · go_enter Try.func38, Try.ntmps38
    go_wp2
    go_loopg [1, 5] 0 (fun gg s1 s5 wr => s1 = .int .i64 k ∧ s5 = .int .i64 0 ∧ w = wr)
    case atStart => exact ⟨rfl, rfl, rfl⟩
    case round =>
      obtain ⟨rfl, rfl, rfl⟩ := hrel
      go_wp2
      go_ret
      exact ⟨by simp [cntAll], .inl ⟨rfl, rfl, rfl⟩, Chg.refl _ _⟩
  · have H0 := hide (show ∃ cur css, Row memberD 69 w B cap cur css Fs (mixed cntMember mkMember k xs 0) from ⟨cur, css, by rw [mixed_zero]; exact hrow⟩)
    have HN := hide hn
    have hlen := hrow.le
    have hmax := hrow.max
    clear h hrow hn
    go_enter Try.func38, Try.ntmps38
    go_wp2
    go_loopg [1, 5] xs.length (fun gg s1 s5 wr => ∃ (i : Nat) (q : Int), i ≤ xs.length ∧ xs.length - i ≤ gg ∧ s1 = .int .i64 q ∧ s5 = .int .i64 i ∧ 0 ≤ q ∧ Hid (q = k + cntAll cntMember (xs.take i)) ∧
      Hid (∃ cur css, Row memberD 69 wr B cap cur css Fs (mixed cntMember mkMember k xs i)) ∧ Hid (Chg (B :: Fs.flatten) w wr))
    case atStart => exact ⟨0, k, Nat.zero_le _, by omega, rfl, rfl, h0, hide (by simp [cntAll]), H0, Chg.refl _ _⟩
    case round =>
      obtain ⟨i, q, hi, hg, rfl, rfl, hq0, HQ, HR, HW⟩ := hrel
      clear H0
      by_cases hlt : i < xs.length
      · obtain ⟨x, hx⟩ : ∃ x, xs[i]? = some x := ⟨_, List.getElem?_eq_getElem hlt⟩
        obtain ⟨cur, css, hrow⟩ := HR.out
        obtain ⟨cs, G, hE⟩ := RowE.ofRow hrow (mixed_get (cnt := cntMember) (mk := mkMember) k xs i hx)
        have hcT := cntAll_take (cnt := cntMember) xs i x hx
        have hcL := cntAll_le (cnt := cntMember) xs (i + 1)
        have hq1 : q + cntMember x ≤ 1000000000000 := by have := HQ.out; omega
        have hq2 : q + (4 : Nat) ≤ 1000000000000 := hq1
        have HT := hide hcT
        have HX := hide hx
        have hlB := hE.blt
        have hfz := hE.frozen
        have hcell := hE.cell
        obtain ⟨rfl, rfl⟩ : cs = [.int .i64 x.id, .int .i64 x.role, .int .i64 x.since, .int .i64 x.quiet] ∧ G = [] := hE.M
        have hc0 : wr.cell? ⟨B, i * 4, none⟩ = some (.int .i64 x.id) := hcell 0 _ rfl
        have hc1 : wr.cell? ⟨B, i * 4 + 1, none⟩ = some (.int .i64 x.role) := hcell 1 _ rfl
        have hc2 : wr.cell? ⟨B, i * 4 + 2, none⟩ = some (.int .i64 x.since) := hcell 2 _ rfl
        have hc3 : wr.cell? ⟨B, i * 4 + 3, none⟩ = some (.int .i64 x.quiet) := hcell 3 _ rfl
        have E0 := hide hE
        clear HR hcell hcT hcL hx hrow hE hq1
        go_wp2_with fail
        have E1 := hide (E0.out.put HN.out 0 (.int .i64 (q)) ({ x with id := (q) }) (by decide) fun _ => ⟨rfl, rfl⟩)
        have E2 := hide (E1.out.put HN.out 1 (.int .i64 (q + 1)) ({ x with id := (q), role := (q + 1) }) (by decide) fun _ => ⟨rfl, rfl⟩)
        have E3 := hide (E2.out.put HN.out 2 (.int .i64 (q + 1 + 1)) ({ x with id := (q), role := (q + 1), since := (q + 1 + 1) }) (by decide) fun _ => ⟨rfl, rfl⟩)
        have E4 := hide (E3.out.put HN.out 3 (.int .i64 (q + 1 + 1 + 1)) ({ x with id := (q), role := (q + 1), since := (q + 1 + 1), quiet := (q + 1 + 1 + 1) }) (by decide) fun _ => ⟨rfl, rfl⟩)
        obtain ⟨cur', css', hrow'⟩ := E4.out.row
        simp only [List.set_set] at hrow'
        have hmk : { x with id := (q), role := (q + 1), since := (q + 1 + 1), quiet := (q + 1 + 1 + 1) } = mkMember q x := rfl
        have hmx : (mixed cntMember mkMember k xs i).set i (mkMember q x) = mixed cntMember mkMember k xs (i + 1) := by rw [HQ.out]; exact mixed_set k xs i HX.out
        rw [hmk, hmx] at hrow'
        go_roundg (xs.length - (i + 1))
        case measure => omega
        case rel =>
          refine ⟨i + 1, q + 1 + 1 + 1 + 1, by omega, by omega, rfl, by go_num, by omega, hide (by have h1 := HQ.out; have h2 := HT.out; have h3 : cntMember x = 4 := rfl; rw [h2]; omega), hide ⟨cur', css', hrow'⟩, hide ?_⟩
          exact ((((((((HW.out).setCell (.inl (by simp)) _)).setCell (.inl (by simp)) _)).setCell (.inl (by simp)) _)).setCell (.inl (by simp)) _)
      · have : i = xs.length := by omega
        subst this
        go_wp2
        go_ret
        obtain ⟨cur, css, hrow⟩ := HR.out
        rw [mixed_all] at hrow
        have hq := HQ.out
        rw [List.take_length] at hq
        refine ⟨by rw [← hq]; rfl, ?_, HW.out⟩
        have hS := hrow.M
        rwa [markAll_len] at hS
set_option maxHeartbeats 4000000 in
set_option maxRecDepth 100000 in
theorem heldMemberS_c (v : Value) (xs : List Member) (k : Int) (w : World) (h : SliceK memberD w v xs) (h0 : 0 ≤ k) (h1 : k + cntAll cntMember xs ≤ 1000000000000) :
    Calls Try.prog 41 #[v, .int .i64 k] w fun e w' => e = .returned (.int .i64 (heldAll cntMember mkMember k xs)) ∧ Below w.heap.size w w' := by
  obtain ⟨A, c, rfl, hl, hm, hra⟩ := h
  have HA := hide hra
  clear hra
  go_enter Try.func41, Try.ntmps41
  go_wp2
  go_loopg [1, 5] xs.length (fun gg s1 s5 wr => ∃ (i : Nat) (q : Int), i ≤ xs.length ∧ xs.length - i ≤ gg ∧ s1 = .int .i64 q ∧ s5 = .int .i64 i ∧ 0 ≤ q ∧ Hid (q = k + cntAll cntMember (xs.take i)) ∧ Hid (xs.take i = (markAll cntMember mkMember k xs).take i) ∧ Hid (Below w.heap.size w wr))
  case atStart => exact ⟨0, k, Nat.zero_le _, by omega, rfl, rfl, h0, hide (by simp [cntAll]), rfl, Below.refl _ _⟩
  case round =>
    obtain ⟨i, q, hi, hg, rfl, rfl, hq0, HQ, HT, HB⟩ := hrel
    by_cases hlt : i < xs.length
    · obtain ⟨x, hx⟩ : ∃ x, xs[i]? = some x := ⟨_, List.getElem?_eq_getElem hlt⟩
      rcases HA.out with rfl | ⟨p, o, rfl, hra⟩
      · simp at hlt
      obtain ⟨p, hc0, hc1, hc2, hc3⟩ := member_at hra HB.out hx
      have hcT := cntAll_take (cnt := cntMember) xs i x hx
      have hcL := cntAll_le (cnt := cntMember) xs (i + 1)
      have hq1 : q + cntMember x ≤ 1000000000000 := by have := HQ.out; omega
      have hq2 : q + (4 : Nat) ≤ 1000000000000 := hq1
      have HcT := hide hcT
      have HX := hide hx
      clear hx hra HA hcT hcL hq1 
      go_wp2
      all_goals first
      | (
         go_roundg (xs.length - (i + 1))
         case measure => omega
         case rel =>
           have hB : heldMemberB q x = true := by simp only [heldMemberB, decide_true, decide_false, Bool.not_true, Bool.not_false, Bool.and_false, Bool.false_and, Bool.and_true, Bool.true_and, *]
           have hE := (heldMemberB_iff hq0 x).1 hB
           have hQ := HQ.out
           exact ⟨i + 1, q + cntMember x, by omega, by omega, (int_congr (by unfold cntMember; omega)), by go_num, by omega, hide (by rw [HcT.out, hQ]; omega), hide (by rw [List.take_add_one, List.take_add_one, HX.out, HT.out, markAll_get _ _ _ _ HX.out, ← hQ, ← hE]), HB⟩)
      | (
         have hB : heldMemberB q x = false := by simp only [heldMemberB, decide_true, decide_false, Bool.not_true, Bool.not_false, Bool.and_false, Bool.false_and, Bool.and_true, Bool.true_and, *]
         have hE : ¬ x = mkMember q x := fun e => by rw [(heldMemberB_iff hq0 x).2 e] at hB; cases hB
         rw [HQ.out] at hE
         go_ret
         exact ⟨by rw [heldAll_neg HX.out hE]; rfl, HB.out⟩)
    · have : i = xs.length := by omega
      subst this
      go_wp2
      go_ret
      have hq := HQ.out
      rw [List.take_length] at hq
      exact ⟨by rw [heldAll_pos HT.out, ← hq]; rfl, HB.out⟩
/-! ### Invite -/
def eqInviteB (a b : Invite) : Bool := !(a.id != b.id) && !(a.by_ != b.by_) && !(a.until_ != b.until_)
theorem eqInviteB_iff (a b : Invite) : eqInviteB a b = true ↔ a = b := by
  cases a; cases b
  simp [eqInviteB, bytes_eq, and_assoc]
theorem eqInviteB_eq (a b : Invite) : eqInviteB a b = decide (a = b) := by
  rw [Bool.eq_iff_iff, eqInviteB_iff, decide_eq_true_iff]
set_option maxHeartbeats 2000000 in
theorem eqInvite_c (x y : Invite) (w : World) :
    Calls Try.prog 76 #[.agg #[.int .i64 x.id, .int .i64 x.by_, .int .i64 x.until_], .agg #[.int .i64 y.id, .int .i64 y.by_, .int .i64 y.until_]] w fun e w' => e = .returned (.bool (eqInviteB x y)) ∧ Below w.heap.size w w' := by
  have HB := hide (((Below.refl w.heap.size w).alloc (Nat.le_refl _) (.cells #[.int .i64 x.id, .int .i64 x.by_, .int .i64 x.until_] 65)).alloc (by simp) (.cells #[.int .i64 y.id, .int .i64 y.by_, .int .i64 y.until_] 65))
  go_enter Try.func76, Try.ntmps76
  go_wp2
  all_goals
    go_ret
    refine ⟨?_, HB.out⟩
    first
    | (rw [show eqInviteB x y = false from by simp only [eqInviteB, decide_true, decide_false, Bool.not_true, Bool.not_false, Bool.and_false, Bool.false_and, Bool.and_true, Bool.true_and, *]]; rfl)
    | (rw [show eqInviteB x y = true from by simp only [eqInviteB, decide_true, decide_false, Bool.not_true, Bool.not_false, Bool.and_false, Bool.false_and, Bool.and_true, Bool.true_and, *]]; rfl)
set_option maxHeartbeats 2000000 in
set_option maxRecDepth 100000 in
theorem eqInviteS_c (va vb : Value) (a b : List Invite) (w : World) (ha : SliceK inviteD w va a) (hb : SliceK inviteD w vb b) :
    Calls Try.prog 36 #[va, vb] w fun e w' => e = .returned (.bool (decide (a = b))) ∧ Below w.heap.size w w' := by
  obtain ⟨A, c, rfl, hl1, hm1, hra⟩ := ha
  obtain ⟨B, c', rfl, hl2, hm2, hrb⟩ := hb
  by_cases hlen : a.length = b.length
  · have hne : (((a.length : Nat) : Int) != ((b.length : Nat) : Int)) = false := by simp [hlen]
    have HL := hide hlen
    have HA := hide hra
    have HB := hide hrb
    clear hlen hra hrb
    go_enter Try.func36, Try.ntmps36
    go_wp2
    go_loopg [5] a.length (fun gg s5 wr => ∃ k : Nat, k ≤ a.length ∧ a.length - k ≤ gg ∧ s5 = .int .i64 k ∧ Hid (a.take k = b.take k) ∧ Hid (Below w.heap.size w wr))
    case atStart => exact ⟨0, Nat.zero_le _, by omega, rfl, rfl, Below.refl _ _⟩
    case round =>
      obtain ⟨k, hk, hg, rfl, HT, HW⟩ := hrel
      by_cases hlt : k < a.length
      · obtain ⟨x, hx⟩ : ∃ x, a[k]? = some x := ⟨_, List.getElem?_eq_getElem hlt⟩
        obtain ⟨y, hy⟩ : ∃ y, b[k]? = some y := ⟨_, List.getElem?_eq_getElem (by have := HL.out; omega)⟩
        have hkb : k < b.length := by have := HL.out; omega
        rcases HA.out with rfl | ⟨p, o, rfl, hra⟩
        · simp at hlt
        rcases HB.out with rfl | ⟨p', o', rfl, hrb⟩
        · simp at hkb
        obtain ⟨p, hc0, hc1, hc2⟩ := invite_at hra HW.out hx
        obtain ⟨p', gc0, gc1, gc2⟩ := invite_at hrb HW.out hy
        have HX := hide hx
        have HY := hide hy
        clear hx hy hra hrb HA HB 
        go_wp2
        go_still_tail 8, (by kernel_rfl)
        change wpList _ _ _ _ _ wr.drew
        go_wp2_with (go_at_call 76; refine (eqInvite_c x y  _  ).mono ?_; rintro e w1 ⟨rfl, hb1⟩; have H1 := hide (HW.out.drew.trans (hb1.mono (by simpa using HW.out.size))); clear hb1)
        · have hq : ¬ x = y := fun e => by rw [(eqInviteB_iff x y).2 e] at *; contradiction
          go_ret
          exact ⟨by rw [eqAll_pre HT.out HX.out HY.out hq]; rfl, H1.out⟩
        · have hq : eqInviteB x y = true := by simpa using ‹(!eqInviteB x y) = false›
          have HQ := hide ((eqInviteB_iff x y).1 hq)
          clear hq
          go_roundg (a.length - (k + 1))
          case measure => omega
          case rel => exact ⟨k + 1, by omega, by omega, by go_num, hide (by rw [List.take_add_one, List.take_add_one, HX.out, HY.out, HT.out, HQ.out]), H1⟩
      · have : k = a.length := by omega
        subst this
        go_wp2
        go_ret
        exact ⟨by rw [show decide (a = b) = true from by rw [decide_eq_true_iff]; have := HT.out; rw [List.take_length] at this; rw [this, HL.out, List.take_length]]; rfl, HW.out⟩
  · have hne : (((a.length : Nat) : Int) != ((b.length : Nat) : Int)) = true := by simp; omega
    have he : decide (a = b) = false := decide_eq_false (by rintro rfl; exact hlen rfl)
    have HE := hide he
    clear he hlen hra hrb
    go_enter Try.func36, Try.ntmps36
    go_wp2
    go_ret
    exact ⟨by rw [HE.out]; rfl, Below.refl _ _⟩
set_option maxHeartbeats 2000000 in
theorem toInvite_c (x : Invite) (w : World) :
    Calls Try.prog 69 #[.agg #[.int .i64 x.id, .int .i64 x.by_, .int .i64 x.until_]] w (RetElem inviteD w x) := by
  go_enter Try.func69, Try.ntmps69
  go_wp2_with fail
  refine bodyPost_ret (v := .agg #[.int .i64 x.id, .int .i64 x.by_, .int .i64 x.until_]) (by simp [results, Try.results69, go_sem]) rfl ⟨_, [], rfl, ⟨rfl, rfl⟩, List.nodup_nil, by simp, ?_⟩
  repeat (first | exact Below.refl _ _ | refine Below.setCell ?_ (by simp <;> omega) _ | refine Below.alloc ?_ (by simp <;> omega) _)
theorem infoInvite : (Try.prog.info? 65).map (fun i => (i.zero, i.size, i.bytes)) = some (some (.agg #[(.int .i64 0), (.int .i64 0), (.int .i64 0)]), 3, 24) := by kernel_rfl
set_option maxHeartbeats 2000000 in
set_option maxRecDepth 100000 in
theorem toInviteS_c (v : Value) (a : List Invite) (w : World) (ha : SliceK inviteD w v a) (hn : a.length ≤ 1048576) :
    Calls Try.prog 30 #[v] w (RetMade inviteD 65 w a) := by
  obtain ⟨A, c, rfl, hl1, hm1, hra⟩ := ha
  have HA := hide hra
  have hmk := run_mk (P := Try.prog) 29 65 (.agg #[(.int .i64 0), (.int .i64 0), (.int .i64 0)]) 3 24 Try.underlying29 infoInvite a.length (by omega) (by omega)
  clear hra
  go_enter Try.func30, Try.ntmps30
  go_wp2_with fail
  obtain ⟨B, hB⟩ : ∃ B, B = w.heap.size := ⟨_, rfl⟩
  have HBs := hide hB
  rw [← hB]
  have H0 : ∃ cur css Fs, Row inviteD 65 (w.alloc (Obj.cells (mkRow (.agg #[(.int .i64 0), (.int .i64 0), (.int .i64 0)]) (a.length * 3)) 65)) B a.length cur css Fs (a.take 0) ∧ (B :: Fs.flatten).Nodup ∧ (∀ q ∈ B :: Fs.flatten, w.heap.size ≤ q) :=
    ⟨_, [], [], by rw [hB]; exact Row.start (d := inviteD) (by omega), by simp, by intro q hq; simp at hq; omega⟩
  have H0 := hide H0
  clear hB
  go_loopg [4] a.length (fun gg s4 wr => ∃ k : Nat, k ≤ a.length ∧ a.length - k ≤ gg ∧ s4 = .int .i64 k ∧ Hid (∃ cur css Fs, Row inviteD 65 wr B a.length cur css Fs (a.take k) ∧ (B :: Fs.flatten).Nodup ∧ (∀ q ∈ B :: Fs.flatten, w.heap.size ≤ q)) ∧ Hid (Below w.heap.size w wr))
  case atStart => exact ⟨0, Nat.zero_le _, by omega, rfl, H0, (Below.refl _ _).alloc (Nat.le_refl _) _⟩
  case round =>
    obtain ⟨k, hk, hg, rfl, HR, HW⟩ := hrel
    clear H0 hmk
    by_cases hlt : k < a.length
    · obtain ⟨x, hx⟩ : ∃ x, a[k]? = some x := ⟨_, List.getElem?_eq_getElem hlt⟩
      rcases HA.out with rfl | ⟨p, o, rfl, hra⟩
      · simp at hlt
      obtain ⟨p, hc0, hc1, hc2⟩ := invite_at hra HW.out hx
      have HX := hide hx
      clear hx hra HA 
      go_wp2_with fail
      refine (toInvite_c x  _ ).mono ?_
      rintro e w1 ⟨cs, G, rfl, hm, hnd, hG, hb1⟩
      obtain ⟨cur, css, Fs, hrow, hnF, hgF⟩ := HR.out
      have HM := hide hm
      obtain ⟨rfl, rfl⟩ := hm
      have hsz : cur.size = a.length * 3 := hrow.size
      have hlB : B < wr.heap.size := block_lt hrow.blk
      have hblk1 : w1.heap[B]? = some (.cells cur 65 (0, 0)) := (hb1.block B hlB).trans hrow.blk
      have hfz : ∀ o, w1.frozen? ⟨B, o, none⟩ = false := fun o => frozen_block hblk1
      have hlB1 : B < w1.heap.size := block_lt hblk1
      obtain ⟨z0, hz0⟩ : ∃ z, w1.cell? ⟨B, k * 3, none⟩ = some z := ⟨cur[k * 3]'(by omega), by rw [cell_block hblk1]; exact Array.getElem?_eq_getElem (by omega)⟩
      obtain ⟨z1, hz1⟩ : ∃ z, w1.cell? ⟨B, k * 3 + 1, none⟩ = some z := ⟨cur[k * 3 + 1]'(by omega), by rw [cell_block hblk1]; exact Array.getElem?_eq_getElem (by omega)⟩
      obtain ⟨z2, hz2⟩ : ∃ z, w1.cell? ⟨B, k * 3 + 2, none⟩ = some z := ⟨cur[k * 3 + 2]'(by omega), by rw [cell_block hblk1]; exact Array.getElem?_eq_getElem (by omega)⟩
      have HC := hide (And.intro hrow (And.intro hnF (And.intro hgF (And.intro hnd (And.intro hG (And.intro hb1 hblk1))))))
      have HSZ := hide hsz
      clear HR hrow hnF hgF hnd hG hb1 hblk1 hlB hsz
      go_wp2_with fail
      obtain ⟨hrow, hnF, hgF, hnd, hG, hb1, hblk1⟩ := HC.out
      obtain ⟨cur', hcur', hlist'⟩ := putCells_block [.int .i64 x.id, .int .i64 x.by_, .int .i64 x.until_] w1 B (k * 3) hblk1
      have hBl : ∀ q ∈ B :: Fs.flatten, q < wr.heap.size := hrow.lt
      have htl : (a.take k).length = k := by rw [List.length_take]; omega
      go_roundg (a.length - (k + 1))
      case measure => omega
      case rel =>
        refine ⟨k + 1, by omega, by omega, by go_num, hide ⟨cur', css ++ [[.int .i64 x.id, .int .i64 x.by_, .int .i64 x.until_]], Fs ++ [([] : List Nat)], ?_, ?_, ?_⟩, hide ?_⟩
        · rw [List.take_add_one, HX.out]
          refine Row.snoc (w' := putCells w1 B (k * 3) [.int .i64 x.id, .int .i64 x.by_, .int .i64 x.until_]) hrow (by omega) (Dt.M_move _ (fun q hq => putCells_other _ _ _ _ ?_) HM.out) hcur' (by rw [htl]; exact hlist') (fun q hq => (putCells_other _ _ _ _ ?_).trans (hb1.block q (hBl q (List.mem_cons_of_mem _ hq))))
          · have := hG q hq; have := hBl B List.mem_cons_self; omega
          · intro e; subst e; exact (List.nodup_cons.1 hnF).1 hq
        · rw [List.flatten_append, List.flatten_singleton, ← List.cons_append]
          exact nodup_app hnF hnd hBl hG
        · intro q hq
          rw [List.flatten_append, List.flatten_singleton, ← List.cons_append, List.mem_append] at hq
          rcases hq with hq | hq
          · exact hgF q hq
          · exact Nat.le_trans HW.out.size (hG q hq)
        · exact putCells_below [.int .i64 x.id, .int .i64 x.by_, .int .i64 x.until_] B (k * 3) (HW.out.trans (hb1.mono HW.out.size)) (hgF B List.mem_cons_self)
    · have : k = a.length := by omega
      subst this
      go_wp2
      go_ret
      obtain ⟨cur, css, Fs, hrow, hnF, hgF⟩ := HR.out
      rw [List.take_length] at hrow
      exact ⟨_, rfl, ⟨_, hrow.M, hnF, hgF⟩, HW.out⟩
theorem szInviteS_c (v : Value) (a : List Invite) (left : Int) (w : World) (ha : SliceK inviteD w v a) (h0 : 0 ≤ left) (h1 : left ≤ 1048576) :
    Calls Try.prog 24 #[v, .int .i64 left] w fun e w' => RetSz left a.length e ∧ Below w.heap.size w w' := by
  obtain ⟨A, c, rfl, hl1, hm1, hra⟩ := ha
  clear hra
  by_cases h : (a.length : Int) ≤ left
  · have hr := hide (show left - (a.length : Int) = szR left a.length from (if_pos h).symm)
    have h2 : ¬ (left - (a.length : Int) < 0) := by omega
    go_enter Try.func24, Try.ntmps24
    go_wp2
    go_ret
    exact ⟨⟨_, rfl, hr.out⟩, Below.refl _ _⟩
  · have hr := hide (show -1 = szR left a.length from (if_neg h).symm)
    have h2 : (left - (a.length : Int) < 0) := by omega
    go_enter Try.func24, Try.ntmps24
    go_wp2
    go_ret
    exact ⟨⟨_, rfl, hr.out⟩, Below.refl _ _⟩
def cntInvite (x : Invite) : Nat := 3
def mkInvite (k : Int) (x : Invite) : Invite := { id := (k), by_ := (k + 1), until_ := (k + 1 + 1) }
theorem cntInvite_mk (k : Int) (x : Invite) : cntInvite (mkInvite k x) = cntInvite x := by simp [cntInvite, mkInvite, marks_len, marks_len]
theorem mkInvite_mk (k : Int) (x : Invite) : mkInvite k (mkInvite k x) = mkInvite k x := by simp [mkInvite, marks_len, marks_len]
def heldInviteB (k : Int) (x : Invite) : Bool := !(x.id != k) && !(x.by_ != k + 1) && !(x.until_ != k + 1 + 1)
theorem heldInviteB_iff {k : Int} (h : 0 ≤ k) (x : Invite) : heldInviteB k x = true ↔ x = mkInvite k x := by
  cases x
  simp only [heldInviteB, mkInvite, Invite.mk.injEq, bytes_eq, Bool.and_eq_true, Bool.not_eq_true', bne_eq_false_iff_eq, Bool.not_eq_false', beq_iff_eq, decide_eq_false_iff_not, and_assoc]
set_option maxHeartbeats 4000000 in
set_option maxRecDepth 100000 in
theorem markInviteS_c (v : Value) (xs : List Invite) (F : List Nat) (k : Int) (w : World) (h : SliceM inviteD 65 w v xs F) (hn : F.Nodup) (h0 : 0 ≤ k) (h1 : k + cntAll cntInvite xs ≤ 1000000000000) :
    Calls Try.prog 39 #[v, .int .i64 k] w (RetMarkA inviteD 65 cntInvite mkInvite w v xs F k) := by
  rcases h.row with ⟨rfl, rfl, rfl⟩ | ⟨B, cap, cur, css, Fs, rfl, hrow, rfl⟩
  · go_enter Try.func39, Try.ntmps39
    go_wp2
    go_loopg [1, 5] 0 (fun gg s1 s5 wr => s1 = .int .i64 k ∧ s5 = .int .i64 0 ∧ w = wr)
    case atStart => exact ⟨rfl, rfl, rfl⟩
    case round =>
      obtain ⟨rfl, rfl, rfl⟩ := hrel
      go_wp2
      go_ret
      exact ⟨by simp [cntAll], .inl ⟨rfl, rfl, rfl⟩, Chg.refl _ _⟩
  · have H0 := hide (show ∃ cur css, Row inviteD 65 w B cap cur css Fs (mixed cntInvite mkInvite k xs 0) from ⟨cur, css, by rw [mixed_zero]; exact hrow⟩)
    have HN := hide hn
    have hlen := hrow.le
    have hmax := hrow.max
    clear h hrow hn
    go_enter Try.func39, Try.ntmps39
    go_wp2
    go_loopg [1, 5] xs.length (fun gg s1 s5 wr => ∃ (i : Nat) (q : Int), i ≤ xs.length ∧ xs.length - i ≤ gg ∧ s1 = .int .i64 q ∧ s5 = .int .i64 i ∧ 0 ≤ q ∧ Hid (q = k + cntAll cntInvite (xs.take i)) ∧
      Hid (∃ cur css, Row inviteD 65 wr B cap cur css Fs (mixed cntInvite mkInvite k xs i)) ∧ Hid (Chg (B :: Fs.flatten) w wr))
    case atStart => exact ⟨0, k, Nat.zero_le _, by omega, rfl, rfl, h0, hide (by simp [cntAll]), H0, Chg.refl _ _⟩
    case round =>
      obtain ⟨i, q, hi, hg, rfl, rfl, hq0, HQ, HR, HW⟩ := hrel
      clear H0
      by_cases hlt : i < xs.length
      · obtain ⟨x, hx⟩ : ∃ x, xs[i]? = some x := ⟨_, List.getElem?_eq_getElem hlt⟩
        obtain ⟨cur, css, hrow⟩ := HR.out
        obtain ⟨cs, G, hE⟩ := RowE.ofRow hrow (mixed_get (cnt := cntInvite) (mk := mkInvite) k xs i hx)
        have hcT := cntAll_take (cnt := cntInvite) xs i x hx
        have hcL := cntAll_le (cnt := cntInvite) xs (i + 1)
        have hq1 : q + cntInvite x ≤ 1000000000000 := by have := HQ.out; omega
        have hq2 : q + (3 : Nat) ≤ 1000000000000 := hq1
        have HT := hide hcT
        have HX := hide hx
        have hlB := hE.blt
        have hfz := hE.frozen
        have hcell := hE.cell
        obtain ⟨rfl, rfl⟩ : cs = [.int .i64 x.id, .int .i64 x.by_, .int .i64 x.until_] ∧ G = [] := hE.M
        have hc0 : wr.cell? ⟨B, i * 3, none⟩ = some (.int .i64 x.id) := hcell 0 _ rfl
        have hc1 : wr.cell? ⟨B, i * 3 + 1, none⟩ = some (.int .i64 x.by_) := hcell 1 _ rfl
        have hc2 : wr.cell? ⟨B, i * 3 + 2, none⟩ = some (.int .i64 x.until_) := hcell 2 _ rfl
        have E0 := hide hE
        clear HR hcell hcT hcL hx hrow hE hq1
        go_wp2_with fail
        have E1 := hide (E0.out.put HN.out 0 (.int .i64 (q)) ({ x with id := (q) }) (by decide) fun _ => ⟨rfl, rfl⟩)
        have E2 := hide (E1.out.put HN.out 1 (.int .i64 (q + 1)) ({ x with id := (q), by_ := (q + 1) }) (by decide) fun _ => ⟨rfl, rfl⟩)
        have E3 := hide (E2.out.put HN.out 2 (.int .i64 (q + 1 + 1)) ({ x with id := (q), by_ := (q + 1), until_ := (q + 1 + 1) }) (by decide) fun _ => ⟨rfl, rfl⟩)
        obtain ⟨cur', css', hrow'⟩ := E3.out.row
        simp only [List.set_set] at hrow'
        have hmk : { x with id := (q), by_ := (q + 1), until_ := (q + 1 + 1) } = mkInvite q x := rfl
        have hmx : (mixed cntInvite mkInvite k xs i).set i (mkInvite q x) = mixed cntInvite mkInvite k xs (i + 1) := by rw [HQ.out]; exact mixed_set k xs i HX.out
        rw [hmk, hmx] at hrow'
        go_roundg (xs.length - (i + 1))
        case measure => omega
        case rel =>
          refine ⟨i + 1, q + 1 + 1 + 1, by omega, by omega, rfl, by go_num, by omega, hide (by have h1 := HQ.out; have h2 := HT.out; have h3 : cntInvite x = 3 := rfl; rw [h2]; omega), hide ⟨cur', css', hrow'⟩, hide ?_⟩
          exact ((((((HW.out).setCell (.inl (by simp)) _)).setCell (.inl (by simp)) _)).setCell (.inl (by simp)) _)
      · have : i = xs.length := by omega
        subst this
        go_wp2
        go_ret
        obtain ⟨cur, css, hrow⟩ := HR.out
        rw [mixed_all] at hrow
        have hq := HQ.out
        rw [List.take_length] at hq
        refine ⟨by rw [← hq]; rfl, ?_, HW.out⟩
        have hS := hrow.M
        rwa [markAll_len] at hS
set_option maxHeartbeats 4000000 in
set_option maxRecDepth 100000 in
theorem heldInviteS_c (v : Value) (xs : List Invite) (k : Int) (w : World) (h : SliceK inviteD w v xs) (h0 : 0 ≤ k) (h1 : k + cntAll cntInvite xs ≤ 1000000000000) :
    Calls Try.prog 42 #[v, .int .i64 k] w fun e w' => e = .returned (.int .i64 (heldAll cntInvite mkInvite k xs)) ∧ Below w.heap.size w w' := by
  obtain ⟨A, c, rfl, hl, hm, hra⟩ := h
  have HA := hide hra
  clear hra
  go_enter Try.func42, Try.ntmps42
  go_wp2
  go_loopg [1, 5] xs.length (fun gg s1 s5 wr => ∃ (i : Nat) (q : Int), i ≤ xs.length ∧ xs.length - i ≤ gg ∧ s1 = .int .i64 q ∧ s5 = .int .i64 i ∧ 0 ≤ q ∧ Hid (q = k + cntAll cntInvite (xs.take i)) ∧ Hid (xs.take i = (markAll cntInvite mkInvite k xs).take i) ∧ Hid (Below w.heap.size w wr))
  case atStart => exact ⟨0, k, Nat.zero_le _, by omega, rfl, rfl, h0, hide (by simp [cntAll]), rfl, Below.refl _ _⟩
  case round =>
    obtain ⟨i, q, hi, hg, rfl, rfl, hq0, HQ, HT, HB⟩ := hrel
    by_cases hlt : i < xs.length
    · obtain ⟨x, hx⟩ : ∃ x, xs[i]? = some x := ⟨_, List.getElem?_eq_getElem hlt⟩
      rcases HA.out with rfl | ⟨p, o, rfl, hra⟩
      · simp at hlt
      obtain ⟨p, hc0, hc1, hc2⟩ := invite_at hra HB.out hx
      have hcT := cntAll_take (cnt := cntInvite) xs i x hx
      have hcL := cntAll_le (cnt := cntInvite) xs (i + 1)
      have hq1 : q + cntInvite x ≤ 1000000000000 := by have := HQ.out; omega
      have hq2 : q + (3 : Nat) ≤ 1000000000000 := hq1
      have HcT := hide hcT
      have HX := hide hx
      clear hx hra HA hcT hcL hq1 
      go_wp2
      all_goals first
      | (
         go_roundg (xs.length - (i + 1))
         case measure => omega
         case rel =>
           have hB : heldInviteB q x = true := by simp only [heldInviteB, decide_true, decide_false, Bool.not_true, Bool.not_false, Bool.and_false, Bool.false_and, Bool.and_true, Bool.true_and, *]
           have hE := (heldInviteB_iff hq0 x).1 hB
           have hQ := HQ.out
           exact ⟨i + 1, q + cntInvite x, by omega, by omega, (int_congr (by unfold cntInvite; omega)), by go_num, by omega, hide (by rw [HcT.out, hQ]; omega), hide (by rw [List.take_add_one, List.take_add_one, HX.out, HT.out, markAll_get _ _ _ _ HX.out, ← hQ, ← hE]), HB⟩)
      | (
         have hB : heldInviteB q x = false := by simp only [heldInviteB, decide_true, decide_false, Bool.not_true, Bool.not_false, Bool.and_false, Bool.false_and, Bool.and_true, Bool.true_and, *]
         have hE : ¬ x = mkInvite q x := fun e => by rw [(heldInviteB_iff hq0 x).2 e] at hB; cases hB
         rw [HQ.out] at hE
         go_ret
         exact ⟨by rw [heldAll_neg HX.out hE]; rfl, HB.out⟩)
    · have : i = xs.length := by omega
      subst this
      go_wp2
      go_ret
      have hq := HQ.out
      rw [List.take_length] at hq
      exact ⟨by rw [heldAll_pos HT.out, ← hq]; rfl, HB.out⟩
/-! ### Ban -/
def eqBanB (a b : Ban) : Bool := !(a.id != b.id) && !(a.until_ != b.until_)
theorem eqBanB_iff (a b : Ban) : eqBanB a b = true ↔ a = b := by
  cases a; cases b
  simp [eqBanB, bytes_eq, and_assoc]
theorem eqBanB_eq (a b : Ban) : eqBanB a b = decide (a = b) := by
  rw [Bool.eq_iff_iff, eqBanB_iff, decide_eq_true_iff]
set_option maxHeartbeats 2000000 in
theorem eqBan_c (x y : Ban) (w : World) :
    Calls Try.prog 77 #[.agg #[.int .i64 x.id, .int .i64 x.until_], .agg #[.int .i64 y.id, .int .i64 y.until_]] w fun e w' => e = .returned (.bool (eqBanB x y)) ∧ Below w.heap.size w w' := by
  have HB := hide (((Below.refl w.heap.size w).alloc (Nat.le_refl _) (.cells #[.int .i64 x.id, .int .i64 x.until_] 67)).alloc (by simp) (.cells #[.int .i64 y.id, .int .i64 y.until_] 67))
  go_enter Try.func77, Try.ntmps77
  go_wp2
  all_goals
    go_ret
    refine ⟨?_, HB.out⟩
    first
    | (rw [show eqBanB x y = false from by simp only [eqBanB, decide_true, decide_false, Bool.not_true, Bool.not_false, Bool.and_false, Bool.false_and, Bool.and_true, Bool.true_and, *]]; rfl)
    | (rw [show eqBanB x y = true from by simp only [eqBanB, decide_true, decide_false, Bool.not_true, Bool.not_false, Bool.and_false, Bool.false_and, Bool.and_true, Bool.true_and, *]]; rfl)
set_option maxHeartbeats 2000000 in
set_option maxRecDepth 100000 in
theorem eqBanS_c (va vb : Value) (a b : List Ban) (w : World) (ha : SliceK banD w va a) (hb : SliceK banD w vb b) :
    Calls Try.prog 37 #[va, vb] w fun e w' => e = .returned (.bool (decide (a = b))) ∧ Below w.heap.size w w' := by
  obtain ⟨A, c, rfl, hl1, hm1, hra⟩ := ha
  obtain ⟨B, c', rfl, hl2, hm2, hrb⟩ := hb
  by_cases hlen : a.length = b.length
  · have hne : (((a.length : Nat) : Int) != ((b.length : Nat) : Int)) = false := by simp [hlen]
    have HL := hide hlen
    have HA := hide hra
    have HB := hide hrb
    clear hlen hra hrb
    go_enter Try.func37, Try.ntmps37
    go_wp2
    go_loopg [5] a.length (fun gg s5 wr => ∃ k : Nat, k ≤ a.length ∧ a.length - k ≤ gg ∧ s5 = .int .i64 k ∧ Hid (a.take k = b.take k) ∧ Hid (Below w.heap.size w wr))
    case atStart => exact ⟨0, Nat.zero_le _, by omega, rfl, rfl, Below.refl _ _⟩
    case round =>
      obtain ⟨k, hk, hg, rfl, HT, HW⟩ := hrel
      by_cases hlt : k < a.length
      · obtain ⟨x, hx⟩ : ∃ x, a[k]? = some x := ⟨_, List.getElem?_eq_getElem hlt⟩
        obtain ⟨y, hy⟩ : ∃ y, b[k]? = some y := ⟨_, List.getElem?_eq_getElem (by have := HL.out; omega)⟩
        have hkb : k < b.length := by have := HL.out; omega
        rcases HA.out with rfl | ⟨p, o, rfl, hra⟩
        · simp at hlt
        rcases HB.out with rfl | ⟨p', o', rfl, hrb⟩
        · simp at hkb
        obtain ⟨p, hc0, hc1⟩ := ban_at hra HW.out hx
        obtain ⟨p', gc0, gc1⟩ := ban_at hrb HW.out hy
        have HX := hide hx
        have HY := hide hy
        clear hx hy hra hrb HA HB 
        go_wp2
        go_still_tail 8, (by kernel_rfl)
        change wpList _ _ _ _ _ wr.drew
        go_wp2_with (go_at_call 77; refine (eqBan_c x y  _  ).mono ?_; rintro e w1 ⟨rfl, hb1⟩; have H1 := hide (HW.out.drew.trans (hb1.mono (by simpa using HW.out.size))); clear hb1)
        · have hq : ¬ x = y := fun e => by rw [(eqBanB_iff x y).2 e] at *; contradiction
          go_ret
          exact ⟨by rw [eqAll_pre HT.out HX.out HY.out hq]; rfl, H1.out⟩
        · have hq : eqBanB x y = true := by simpa using ‹(!eqBanB x y) = false›
          have HQ := hide ((eqBanB_iff x y).1 hq)
          clear hq
          go_roundg (a.length - (k + 1))
          case measure => omega
          case rel => exact ⟨k + 1, by omega, by omega, by go_num, hide (by rw [List.take_add_one, List.take_add_one, HX.out, HY.out, HT.out, HQ.out]), H1⟩
      · have : k = a.length := by omega
        subst this
        go_wp2
        go_ret
        exact ⟨by rw [show decide (a = b) = true from by rw [decide_eq_true_iff]; have := HT.out; rw [List.take_length] at this; rw [this, HL.out, List.take_length]]; rfl, HW.out⟩
  · have hne : (((a.length : Nat) : Int) != ((b.length : Nat) : Int)) = true := by simp; omega
    have he : decide (a = b) = false := decide_eq_false (by rintro rfl; exact hlen rfl)
    have HE := hide he
    clear he hlen hra hrb
    go_enter Try.func37, Try.ntmps37
    go_wp2
    go_ret
    exact ⟨by rw [HE.out]; rfl, Below.refl _ _⟩
set_option maxHeartbeats 2000000 in
theorem toBan_c (x : Ban) (w : World) :
    Calls Try.prog 70 #[.agg #[.int .i64 x.id, .int .i64 x.until_]] w (RetElem banD w x) := by
  go_enter Try.func70, Try.ntmps70
  go_wp2_with fail
  refine bodyPost_ret (v := .agg #[.int .i64 x.id, .int .i64 x.until_]) (by simp [results, Try.results70, go_sem]) rfl ⟨_, [], rfl, ⟨rfl, rfl⟩, List.nodup_nil, by simp, ?_⟩
  repeat (first | exact Below.refl _ _ | refine Below.setCell ?_ (by simp <;> omega) _ | refine Below.alloc ?_ (by simp <;> omega) _)
theorem infoBan : (Try.prog.info? 67).map (fun i => (i.zero, i.size, i.bytes)) = some (some (.agg #[(.int .i64 0), (.int .i64 0)]), 2, 16) := by kernel_rfl
set_option maxHeartbeats 2000000 in
set_option maxRecDepth 100000 in
theorem toBanS_c (v : Value) (a : List Ban) (w : World) (ha : SliceK banD w v a) (hn : a.length ≤ 1048576) :
    Calls Try.prog 31 #[v] w (RetMade banD 67 w a) := by
  obtain ⟨A, c, rfl, hl1, hm1, hra⟩ := ha
  have HA := hide hra
  have hmk := run_mk (P := Try.prog) 30 67 (.agg #[(.int .i64 0), (.int .i64 0)]) 2 16 Try.underlying30 infoBan a.length (by omega) (by omega)
  clear hra
  go_enter Try.func31, Try.ntmps31
  go_wp2_with fail
  obtain ⟨B, hB⟩ : ∃ B, B = w.heap.size := ⟨_, rfl⟩
  have HBs := hide hB
  rw [← hB]
  have H0 : ∃ cur css Fs, Row banD 67 (w.alloc (Obj.cells (mkRow (.agg #[(.int .i64 0), (.int .i64 0)]) (a.length * 2)) 67)) B a.length cur css Fs (a.take 0) ∧ (B :: Fs.flatten).Nodup ∧ (∀ q ∈ B :: Fs.flatten, w.heap.size ≤ q) :=
    ⟨_, [], [], by rw [hB]; exact Row.start (d := banD) (by omega), by simp, by intro q hq; simp at hq; omega⟩
  have H0 := hide H0
  clear hB
  go_loopg [4] a.length (fun gg s4 wr => ∃ k : Nat, k ≤ a.length ∧ a.length - k ≤ gg ∧ s4 = .int .i64 k ∧ Hid (∃ cur css Fs, Row banD 67 wr B a.length cur css Fs (a.take k) ∧ (B :: Fs.flatten).Nodup ∧ (∀ q ∈ B :: Fs.flatten, w.heap.size ≤ q)) ∧ Hid (Below w.heap.size w wr))
  case atStart => exact ⟨0, Nat.zero_le _, by omega, rfl, H0, (Below.refl _ _).alloc (Nat.le_refl _) _⟩
  case round =>
    obtain ⟨k, hk, hg, rfl, HR, HW⟩ := hrel
    clear H0 hmk
    by_cases hlt : k < a.length
    · obtain ⟨x, hx⟩ : ∃ x, a[k]? = some x := ⟨_, List.getElem?_eq_getElem hlt⟩
      rcases HA.out with rfl | ⟨p, o, rfl, hra⟩
      · simp at hlt
      obtain ⟨p, hc0, hc1⟩ := ban_at hra HW.out hx
      have HX := hide hx
      clear hx hra HA 
      go_wp2_with fail
      refine (toBan_c x  _ ).mono ?_
      rintro e w1 ⟨cs, G, rfl, hm, hnd, hG, hb1⟩
      obtain ⟨cur, css, Fs, hrow, hnF, hgF⟩ := HR.out
      have HM := hide hm
      obtain ⟨rfl, rfl⟩ := hm
      have hsz : cur.size = a.length * 2 := hrow.size
      have hlB : B < wr.heap.size := block_lt hrow.blk
      have hblk1 : w1.heap[B]? = some (.cells cur 67 (0, 0)) := (hb1.block B hlB).trans hrow.blk
      have hfz : ∀ o, w1.frozen? ⟨B, o, none⟩ = false := fun o => frozen_block hblk1
      have hlB1 : B < w1.heap.size := block_lt hblk1
      obtain ⟨z0, hz0⟩ : ∃ z, w1.cell? ⟨B, k * 2, none⟩ = some z := ⟨cur[k * 2]'(by omega), by rw [cell_block hblk1]; exact Array.getElem?_eq_getElem (by omega)⟩
      obtain ⟨z1, hz1⟩ : ∃ z, w1.cell? ⟨B, k * 2 + 1, none⟩ = some z := ⟨cur[k * 2 + 1]'(by omega), by rw [cell_block hblk1]; exact Array.getElem?_eq_getElem (by omega)⟩
      have HC := hide (And.intro hrow (And.intro hnF (And.intro hgF (And.intro hnd (And.intro hG (And.intro hb1 hblk1))))))
      have HSZ := hide hsz
      clear HR hrow hnF hgF hnd hG hb1 hblk1 hlB hsz
      go_wp2_with fail
      obtain ⟨hrow, hnF, hgF, hnd, hG, hb1, hblk1⟩ := HC.out
      obtain ⟨cur', hcur', hlist'⟩ := putCells_block [.int .i64 x.id, .int .i64 x.until_] w1 B (k * 2) hblk1
      have hBl : ∀ q ∈ B :: Fs.flatten, q < wr.heap.size := hrow.lt
      have htl : (a.take k).length = k := by rw [List.length_take]; omega
      go_roundg (a.length - (k + 1))
      case measure => omega
      case rel =>
        refine ⟨k + 1, by omega, by omega, by go_num, hide ⟨cur', css ++ [[.int .i64 x.id, .int .i64 x.until_]], Fs ++ [([] : List Nat)], ?_, ?_, ?_⟩, hide ?_⟩
        · rw [List.take_add_one, HX.out]
          refine Row.snoc (w' := putCells w1 B (k * 2) [.int .i64 x.id, .int .i64 x.until_]) hrow (by omega) (Dt.M_move _ (fun q hq => putCells_other _ _ _ _ ?_) HM.out) hcur' (by rw [htl]; exact hlist') (fun q hq => (putCells_other _ _ _ _ ?_).trans (hb1.block q (hBl q (List.mem_cons_of_mem _ hq))))
          · have := hG q hq; have := hBl B List.mem_cons_self; omega
          · intro e; subst e; exact (List.nodup_cons.1 hnF).1 hq
        · rw [List.flatten_append, List.flatten_singleton, ← List.cons_append]
          exact nodup_app hnF hnd hBl hG
        · intro q hq
          rw [List.flatten_append, List.flatten_singleton, ← List.cons_append, List.mem_append] at hq
          rcases hq with hq | hq
          · exact hgF q hq
          · exact Nat.le_trans HW.out.size (hG q hq)
        · exact putCells_below [.int .i64 x.id, .int .i64 x.until_] B (k * 2) (HW.out.trans (hb1.mono HW.out.size)) (hgF B List.mem_cons_self)
    · have : k = a.length := by omega
      subst this
      go_wp2
      go_ret
      obtain ⟨cur, css, Fs, hrow, hnF, hgF⟩ := HR.out
      rw [List.take_length] at hrow
      exact ⟨_, rfl, ⟨_, hrow.M, hnF, hgF⟩, HW.out⟩
theorem szBanS_c (v : Value) (a : List Ban) (left : Int) (w : World) (ha : SliceK banD w v a) (h0 : 0 ≤ left) (h1 : left ≤ 1048576) :
    Calls Try.prog 25 #[v, .int .i64 left] w fun e w' => RetSz left a.length e ∧ Below w.heap.size w w' := by
  obtain ⟨A, c, rfl, hl1, hm1, hra⟩ := ha
  clear hra
  by_cases h : (a.length : Int) ≤ left
  · have hr := hide (show left - (a.length : Int) = szR left a.length from (if_pos h).symm)
    have h2 : ¬ (left - (a.length : Int) < 0) := by omega
    go_enter Try.func25, Try.ntmps25
    go_wp2
    go_ret
    exact ⟨⟨_, rfl, hr.out⟩, Below.refl _ _⟩
  · have hr := hide (show -1 = szR left a.length from (if_neg h).symm)
    have h2 : (left - (a.length : Int) < 0) := by omega
    go_enter Try.func25, Try.ntmps25
    go_wp2
    go_ret
    exact ⟨⟨_, rfl, hr.out⟩, Below.refl _ _⟩
def cntBan (x : Ban) : Nat := 2
def mkBan (k : Int) (x : Ban) : Ban := { id := (k), until_ := (k + 1) }
theorem cntBan_mk (k : Int) (x : Ban) : cntBan (mkBan k x) = cntBan x := by simp [cntBan, mkBan, marks_len, marks_len]
theorem mkBan_mk (k : Int) (x : Ban) : mkBan k (mkBan k x) = mkBan k x := by simp [mkBan, marks_len, marks_len]
def heldBanB (k : Int) (x : Ban) : Bool := !(x.id != k) && !(x.until_ != k + 1)
theorem heldBanB_iff {k : Int} (h : 0 ≤ k) (x : Ban) : heldBanB k x = true ↔ x = mkBan k x := by
  cases x
  simp only [heldBanB, mkBan, Ban.mk.injEq, bytes_eq, Bool.and_eq_true, Bool.not_eq_true', bne_eq_false_iff_eq, Bool.not_eq_false', beq_iff_eq, decide_eq_false_iff_not, and_assoc]
set_option maxHeartbeats 4000000 in
set_option maxRecDepth 100000 in
theorem markBanS_c (v : Value) (xs : List Ban) (F : List Nat) (k : Int) (w : World) (h : SliceM banD 67 w v xs F) (hn : F.Nodup) (h0 : 0 ≤ k) (h1 : k + cntAll cntBan xs ≤ 1000000000000) :
    Calls Try.prog 40 #[v, .int .i64 k] w (RetMarkA banD 67 cntBan mkBan w v xs F k) := by
  rcases h.row with ⟨rfl, rfl, rfl⟩ | ⟨B, cap, cur, css, Fs, rfl, hrow, rfl⟩
  · go_enter Try.func40, Try.ntmps40
    go_wp2
    go_loopg [1, 5] 0 (fun gg s1 s5 wr => s1 = .int .i64 k ∧ s5 = .int .i64 0 ∧ w = wr)
    case atStart => exact ⟨rfl, rfl, rfl⟩
    case round =>
      obtain ⟨rfl, rfl, rfl⟩ := hrel
      go_wp2
      go_ret
      exact ⟨by simp [cntAll], .inl ⟨rfl, rfl, rfl⟩, Chg.refl _ _⟩
  · have H0 := hide (show ∃ cur css, Row banD 67 w B cap cur css Fs (mixed cntBan mkBan k xs 0) from ⟨cur, css, by rw [mixed_zero]; exact hrow⟩)
    have HN := hide hn
    have hlen := hrow.le
    have hmax := hrow.max
    clear h hrow hn
    go_enter Try.func40, Try.ntmps40
    go_wp2
    go_loopg [1, 5] xs.length (fun gg s1 s5 wr => ∃ (i : Nat) (q : Int), i ≤ xs.length ∧ xs.length - i ≤ gg ∧ s1 = .int .i64 q ∧ s5 = .int .i64 i ∧ 0 ≤ q ∧ Hid (q = k + cntAll cntBan (xs.take i)) ∧
      Hid (∃ cur css, Row banD 67 wr B cap cur css Fs (mixed cntBan mkBan k xs i)) ∧ Hid (Chg (B :: Fs.flatten) w wr))
    case atStart => exact ⟨0, k, Nat.zero_le _, by omega, rfl, rfl, h0, hide (by simp [cntAll]), H0, Chg.refl _ _⟩
    case round =>
      obtain ⟨i, q, hi, hg, rfl, rfl, hq0, HQ, HR, HW⟩ := hrel
      clear H0
      by_cases hlt : i < xs.length
      · obtain ⟨x, hx⟩ : ∃ x, xs[i]? = some x := ⟨_, List.getElem?_eq_getElem hlt⟩
        obtain ⟨cur, css, hrow⟩ := HR.out
        obtain ⟨cs, G, hE⟩ := RowE.ofRow hrow (mixed_get (cnt := cntBan) (mk := mkBan) k xs i hx)
        have hcT := cntAll_take (cnt := cntBan) xs i x hx
        have hcL := cntAll_le (cnt := cntBan) xs (i + 1)
        have hq1 : q + cntBan x ≤ 1000000000000 := by have := HQ.out; omega
        have hq2 : q + (2 : Nat) ≤ 1000000000000 := hq1
        have HT := hide hcT
        have HX := hide hx
        have hlB := hE.blt
        have hfz := hE.frozen
        have hcell := hE.cell
        obtain ⟨rfl, rfl⟩ : cs = [.int .i64 x.id, .int .i64 x.until_] ∧ G = [] := hE.M
        have hc0 : wr.cell? ⟨B, i * 2, none⟩ = some (.int .i64 x.id) := hcell 0 _ rfl
        have hc1 : wr.cell? ⟨B, i * 2 + 1, none⟩ = some (.int .i64 x.until_) := hcell 1 _ rfl
        have E0 := hide hE
        clear HR hcell hcT hcL hx hrow hE hq1
        go_wp2_with fail
        have E1 := hide (E0.out.put HN.out 0 (.int .i64 (q)) ({ x with id := (q) }) (by decide) fun _ => ⟨rfl, rfl⟩)
        have E2 := hide (E1.out.put HN.out 1 (.int .i64 (q + 1)) ({ x with id := (q), until_ := (q + 1) }) (by decide) fun _ => ⟨rfl, rfl⟩)
        obtain ⟨cur', css', hrow'⟩ := E2.out.row
        simp only [List.set_set] at hrow'
        have hmk : { x with id := (q), until_ := (q + 1) } = mkBan q x := rfl
        have hmx : (mixed cntBan mkBan k xs i).set i (mkBan q x) = mixed cntBan mkBan k xs (i + 1) := by rw [HQ.out]; exact mixed_set k xs i HX.out
        rw [hmk, hmx] at hrow'
        go_roundg (xs.length - (i + 1))
        case measure => omega
        case rel =>
          refine ⟨i + 1, q + 1 + 1, by omega, by omega, rfl, by go_num, by omega, hide (by have h1 := HQ.out; have h2 := HT.out; have h3 : cntBan x = 2 := rfl; rw [h2]; omega), hide ⟨cur', css', hrow'⟩, hide ?_⟩
          exact ((((HW.out).setCell (.inl (by simp)) _)).setCell (.inl (by simp)) _)
      · have : i = xs.length := by omega
        subst this
        go_wp2
        go_ret
        obtain ⟨cur, css, hrow⟩ := HR.out
        rw [mixed_all] at hrow
        have hq := HQ.out
        rw [List.take_length] at hq
        refine ⟨by rw [← hq]; rfl, ?_, HW.out⟩
        have hS := hrow.M
        rwa [markAll_len] at hS
set_option maxHeartbeats 4000000 in
set_option maxRecDepth 100000 in
theorem heldBanS_c (v : Value) (xs : List Ban) (k : Int) (w : World) (h : SliceK banD w v xs) (h0 : 0 ≤ k) (h1 : k + cntAll cntBan xs ≤ 1000000000000) :
    Calls Try.prog 43 #[v, .int .i64 k] w fun e w' => e = .returned (.int .i64 (heldAll cntBan mkBan k xs)) ∧ Below w.heap.size w w' := by
  obtain ⟨A, c, rfl, hl, hm, hra⟩ := h
  have HA := hide hra
  clear hra
  go_enter Try.func43, Try.ntmps43
  go_wp2
  go_loopg [1, 5] xs.length (fun gg s1 s5 wr => ∃ (i : Nat) (q : Int), i ≤ xs.length ∧ xs.length - i ≤ gg ∧ s1 = .int .i64 q ∧ s5 = .int .i64 i ∧ 0 ≤ q ∧ Hid (q = k + cntAll cntBan (xs.take i)) ∧ Hid (xs.take i = (markAll cntBan mkBan k xs).take i) ∧ Hid (Below w.heap.size w wr))
  case atStart => exact ⟨0, k, Nat.zero_le _, by omega, rfl, rfl, h0, hide (by simp [cntAll]), rfl, Below.refl _ _⟩
  case round =>
    obtain ⟨i, q, hi, hg, rfl, rfl, hq0, HQ, HT, HB⟩ := hrel
    by_cases hlt : i < xs.length
    · obtain ⟨x, hx⟩ : ∃ x, xs[i]? = some x := ⟨_, List.getElem?_eq_getElem hlt⟩
      rcases HA.out with rfl | ⟨p, o, rfl, hra⟩
      · simp at hlt
      obtain ⟨p, hc0, hc1⟩ := ban_at hra HB.out hx
      have hcT := cntAll_take (cnt := cntBan) xs i x hx
      have hcL := cntAll_le (cnt := cntBan) xs (i + 1)
      have hq1 : q + cntBan x ≤ 1000000000000 := by have := HQ.out; omega
      have hq2 : q + (2 : Nat) ≤ 1000000000000 := hq1
      have HcT := hide hcT
      have HX := hide hx
      clear hx hra HA hcT hcL hq1 
      go_wp2
      all_goals first
      | (
         go_roundg (xs.length - (i + 1))
         case measure => omega
         case rel =>
           have hB : heldBanB q x = true := by simp only [heldBanB, decide_true, decide_false, Bool.not_true, Bool.not_false, Bool.and_false, Bool.false_and, Bool.and_true, Bool.true_and, *]
           have hE := (heldBanB_iff hq0 x).1 hB
           have hQ := HQ.out
           exact ⟨i + 1, q + cntBan x, by omega, by omega, (int_congr (by unfold cntBan; omega)), by go_num, by omega, hide (by rw [HcT.out, hQ]; omega), hide (by rw [List.take_add_one, List.take_add_one, HX.out, HT.out, markAll_get _ _ _ _ HX.out, ← hQ, ← hE]), HB⟩)
      | (
         have hB : heldBanB q x = false := by simp only [heldBanB, decide_true, decide_false, Bool.not_true, Bool.not_false, Bool.and_false, Bool.false_and, Bool.and_true, Bool.true_and, *]
         have hE : ¬ x = mkBan q x := fun e => by rw [(heldBanB_iff hq0 x).2 e] at hB; cases hB
         rw [HQ.out] at hE
         go_ret
         exact ⟨by rw [heldAll_neg HX.out hE]; rfl, HB.out⟩)
    · have : i = xs.length := by omega
      subst this
      go_wp2
      go_ret
      have hq := HQ.out
      rw [List.take_length] at hq
      exact ⟨by rw [heldAll_pos HT.out, ← hq]; rfl, HB.out⟩
/-! ### Room -/
def sizeRoom (x : Room) : Nat := x.members.length + x.invites.length + x.bans.length
def fewRoom (x : Room) : Prop := x.members.length ≤ 1048576 ∧ x.invites.length ≤ 1048576 ∧ x.bans.length ≤ 1048576
def eqRoomB (a b : Room) : Bool := !(!(a.open_ == b.open_)) && !(!(decide (a.members = b.members))) && !(!(decide (a.invites = b.invites))) && !(!(decide (a.bans = b.bans)))
theorem eqRoomB_iff (a b : Room) : eqRoomB a b = true ↔ a = b := by
  cases a; cases b
  simp [eqRoomB, bytes_eq, and_assoc]
theorem eqRoomB_eq (a b : Room) : eqRoomB a b = decide (a = b) := by
  rw [Bool.eq_iff_iff, eqRoomB_iff, decide_eq_true_iff]
set_option maxHeartbeats 2000000 in
theorem eqRoom_c (x y : Room) (v1 v2 v3 u1 u2 u3 : Value) (w : World) (h1 : SliceK memberD w v1 x.members) (h2 : SliceK inviteD w v2 x.invites) (h3 : SliceK banD w v3 x.bans) (g1 : SliceK memberD w u1 y.members) (g2 : SliceK inviteD w u2 y.invites) (g3 : SliceK banD w u3 y.bans) :
    Calls Try.prog 12 #[.agg #[.bool x.open_, v1, v2, v3], .agg #[.bool y.open_, u1, u2, u3]] w fun e w' => e = .returned (.bool (eqRoomB x y)) ∧ Below w.heap.size w w' := by
  have H1 := hide h1
  have G1 := hide g1
  have H2 := hide h2
  have G2 := hide g2
  have H3 := hide h3
  have G3 := hide g3
  clear h1 g1 h2 g2 h3 g3
  have HB := hide (((Below.refl w.heap.size w).alloc (Nat.le_refl _) (.cells #[.bool x.open_, v1, v2, v3] 32)).alloc (by simp) (.cells #[.bool y.open_, u1, u2, u3] 32))
  go_enter Try.func12, Try.ntmps12
  go_wp2_with (first | (go_at_call 35; ((with_reducible refine (eqMemberS_c _ _ _ _ _ (H1.out.below HB.out) (G1.out.below HB.out)).mono ?_); rintro e w1 ⟨rfl, hb1⟩; have HN := hide (HB.out.trans (hb1.mono HB.out.size)); obtain ⟨hc, hf, hs⟩ := bcell hb1; have hz : w.heap.size + 1 < w1.heap.size := (by ((try simp only [World.size_alloc] at hs); omega)); have hy : w.heap.size < w1.heap.size := (by omega); clear hs hb1 HB; have HB := HN; clear HN)) | (go_at_call 36; ((with_reducible refine (eqInviteS_c _ _ _ _ _ (H2.out.below HB.out) (G2.out.below HB.out)).mono ?_); rintro e w1 ⟨rfl, hb1⟩; have HN := hide (HB.out.trans (hb1.mono HB.out.size)); obtain ⟨hc, hf, hs⟩ := bcell hb1; have hz : w.heap.size + 1 < w1.heap.size := (by ((try simp only [World.size_alloc] at hs); omega)); have hy : w.heap.size < w1.heap.size := (by omega); clear hs hb1 HB; have HB := HN; clear HN)) | (go_at_call 37; ((with_reducible refine (eqBanS_c _ _ _ _ _ (H3.out.below HB.out) (G3.out.below HB.out)).mono ?_); rintro e w1 ⟨rfl, hb1⟩; have HN := hide (HB.out.trans (hb1.mono HB.out.size)); obtain ⟨hc, hf, hs⟩ := bcell hb1; have hz : w.heap.size + 1 < w1.heap.size := (by ((try simp only [World.size_alloc] at hs); omega)); have hy : w.heap.size < w1.heap.size := (by omega); clear hs hb1 HB; have HB := HN; clear HN)))
  all_goals
    go_ret
    refine ⟨?_, HB.out⟩
    first
    | (rw [show eqRoomB x y = false from by simp only [eqRoomB, decide_true, decide_false, Bool.not_true, Bool.not_false, Bool.and_false, Bool.false_and, Bool.and_true, Bool.true_and, *]]; rfl)
    | (rw [show eqRoomB x y = true from by simp only [eqRoomB, decide_true, decide_false, Bool.not_true, Bool.not_false, Bool.and_false, Bool.false_and, Bool.and_true, Bool.true_and, *]]; rfl)
set_option maxHeartbeats 2000000 in
theorem toRoom_c (x : Room) (v1 v2 v3 : Value) (w : World) (h1 : SliceK memberD w v1 x.members) (h2 : SliceK inviteD w v2 x.invites) (h3 : SliceK banD w v3 x.bans) (hw : fewRoom x) :
    Calls Try.prog 10 #[.agg #[.bool x.open_, v1, v2, v3]] w (RetElem roomD w x) := by
  unfold fewRoom at hw
  obtain ⟨n1, n2, n3⟩ := hw
  have H1 := hide h1
  have H2 := hide h2
  have H3 := hide h3
  clear h1 h2 h3
  go_enter Try.func10, Try.ntmps10
  go_wp2_with fail
  refine (toMemberS_c _ x.members _ (H1.out.below ?hb0) n1).mono ?_
  case hb0 => exact ((((Below.refl _ _).alloc (Nat.le_refl _) _).alloc (by simp) _).alloc (by simp; omega) _)
  rintro e w1 ⟨v, rfl, hM, hb1⟩
  obtain ⟨A1, c1, rfl⟩ := hM.shape
  have HM0 := hide hM
  have HS0 := hide hb1
  have HB0 := hide (((((Below.refl _ _).alloc (Nat.le_refl _) _).alloc (by simp) _).alloc (by simp; omega) _).trans (hb1.mono (by simp; omega)) : Below w.heap.size w w1)
  obtain ⟨hc0, hf0, hs0⟩ := bcell hb1
  simp only [World.size_alloc, World.size_setCell] at hs0
  have hz0 : w.heap.size + 1 + 1 < w1.heap.size := by omega
  have hy0 : w.heap.size < w1.heap.size := by omega
  have hle0 : w.heap.size ≤ w1.heap.size := by omega
  have hx0 : w.heap.size + 1 < w1.heap.size := by omega
  clear hM hb1 hs0
  go_wp2_with fail
  refine (toInviteS_c _ x.invites _ (H2.out.below ?hb1) n2).mono ?_
  case hb1 => exact (HB0.out.trans (Chg.below (F := [w.heap.size + 1, w.heap.size + 1 + 1]) (by ((repeat (with_reducible refine Chg.setCell ?_ (.inl (by simp)) _)); exact Chg.refl _ _)) (by omega) (by intro k hk; simp at hk; omega)))
  rintro e w2 ⟨v, rfl, hM, hb1⟩
  obtain ⟨A2, c2, rfl⟩ := hM.shape
  have HM1 := hide hM
  have HS1 := hide hb1
  have HB1 := hide ((HB0.out.trans (Chg.below (F := [w.heap.size + 1, w.heap.size + 1 + 1]) (by ((repeat (with_reducible refine Chg.setCell ?_ (.inl (by simp)) _)); exact Chg.refl _ _)) (by omega) (by intro k hk; simp at hk; omega))).trans (hb1.mono (by simp; omega)) : Below w.heap.size w w2)
  obtain ⟨hc1, hf1, hs1⟩ := bcell hb1
  simp only [World.size_alloc, World.size_setCell] at hs1
  have hz1 : w.heap.size + 1 + 1 < w2.heap.size := by omega
  have hy1 : w.heap.size < w2.heap.size := by omega
  have hle1 : w1.heap.size ≤ w2.heap.size := by omega
  have hx1 : w.heap.size + 1 < w2.heap.size := by omega
  clear hM hb1 hs1
  go_wp2_with fail
  refine (toBanS_c _ x.bans _ (H3.out.below ?hb2) n3).mono ?_
  case hb2 => exact (HB1.out.trans (Chg.below (F := [w.heap.size + 1, w.heap.size + 1 + 1]) (by ((repeat (with_reducible refine Chg.setCell ?_ (.inl (by simp)) _)); exact Chg.refl _ _)) (by omega) (by intro k hk; simp at hk; omega)))
  rintro e w3 ⟨v, rfl, hM, hb1⟩
  obtain ⟨A3, c3, rfl⟩ := hM.shape
  have HM2 := hide hM
  have HS2 := hide hb1
  have HB2 := hide ((HB1.out.trans (Chg.below (F := [w.heap.size + 1, w.heap.size + 1 + 1]) (by ((repeat (with_reducible refine Chg.setCell ?_ (.inl (by simp)) _)); exact Chg.refl _ _)) (by omega) (by intro k hk; simp at hk; omega))).trans (hb1.mono (by simp; omega)) : Below w.heap.size w w3)
  obtain ⟨hc2, hf2, hs2⟩ := bcell hb1
  simp only [World.size_alloc, World.size_setCell] at hs2
  have hz2 : w.heap.size + 1 + 1 < w3.heap.size := by omega
  have hy2 : w.heap.size < w3.heap.size := by omega
  have hle2 : w2.heap.size ≤ w3.heap.size := by omega
  have hx2 : w.heap.size + 1 < w3.heap.size := by omega
  clear hM hb1 hs2
  go_wp2_with fail
  have HZ : Hid (∀ wz, Chg [w.heap.size + 1, w.heap.size + 1 + 1] w3 wz → RetElem roomD w x (.returned (.agg #[.bool x.open_, .slice A1 x.members.length c1, .slice A2 x.invites.length c2, .slice A3 x.bans.length c3])) wz) := by
    intro wz hch
    have c0_ : Chg [w.heap.size + 1, w.heap.size + 1 + 1] w1 wz := ((Chg.trans (b := _) (by ((repeat (with_reducible refine Chg.setCell ?_ (.inl (by simp)) _)); exact Chg.refl _ _)) (Chg.of_below HS1.out [w.heap.size + 1, w.heap.size + 1 + 1])).trans ((Chg.trans (b := _) (by ((repeat (with_reducible refine Chg.setCell ?_ (.inl (by simp)) _)); exact Chg.refl _ _)) (Chg.of_below HS2.out [w.heap.size + 1, w.heap.size + 1 + 1])).trans hch))
    obtain ⟨F1, hm1, hn1, hF1⟩ := HM0.out
    have hl1 := hm1.lt
    have m1 := hm1.move fun b hb => c0_.block b (hl1 b hb) (by intro hg; have := hF1 b hb; simp at this hg; omega)
    have c1_ : Chg [w.heap.size + 1, w.heap.size + 1 + 1] w2 wz := ((Chg.trans (b := _) (by ((repeat (with_reducible refine Chg.setCell ?_ (.inl (by simp)) _)); exact Chg.refl _ _)) (Chg.of_below HS2.out [w.heap.size + 1, w.heap.size + 1 + 1])).trans hch)
    obtain ⟨F2, hm2, hn2, hF2⟩ := HM1.out
    have hl2 := hm2.lt
    have m2 := hm2.move fun b hb => c1_.block b (hl2 b hb) (by intro hg; have := hF2 b hb; simp at this hg; omega)
    have c2_ : Chg [w.heap.size + 1, w.heap.size + 1 + 1] w3 wz := hch
    obtain ⟨F3, hm3, hn3, hF3⟩ := HM2.out
    have hl3 := hm3.lt
    have m3 := hm3.move fun b hb => c2_.block b (hl3 b hb) (by intro hg; have := hF3 b hb; simp at this hg; omega)
    refine ⟨_, F1 ++ (F2 ++ F3), rfl, room_M_mk m1 m2 m3, (nodup_app (m := w1.heap.size) hn1 (nodup_app (m := w2.heap.size) hn2 hn3 hl2 (by intro b hb; have := hF3 b hb; simp at this; omega)) hl1 (by intro b hb; simp only [List.mem_append] at hb; rcases hb with hb | hb <;> (first | (have := hF2 b hb; simp at this; omega) | (have := hF3 b hb; simp at this; omega)))), ?_, ?_⟩
    · intro b hb; simp only [List.mem_append] at hb; rcases hb with hb | hb | hb <;> (first | (have := hF1 b hb; simp at this; omega) | (have := hF2 b hb; simp at this; omega) | (have := hF3 b hb; simp at this; omega))
    · exact HB2.out.trans (hch.below (by omega) (by intro k hk; simp at hk; omega))
  refine bodyPost_ret (v := .agg #[.bool x.open_, .slice A1 x.members.length c1, .slice A2 x.invites.length c2, .slice A3 x.bans.length c3]) (by simp [results, Try.results10, go_sem, hc0, hz0, hy0, hx0, hc1, hz1, hy1, hx1, hc2, hz2, hy2, hx2]) rfl (HZ.out _ ?_)
  repeat (with_reducible refine Chg.setCell ?_ (.inl (by simp)) _)
  exact Chg.refl _ _
set_option maxHeartbeats 2000000 in
theorem szRoom_c (x : Room) (v1 v2 v3 : Value) (left : Int) (w : World) (h1 : SliceK memberD w v1 x.members) (h2 : SliceK inviteD w v2 x.invites) (h3 : SliceK banD w v3 x.bans) (b0 : 0 ≤ left) (b1 : left ≤ 1048576) :
    Calls Try.prog 8 #[.agg #[.bool x.open_, v1, v2, v3], .int .i64 left] w fun e w' => RetSz left (sizeRoom x) e ∧ Below w.heap.size w w' := by
  have H1 := hide h1
  have H2 := hide h2
  have H3 := hide h3
  clear h1 h2 h3
  have HB := hide ((Below.refl w.heap.size w).alloc (Nat.le_refl _) (.cells #[.bool x.open_, v1, v2, v3] 26))
  go_enter Try.func8, Try.ntmps8
  go_wp2_with (first | (go_at_call 23; ((with_reducible refine (szMemberS_c _ x.members _ _ (H1.out.below HB.out) (by omega) (by omega)).mono ?_); rintro e w1 ⟨⟨r1, rfl, hr1⟩, hb1⟩; have hd1 := szR_bd hr1 (by omega); have R1 := hide hr1; have HN := hide (HB.out.trans (hb1.mono HB.out.size)); obtain ⟨hc, hf, hs⟩ := bcell hb1; have hy : w.heap.size < w1.heap.size := (by ((try simp only [World.size_alloc] at hs); omega)); clear hs hb1 HB hr1; have HB := HN; clear HN)) | (go_at_call 24; ((with_reducible refine (szInviteS_c _ x.invites _ _ (H2.out.below HB.out) (by omega) (by omega)).mono ?_); rintro e w1 ⟨⟨r2, rfl, hr2⟩, hb1⟩; have hd2 := szR_bd hr2 (by omega); have R2 := hide hr2; have HN := hide (HB.out.trans (hb1.mono HB.out.size)); obtain ⟨hc, hf, hs⟩ := bcell hb1; have hy : w.heap.size < w1.heap.size := (by ((try simp only [World.size_alloc] at hs); omega)); clear hs hb1 HB hr2; have HB := HN; clear HN)) | (go_at_call 25; ((with_reducible refine (szBanS_c _ x.bans _ _ (H3.out.below HB.out) (by omega) (by omega)).mono ?_); rintro e w1 ⟨⟨r3, rfl, hr3⟩, hb1⟩; have hd3 := szR_bd hr3 (by omega); have R3 := hide hr3; have HN := hide (HB.out.trans (hb1.mono HB.out.size)); obtain ⟨hc, hf, hs⟩ := bcell hb1; have hy : w.heap.size < w1.heap.size := (by ((try simp only [World.size_alloc] at hs); omega)); clear hs hb1 HB hr3; have HB := HN; clear HN)))
  all_goals
    go_ret
    refine ⟨⟨_, rfl, ?_⟩, HB.out⟩
    try have e1 := szR_spec R1.out (by omega)
    try have e2 := szR_spec R2.out (by omega)
    try have e3 := szR_spec R3.out (by omega)
    unfold szR sizeRoom
    split <;> omega
def tcntRoom (x : Room) : Nat := cntAll cntMember x.members + cntAll cntInvite x.invites + cntAll cntBan x.bans
def tmkRoom (k : Int) (x : Room) : Room := { x with members := markAll cntMember mkMember (k) x.members, invites := markAll cntInvite mkInvite (k + cntAll cntMember x.members) x.invites, bans := markAll cntBan mkBan (k + cntAll cntMember x.members + cntAll cntInvite x.invites) x.bans }
theorem tcntRoom_mk (k : Int) (x : Room) : tcntRoom (tmkRoom k x) = tcntRoom x := by simp [tcntRoom, tmkRoom, marks_len, cntAll_mark cntMember_mk, markAll_mark cntMember_mk mkMember_mk, cntAll_mark cntInvite_mk, markAll_mark cntInvite_mk mkInvite_mk, cntAll_mark cntBan_mk, markAll_mark cntBan_mk mkBan_mk, marks_len]
theorem tmkRoom_mk (k : Int) (x : Room) : tmkRoom k (tmkRoom k x) = tmkRoom k x := by simp [tmkRoom, marks_len, cntAll_mark cntMember_mk, markAll_mark cntMember_mk mkMember_mk, cntAll_mark cntInvite_mk, markAll_mark cntInvite_mk mkInvite_mk, cntAll_mark cntBan_mk, markAll_mark cntBan_mk mkBan_mk, marks_len]
def theldRoom (k : Int) (x : Room) : Int := if x = tmkRoom k x then k + tcntRoom x else -1
theorem theldRoom_nn {k : Int} (h : 0 ≤ k) (x : Room) : theldRoom k x < 0 ↔ ¬ x = tmkRoom k x := by
  unfold theldRoom; split
  · rename_i h1; constructor
    · intro h2; omega
    · intro h2; exact absurd h1 h2
  · rename_i h1; exact ⟨fun _ => h1, fun _ => by omega⟩
theorem theldRoom_mk (k : Int) (x : Room) : theldRoom k (tmkRoom k x) = k + tcntRoom x := by
  unfold theldRoom
  rw [if_pos (tmkRoom_mk k x).symm, tcntRoom_mk]
set_option maxHeartbeats 4000000 in
theorem markRoom_c (x : Room) (cs : List Value) (F : List Nat) (k : Int) (w : World) (h : roomD.M w x cs F) (hn : F.Nodup) (h0 : 0 ≤ k) (h1 : k + tcntRoom x ≤ 1000000000000) :
    Calls Try.prog 13 #[.agg cs.toArray, .int .i64 k] w (RetMarkT roomD w (tcntRoom x) (tmkRoom k x) cs F k) := by
  unfold tcntRoom at h1
  obtain ⟨v1, v2, v3, F1, F2, F3, rfl, rfl, g1, g2, g3⟩ := room_M h
  have hnn := hn
  simp only [List.nodup_append, List.mem_append] at hnn
  have HN := hide hn
  have HNN := hide hnn
  clear h hn hnn
  have M1 := hide g1
  have M2 := hide g2
  have M3 := hide g3
  clear g1 g2 g3
  have LT1 := hide (fun b hb => M1.out.lt b hb : ∀ b ∈ F1, b < w.heap.size)
  have LT2 := hide (fun b hb => M2.out.lt b hb : ∀ b ∈ F2, b < w.heap.size)
  have LT3 := hide (fun b hb => M3.out.lt b hb : ∀ b ∈ F3, b < w.heap.size)
  have HC := hide ((Chg.refl (F1 ++ (F2 ++ F3)) w).alloc (.cells #[.bool x.open_, v1, v2, v3] 32))
  have HB := hide (Below.refl w.heap.size w |>.alloc (Nat.le_refl _) (.cells #[.bool x.open_, v1, v2, v3] 32))
  have M1 := hide (M1.out.move (fun b hb => HB.out.block b (M1.out.lt b hb)))
  have M2 := hide (M2.out.move (fun b hb => HB.out.block b (M2.out.lt b hb)))
  have M3 := hide (M3.out.move (fun b hb => HB.out.block b (M3.out.lt b hb)))
  go_enter Try.func13, Try.ntmps13
  go_wp2_with fail
  refine (markMemberS_c _ x.members _ _ _ M1.out (HNN.out.1) (by omega) (by omega)).mono ?_
  rintro e w1 ⟨rfl, hMk, hCk⟩
  have HK1 := hide hCk
  have HC := hide (HC.out.trans (hCk.mono (fun b hb => .inl (by simp [hb]))))
  have N1 := hide hMk
  have M2 := hide (M2.out.move (fun b hb => hCk.block b (M2.out.lt b hb) (fun hb2 => HNN.out.2.2 _ hb2 _ (.inl hb) rfl)))
  have M3 := hide (M3.out.move (fun b hb => hCk.block b (M3.out.lt b hb) (fun hb2 => HNN.out.2.2 _ hb2 _ (.inr hb) rfl)))
  clear hMk hCk
  have hbx1 : ∀ o, w1.cell? ⟨w.heap.size, o, none⟩ = (w.alloc (.cells #[.bool x.open_, v1, v2, v3] 32)).cell? ⟨w.heap.size, o, none⟩ := fun o => World.cell?_of_block (HK1.out.block w.heap.size (by simp) (fun hb => absurd (LT1.out _ hb) (by omega)))
  have hsz1 : w.heap.size < w1.heap.size := by have := HK1.out.size; simp only [World.size_alloc] at this; omega
  go_wp2_with fail
  refine (markInviteS_c _ x.invites _ _ _ M2.out (HNN.out.2.1.1) (by omega) (by omega)).mono ?_
  rintro e w2 ⟨rfl, hMk, hCk⟩
  have HK2 := hide hCk
  have HC := hide (HC.out.trans (hCk.mono (fun b hb => .inl (by simp [hb]))))
  have N2 := hide hMk
  have N1 := hide (N1.out.move (fun b hb => hCk.block b (N1.out.lt b hb) (fun hb2 => HNN.out.2.2 _ hb _ (.inl hb2) rfl)))
  have M3 := hide (M3.out.move (fun b hb => hCk.block b (M3.out.lt b hb) (fun hb2 => HNN.out.2.1.2.2 _ hb2 _ hb rfl)))
  clear hMk hCk
  have hbx2 : ∀ o, w2.cell? ⟨w.heap.size, o, none⟩ = w1.cell? ⟨w.heap.size, o, none⟩ := fun o => World.cell?_of_block (HK2.out.block w.heap.size hsz1 (fun hb => absurd (LT2.out _ hb) (by omega)))
  have hsz2 : w.heap.size < w2.heap.size := Nat.lt_of_lt_of_le hsz1 HK2.out.size
  go_wp2_with fail
  refine (markBanS_c _ x.bans _ _ _ M3.out (HNN.out.2.1.2.1) (by omega) (by omega)).mono ?_
  rintro e w3 ⟨rfl, hMk, hCk⟩
  have HK3 := hide hCk
  have HC := hide (HC.out.trans (hCk.mono (fun b hb => .inl (by simp [hb]))))
  have N3 := hide hMk
  have N1 := hide (N1.out.move (fun b hb => hCk.block b (N1.out.lt b hb) (fun hb2 => HNN.out.2.2 _ hb _ (.inr hb2) rfl)))
  have N2 := hide (N2.out.move (fun b hb => hCk.block b (N2.out.lt b hb) (fun hb2 => HNN.out.2.1.2.2 _ hb _ hb2 rfl)))
  clear hMk hCk
  go_wp2_with fail
  go_ret
  refine ⟨?_, room_M_mk (x := tmkRoom k x) N1.out N2.out N3.out, HC.out⟩
  simp only [tcntRoom]
  exact ret_int (by first | rfl | omega)
theorem tmkRoom_iff (k : Int) (x : Room) : x = tmkRoom k x ↔ x.members = markAll cntMember mkMember (k) x.members ∧ x.invites = markAll cntInvite mkInvite (k + cntAll cntMember x.members) x.invites ∧ x.bans = markAll cntBan mkBan (k + cntAll cntMember x.members + cntAll cntInvite x.invites) x.bans := by cases x; simp [tmkRoom]
theorem theldRoom_spec {k r : Int} {x : Room} (h : r = theldRoom k x) (h0 : 0 ≤ k) : (r = k + tcntRoom x ∧ x = tmkRoom k x) ∨ (r = -1 ∧ ¬ x = tmkRoom k x) := by
  subst h; unfold theldRoom; split
  · rename_i h1; exact .inl ⟨rfl, h1⟩
  · rename_i h1; exact .inr ⟨rfl, h1⟩
set_option maxHeartbeats 4000000 in
theorem heldRoom_c (x : Room) (v1 v2 v3 : Value) (k : Int) (w : World) (h1 : SliceK memberD w v1 x.members) (h2 : SliceK inviteD w v2 x.invites) (h3 : SliceK banD w v3 x.bans) (b0 : 0 ≤ k) (b1 : k + tcntRoom x ≤ 1000000000000) :
    Calls Try.prog 14 #[.agg #[.bool x.open_, v1, v2, v3], .int .i64 k] w fun e w' => e = .returned (.int .i64 (theldRoom k x)) ∧ Below w.heap.size w w' := by
  unfold tcntRoom at b1
  have H1 := hide h1
  have H2 := hide h2
  have H3 := hide h3
  clear h1 h2 h3
  have HB := hide ((Below.refl w.heap.size w).alloc (Nat.le_refl _) (.cells #[.bool x.open_, v1, v2, v3] 32))
  go_enter Try.func14, Try.ntmps14
  go_wp2_with (first | (go_at_call 41; ((with_reducible refine (heldMemberS_c _ x.members _ _ (H1.out.below HB.out) (by omega) (by omega)).mono ?_); rintro e w1 ⟨rfl, hb1⟩; have HN := hide (HB.out.trans (hb1.mono HB.out.size)); obtain ⟨hc, hf, hs⟩ := bcell hb1; have hy : w.heap.size < w1.heap.size := (by ((try simp only [World.size_alloc] at hs); omega)); clear hs hb1 HB; have HB := HN; clear HN; obtain ⟨r0, hr0⟩ : ∃ r, r = heldAll cntMember mkMember (k) x.members := ⟨_, rfl⟩; rw [← hr0]; have hd0 : -1 ≤ r0 ∧ r0 ≤ k + cntAll cntMember x.members := (by rcases heldAll_spec hr0 (by omega) with h | h <;> omega); have R0 := hide hr0; clear hr0)) | (go_at_call 42; ((with_reducible refine (heldInviteS_c _ x.invites _ _ (H2.out.below HB.out) (by omega) (by omega)).mono ?_); rintro e w1 ⟨rfl, hb1⟩; have HN := hide (HB.out.trans (hb1.mono HB.out.size)); obtain ⟨hc, hf, hs⟩ := bcell hb1; have hy : w.heap.size < w1.heap.size := (by ((try simp only [World.size_alloc] at hs); omega)); clear hs hb1 HB; have HB := HN; clear HN; obtain ⟨r1, hr1⟩ : ∃ r, r = heldAll cntInvite mkInvite (r0) x.invites := ⟨_, rfl⟩; rw [← hr1]; have hd1 : -1 ≤ r1 ∧ r1 ≤ r0 + cntAll cntInvite x.invites := (by rcases heldAll_spec hr1 (by omega) with h | h <;> omega); have R1 := hide hr1; clear hr1)) | (go_at_call 43; ((with_reducible refine (heldBanS_c _ x.bans _ _ (H3.out.below HB.out) (by omega) (by omega)).mono ?_); rintro e w1 ⟨rfl, hb1⟩; have HN := hide (HB.out.trans (hb1.mono HB.out.size)); obtain ⟨hc, hf, hs⟩ := bcell hb1; have hy : w.heap.size < w1.heap.size := (by ((try simp only [World.size_alloc] at hs); omega)); clear hs hb1 HB; have HB := HN; clear HN; obtain ⟨r2, hr2⟩ : ∃ r, r = heldAll cntBan mkBan (r1) x.bans := ⟨_, rfl⟩; rw [← hr2]; have hd2 : -1 ≤ r2 ∧ r2 ≤ r1 + cntAll cntBan x.bans := (by rcases heldAll_spec hr2 (by omega) with h | h <;> omega); have R2 := hide hr2; clear hr2)))
  · go_ret
    refine ⟨?_, HB.out⟩
    have s0 := heldAll_spec R0.out (by omega)
    have hne : ¬ x = tmkRoom k x := fun hx => by
      have hx2 := (tmkRoom_iff k x).1 hx
      rcases s0 with ⟨e0, m0⟩ | ⟨e0, m0⟩
      · omega
      · exact m0 hx2.1
    rw [show theldRoom k x = -1 from if_neg hne]
    rfl
  · go_ret
    refine ⟨?_, HB.out⟩
    have s0 := heldAll_spec R0.out (by omega)
    have s1 := heldAll_spec R1.out (by omega)
    rcases s0 with ⟨e0, m0⟩ | ⟨e0, _⟩
    case inr => omega
    rw [e0] at s1
    have hne : ¬ x = tmkRoom k x := fun hx => by
      have hx2 := (tmkRoom_iff k x).1 hx
      rcases s1 with ⟨e1, m1⟩ | ⟨e1, m1⟩
      · omega
      · exact m1 hx2.2.1
    rw [show theldRoom k x = -1 from if_neg hne]
    rfl
  · go_ret
    refine ⟨?_, HB.out⟩
    have s0 := heldAll_spec R0.out (by omega)
    have s1 := heldAll_spec R1.out (by omega)
    have s2 := heldAll_spec R2.out (by omega)
    rcases s0 with ⟨e0, m0⟩ | ⟨e0, _⟩
    case inr => omega
    rw [e0] at s1
    rcases s1 with ⟨e1, m1⟩ | ⟨e1, _⟩
    case inr => omega
    rw [e1] at s2
    have hne : ¬ x = tmkRoom k x := fun hx => by
      have hx2 := (tmkRoom_iff k x).1 hx
      rcases s2 with ⟨e2, m2⟩ | ⟨e2, m2⟩
      · omega
      · exact m2 hx2.2.2
    rw [show theldRoom k x = -1 from if_neg hne]
    rfl
  · go_ret
    refine ⟨?_, HB.out⟩
    have s0 := heldAll_spec R0.out (by omega)
    have s1 := heldAll_spec R1.out (by omega)
    have s2 := heldAll_spec R2.out (by omega)
    rcases s0 with ⟨e0, m0⟩ | ⟨e0, _⟩
    case inr => omega
    rw [e0] at s1
    rcases s1 with ⟨e1, m1⟩ | ⟨e1, _⟩
    case inr => omega
    rw [e1] at s2
    rcases s2 with ⟨e2, m2⟩ | ⟨e2, _⟩
    case inr => omega
    have hx : x = tmkRoom k x := (tmkRoom_iff k x).2 ⟨m0, m1, m2⟩
    rw [show theldRoom k x = r2 from by unfold theldRoom tcntRoom; rw [if_pos hx]; omega]
    rfl
end Go.Proofs.Ytccgjnanphonnaa
