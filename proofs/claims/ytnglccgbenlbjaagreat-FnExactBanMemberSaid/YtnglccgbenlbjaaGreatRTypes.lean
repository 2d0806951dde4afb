/- The Go structs of the part Room as Lean structures, and how they lie in cells. The laws' own helpers on the structs of the part Room. Rows of flat structs: a whole row is appended, a row is copied. Valid rooms, as plain data. What a member may do, as plain data. A room that comes from without, read as plain data. What the laws over rooms share. Valid rooms, told plainly; what a change leaves valid. -/
import Derived.Test.YtnglccgbenlbjaaGreatRGround
import Derived.StillTailTactics
import Derived.Deep.RegionWith
namespace Go.Proofs.YtnglccgbenlbjaaGreat
open Go Go.RowKit
set_option linter.unusedVariables false
set_option linter.unusedSimpArgs false

/-! ### Member -/
structure Member where
  id : Int
  role : Int
  since : Int
  quiet : Int
  deriving DecidableEq, Inhabited
def memberD : Dt Member := Dt.flat 4 (fun x : Member => [.int .i64 x.id, .int .i64 x.role, .int .i64 x.since, .int .i64 x.quiet]) (fun _ => rfl) (fun x u hu => by simp at hu; rcases hu with rfl | rfl | rfl | rfl <;> rfl)
theorem member_at {w W : World} {b o j : Nat} {xs : List Member} {x : Member} (h : RowAt memberD w b o xs) (hb : Below w.heap.size w W) (hj : xs[j]? = some x) : b < W.heap.size ∧ W.cell? ⟨b, o + j * 4, none⟩ = some (.int .i64 x.id) ∧ W.cell? ⟨b, o + j * 4 + 1, none⟩ = some (.int .i64 x.role) ∧ W.cell? ⟨b, o + j * 4 + 2, none⟩ = some (.int .i64 x.since) ∧ W.cell? ⟨b, o + j * 4 + 3, none⟩ = some (.int .i64 x.quiet) := by
  obtain ⟨cs, hk, hc⟩ := (h.below hb) j x hj
  obtain rfl : cs = [.int .i64 x.id, .int .i64 x.role, .int .i64 x.since, .int .i64 x.quiet] := hk
  have hc : ∀ i u, ([.int .i64 x.id, .int .i64 x.role, .int .i64 x.since, .int .i64 x.quiet] : List Value)[i]? = some u → W.cell? ⟨b, o + j * 4 + i, none⟩ = some u := hc
  exact ⟨World.block_lt_of_cell? W _ (hc 0 _ rfl), hc 0 _ rfl, hc 1 _ rfl, hc 2 _ rfl, hc 3 _ rfl⟩

/-! ### Invite -/
structure Invite where
  id : Int
  by_ : Int
  until_ : Int
  deriving DecidableEq, Inhabited
def inviteD : Dt Invite := Dt.flat 3 (fun x : Invite => [.int .i64 x.id, .int .i64 x.by_, .int .i64 x.until_]) (fun _ => rfl) (fun x u hu => by simp at hu; rcases hu with rfl | rfl | rfl <;> rfl)
theorem invite_at {w W : World} {b o j : Nat} {xs : List Invite} {x : Invite} (h : RowAt inviteD w b o xs) (hb : Below w.heap.size w W) (hj : xs[j]? = some x) : b < W.heap.size ∧ W.cell? ⟨b, o + j * 3, none⟩ = some (.int .i64 x.id) ∧ W.cell? ⟨b, o + j * 3 + 1, none⟩ = some (.int .i64 x.by_) ∧ W.cell? ⟨b, o + j * 3 + 2, none⟩ = some (.int .i64 x.until_) := by
  obtain ⟨cs, hk, hc⟩ := (h.below hb) j x hj
  obtain rfl : cs = [.int .i64 x.id, .int .i64 x.by_, .int .i64 x.until_] := hk
  have hc : ∀ i u, ([.int .i64 x.id, .int .i64 x.by_, .int .i64 x.until_] : List Value)[i]? = some u → W.cell? ⟨b, o + j * 3 + i, none⟩ = some u := hc
  exact ⟨World.block_lt_of_cell? W _ (hc 0 _ rfl), hc 0 _ rfl, hc 1 _ rfl, hc 2 _ rfl⟩

/-! ### Ban -/
structure Ban where
  id : Int
  until_ : Int
  deriving DecidableEq, Inhabited
def banD : Dt Ban := Dt.flat 2 (fun x : Ban => [.int .i64 x.id, .int .i64 x.until_]) (fun _ => rfl) (fun x u hu => by simp at hu; rcases hu with rfl | rfl <;> rfl)
theorem ban_at {w W : World} {b o j : Nat} {xs : List Ban} {x : Ban} (h : RowAt banD w b o xs) (hb : Below w.heap.size w W) (hj : xs[j]? = some x) : b < W.heap.size ∧ W.cell? ⟨b, o + j * 2, none⟩ = some (.int .i64 x.id) ∧ W.cell? ⟨b, o + j * 2 + 1, none⟩ = some (.int .i64 x.until_) := by
  obtain ⟨cs, hk, hc⟩ := (h.below hb) j x hj
  obtain rfl : cs = [.int .i64 x.id, .int .i64 x.until_] := hk
  have hc : ∀ i u, ([.int .i64 x.id, .int .i64 x.until_] : List Value)[i]? = some u → W.cell? ⟨b, o + j * 2 + i, none⟩ = some u := hc
  exact ⟨World.block_lt_of_cell? W _ (hc 0 _ rfl), hc 0 _ rfl, hc 1 _ rfl⟩

/-! ### Room -/
structure Room where
  open_ : Bool
  members : List Member
  invites : List Invite
  bans : List Ban
  deriving DecidableEq, Inhabited
def roomD : Dt Room := Dt.cat (Dt.flat 1 (fun x : Room => [.bool x.open_]) (fun _ => rfl) (fun x u hu => by simp at hu; subst hu; rfl)) (Dt.cat ((Dt.slice 54 memberD).iso (fun x : Room => x.members)) (Dt.cat ((Dt.slice 49 inviteD).iso (fun x : Room => x.invites)) ((Dt.slice 73 banD).iso (fun x : Room => x.bans))))
theorem room_K {w : World} {x : Room} {cs : List Value} (h : roomD.K w x cs) : ∃ v1 v2 v3, cs = [.bool x.open_, v1, v2, v3] ∧ SliceK memberD w v1 x.members ∧ SliceK inviteD w v2 x.invites ∧ SliceK banD w v3 x.bans := by
  obtain ⟨_, _, rfl, rfl, ⟨_, _, rfl, ⟨v1, rfl, h1⟩, ⟨_, _, rfl, ⟨v2, rfl, h2⟩, ⟨v3, rfl, h3⟩⟩⟩⟩ := h
  exact ⟨v1, v2, v3, rfl, h1, h2, h3⟩
theorem room_K_mk {w : World} {x : Room} {v1 v2 v3 : Value} (h1 : SliceK memberD w v1 x.members) (h2 : SliceK inviteD w v2 x.invites) (h3 : SliceK banD w v3 x.bans) : roomD.K w x [.bool x.open_, v1, v2, v3] := by
  exact ⟨_, _, rfl, rfl, ⟨_, _, rfl, ⟨v1, rfl, h1⟩, ⟨_, _, rfl, ⟨v2, rfl, h2⟩, ⟨v3, rfl, h3⟩⟩⟩⟩
theorem room_M {w : World} {x : Room} {cs : List Value} {F : List Nat} (h : roomD.M w x cs F) : ∃ v1 v2 v3 F1 F2 F3, cs = [.bool x.open_, v1, v2, v3] ∧ F = F1 ++ (F2 ++ F3) ∧ SliceM memberD 54 w v1 x.members F1 ∧ SliceM inviteD 49 w v2 x.invites F2 ∧ SliceM banD 73 w v3 x.bans F3 := by
  obtain ⟨_, _, _, _, rfl, rfl, ⟨rfl, rfl⟩, ⟨_, _, F1, _, rfl, rfl, ⟨v1, rfl, h1⟩, ⟨_, _, F2, F3, rfl, rfl, ⟨v2, rfl, h2⟩, ⟨v3, rfl, h3⟩⟩⟩⟩ := h
  exact ⟨v1, v2, v3, F1, F2, F3, rfl, by simp, h1, h2, h3⟩
theorem room_M_mk {w : World} {x : Room} {v1 v2 v3 : Value} {F1 F2 F3 : List Nat} (h1 : SliceM memberD 54 w v1 x.members F1) (h2 : SliceM inviteD 49 w v2 x.invites F2) (h3 : SliceM banD 73 w v3 x.bans F3) : roomD.M w x [.bool x.open_, v1, v2, v3] (F1 ++ (F2 ++ F3)) := by
  exact ⟨_, _, [], (F1 ++ (F2 ++ F3)), rfl, by simp, ⟨rfl, rfl⟩, ⟨_, _, F1, (F2 ++ F3), rfl, by simp, ⟨v1, rfl, h1⟩, ⟨_, _, F2, F3, rfl, by simp, ⟨v2, rfl, h2⟩, ⟨v3, rfl, h3⟩⟩⟩⟩
theorem room_at {w W : World} {b o j : Nat} {xs : List Room} {x : Room} (h : RowAt roomD w b o xs) (hb : Below w.heap.size w W) (hj : xs[j]? = some x) : ∃ v1 v2 v3, SliceK memberD W v1 x.members ∧ SliceK inviteD W v2 x.invites ∧ SliceK banD W v3 x.bans ∧ b < W.heap.size ∧ W.cell? ⟨b, o + j * 4, none⟩ = some (.bool x.open_) ∧ W.cell? ⟨b, o + j * 4 + 1, none⟩ = some (v1) ∧ W.cell? ⟨b, o + j * 4 + 2, none⟩ = some (v2) ∧ W.cell? ⟨b, o + j * 4 + 3, none⟩ = some (v3) := by
  obtain ⟨cs, hk, hc⟩ := (h.below hb) j x hj
  obtain ⟨v1, v2, v3, rfl, h1, h2, h3⟩ := room_K hk
  have hc : ∀ i u, ([.bool x.open_, v1, v2, v3] : List Value)[i]? = some u → W.cell? ⟨b, o + j * 4 + i, none⟩ = some u := hc
  exact ⟨v1, v2, v3, h1, h2, h3, World.block_lt_of_cell? W _ (hc 0 _ rfl), hc 0 _ rfl, hc 1 _ rfl, hc 2 _ rfl, hc 3 _ rfl⟩
end Go.Proofs.YtnglccgbenlbjaaGreat
namespace Go.Proofs.YtnglccgbenlbjaaGreat
open Go Go.RowKit
set_option linter.unusedVariables false
set_option linter.unusedSimpArgs false

/-! ### Member -/
def eqMemberB (a b : Member) : Bool := !(a.id != b.id) && !(a.role != b.role) && !(a.since != b.since) && !(a.quiet != b.quiet)
theorem eqMemberB_iff (a b : Member) : eqMemberB a b = true ↔ a = b := by
  cases a; cases b
  simp [eqMemberB, bytes_eq, and_assoc]
theorem eqMemberB_eq (a b : Member) : eqMemberB a b = decide (a = b) := by
  rw [Bool.eq_iff_iff, eqMemberB_iff, decide_eq_true_iff]
set_option maxHeartbeats 2000000 in
theorem eqMember_c (x y : Member) (w : World) :
    Calls Tryz.prog 79 #[.agg #[.int .i64 x.id, .int .i64 x.role, .int .i64 x.since, .int .i64 x.quiet], .agg #[.int .i64 y.id, .int .i64 y.role, .int .i64 y.since, .int .i64 y.quiet]] w fun e w' => e = .returned (.bool (eqMemberB x y)) ∧ Below w.heap.size w w' := by
  have HB := hide (((Below.refl w.heap.size w).alloc (Nat.le_refl _) (.cells #[.int .i64 x.id, .int .i64 x.role, .int .i64 x.since, .int .i64 x.quiet] 54)).alloc (by simp) (.cells #[.int .i64 y.id, .int .i64 y.role, .int .i64 y.since, .int .i64 y.quiet] 54))
  go_enter Tryz.func79, Tryz.ntmps79
  go_wp2
  all_goals
    go_ret
    refine ⟨?_, HB.out⟩
    first
    | (rw [show eqMemberB x y = false from by simp only [eqMemberB, decide_true, decide_false, Bool.not_true, Bool.not_false, Bool.and_false, Bool.false_and, Bool.and_true, Bool.true_and, *]]; rfl)
    | (rw [show eqMemberB x y = true from by simp only [eqMemberB, decide_true, decide_false, Bool.not_true, Bool.not_false, Bool.and_false, Bool.false_and, Bool.and_true, Bool.true_and, *]]; rfl)
set_option maxHeartbeats 2000000 in
set_option maxRecDepth 100000 in
theorem eqMemberS_c (va vb : Value) (a b : List Member) (w : World) (ha : SliceK memberD w va a) (hb : SliceK memberD w vb b) :
    Calls Tryz.prog 41 #[va, vb] w fun e w' => e = .returned (.bool (decide (a = b))) ∧ Below w.heap.size w w' := by
  obtain ⟨A, c, rfl, hl1, hm1, hra⟩ := ha
  obtain ⟨B, c', rfl, hl2, hm2, hrb⟩ := hb
  by_cases hlen : a.length = b.length
  · have hne : (((a.length : Nat) : Int) != ((b.length : Nat) : Int)) = false := by simp [hlen]
    have HL := hide hlen
    have HA := hide hra
    have HB := hide hrb
    clear hlen hra hrb
    go_enter Tryz.func41, Tryz.ntmps41
    go_wp2
    go_loopg [5] a.length (fun gg s5 wr => ∃ k : Nat, k ≤ a.length ∧ a.length - k ≤ gg ∧ s5 = .int .i64 k ∧ Hid (a.take k = b.take k) ∧ Hid (Below w.heap.size w wr))
    case atStart => exact ⟨0, Nat.zero_le _, by omega, rfl, rfl, Below.refl _ _⟩
    case round =>
      obtain ⟨k, hk, hg, rfl, HT, HW⟩ := hrel
      by_cases hlt : k < a.length
      · obtain ⟨x, hx⟩ : ∃ x, a[k]? = some x := ⟨_, List.getElem?_eq_getElem hlt⟩
        obtain ⟨y, hy⟩ : ∃ y, b[k]? = some y := ⟨_, List.getElem?_eq_getElem (by have := HL.out; omega)⟩
        have hkb : k < b.length := by have := HL.out; omega
        rcases HA.out with rfl | ⟨p, o, rfl, hra⟩
        · simp at hlt
        rcases HB.out with rfl | ⟨p', o', rfl, hrb⟩
        · simp at hkb
        obtain ⟨p, hc0, hc1, hc2, hc3⟩ := member_at hra HW.out hx
        obtain ⟨p', gc0, gc1, gc2, gc3⟩ := member_at hrb HW.out hy
        have HX := hide hx
        have HY := hide hy
        clear hx hy hra hrb HA HB 
        go_wp2
        go_still_tail 8, (by kernel_rfl)
        change wpList _ _ _ _ _ wr.drew
        go_wp2_with (go_at_call 79; refine (eqMember_c x y  _  ).mono ?_; rintro e w1 ⟨rfl, hb1⟩; have H1 := hide (HW.out.drew.trans (hb1.mono (by simpa using HW.out.size))); clear hb1)
        · have hq : ¬ x = y := fun e => by rw [(eqMemberB_iff x y).2 e] at *; contradiction
          go_ret
          exact ⟨by rw [eqAll_pre HT.out HX.out HY.out hq]; rfl, H1.out⟩
        · have hq : eqMemberB x y = true := by simpa using ‹(!eqMemberB x y) = false›
          have HQ := hide ((eqMemberB_iff x y).1 hq)
          clear hq
          go_roundg (a.length - (k + 1))
          case measure => omega
          case rel => exact ⟨k + 1, by omega, by omega, by go_num, hide (by rw [List.take_add_one, List.take_add_one, HX.out, HY.out, HT.out, HQ.out]), H1⟩
      · have : k = a.length := by omega
        subst this
        go_wp2
        go_ret
        exact ⟨by rw [show decide (a = b) = true from by rw [decide_eq_true_iff]; have := HT.out; rw [List.take_length] at this; rw [this, HL.out, List.take_length]]; rfl, HW.out⟩
  · have hne : (((a.length : Nat) : Int) != ((b.length : Nat) : Int)) = true := by simp; omega
    have he : decide (a = b) = false := decide_eq_false (by rintro rfl; exact hlen rfl)
    have HE := hide he
    clear he hlen hra hrb
    go_enter Tryz.func41, Tryz.ntmps41
    go_wp2
    go_ret
    exact ⟨by rw [HE.out]; rfl, Below.refl _ _⟩
set_option maxHeartbeats 2000000 in
theorem toMember_c (x : Member) (w : World) :
    Calls Tryz.prog 57 #[.agg #[.int .i64 x.id, .int .i64 x.role, .int .i64 x.since, .int .i64 x.quiet]] w (RetElem memberD w x) := by
  go_enter Tryz.func57, Tryz.ntmps57
  go_wp2_with fail
  refine bodyPost_ret (v := .agg #[.int .i64 x.id, .int .i64 x.role, .int .i64 x.since, .int .i64 x.quiet]) (by simp [results, Tryz.results57, go_sem]) rfl ⟨_, [], rfl, ⟨rfl, rfl⟩, List.nodup_nil, by simp, ?_⟩
  repeat (first | exact Below.refl _ _ | refine Below.setCell ?_ (by simp <;> omega) _ | refine Below.alloc ?_ (by simp <;> omega) _)
theorem infoMember : (Tryz.prog.info? 54).map (fun i => (i.zero, i.size, i.bytes)) = some (some (.agg #[(.int .i64 0), (.int .i64 0), (.int .i64 0), (.int .i64 0)]), 4, 32) := by kernel_rfl
set_option maxHeartbeats 2000000 in
set_option maxRecDepth 100000 in
theorem toMemberS_c (v : Value) (a : List Member) (w : World) (ha : SliceK memberD w v a) (hn : a.length ≤ 1048576) :
    Calls Tryz.prog 30 #[v] w (RetMade memberD 54 w a) := by
  obtain ⟨A, c, rfl, hl1, hm1, hra⟩ := ha
  have HA := hide hra
  have hmk := run_mk (P := Tryz.prog) 28 54 (.agg #[(.int .i64 0), (.int .i64 0), (.int .i64 0), (.int .i64 0)]) 4 32 Tryz.underlying28 infoMember a.length (by omega) (by omega)
  clear hra
  go_enter Tryz.func30, Tryz.ntmps30
  go_wp2_with fail
  obtain ⟨B, hB⟩ : ∃ B, B = w.heap.size := ⟨_, rfl⟩
  have HBs := hide hB
  rw [← hB]
  have H0 : ∃ cur css Fs, Row memberD 54 (w.alloc (Obj.cells (mkRow (.agg #[(.int .i64 0), (.int .i64 0), (.int .i64 0), (.int .i64 0)]) (a.length * 4)) 54)) B a.length cur css Fs (a.take 0) ∧ (B :: Fs.flatten).Nodup ∧ (∀ q ∈ B :: Fs.flatten, w.heap.size ≤ q) :=
    ⟨_, [], [], by rw [hB]; exact Row.start (d := memberD) (by omega), by simp, by intro q hq; simp at hq; omega⟩
  have H0 := hide H0
  clear hB
  go_loopg [4] a.length (fun gg s4 wr => ∃ k : Nat, k ≤ a.length ∧ a.length - k ≤ gg ∧ s4 = .int .i64 k ∧ Hid (∃ cur css Fs, Row memberD 54 wr B a.length cur css Fs (a.take k) ∧ (B :: Fs.flatten).Nodup ∧ (∀ q ∈ B :: Fs.flatten, w.heap.size ≤ q)) ∧ Hid (Below w.heap.size w wr))
  case atStart => exact ⟨0, Nat.zero_le _, by omega, rfl, H0, (Below.refl _ _).alloc (Nat.le_refl _) _⟩
  case round =>
    obtain ⟨k, hk, hg, rfl, HR, HW⟩ := hrel
    clear H0 hmk
    by_cases hlt : k < a.length
    · obtain ⟨x, hx⟩ : ∃ x, a[k]? = some x := ⟨_, List.getElem?_eq_getElem hlt⟩
      rcases HA.out with rfl | ⟨p, o, rfl, hra⟩
      · simp at hlt
      obtain ⟨p, hc0, hc1, hc2, hc3⟩ := member_at hra HW.out hx
      have HX := hide hx
      clear hx hra HA 
      go_wp2_with fail
      refine (toMember_c x  _ ).mono ?_
      rintro e w1 ⟨cs, G, rfl, hm, hnd, hG, hb1⟩
      obtain ⟨cur, css, Fs, hrow, hnF, hgF⟩ := HR.out
      have HM := hide hm
      obtain ⟨rfl, rfl⟩ := hm
      have hsz : cur.size = a.length * 4 := hrow.size
      have hlB : B < wr.heap.size := block_lt hrow.blk
      have hblk1 : w1.heap[B]? = some (.cells cur 54 (0, 0)) := (hb1.block B hlB).trans hrow.blk
      have hfz : ∀ o, w1.frozen? ⟨B, o, none⟩ = false := fun o => frozen_block hblk1
      have hlB1 : B < w1.heap.size := block_lt hblk1
      obtain ⟨z0, hz0⟩ : ∃ z, w1.cell? ⟨B, k * 4, none⟩ = some z := ⟨cur[k * 4]'(by omega), by rw [cell_block hblk1]; exact Array.getElem?_eq_getElem (by omega)⟩
      obtain ⟨z1, hz1⟩ : ∃ z, w1.cell? ⟨B, k * 4 + 1, none⟩ = some z := ⟨cur[k * 4 + 1]'(by omega), by rw [cell_block hblk1]; exact Array.getElem?_eq_getElem (by omega)⟩
      obtain ⟨z2, hz2⟩ : ∃ z, w1.cell? ⟨B, k * 4 + 2, none⟩ = some z := ⟨cur[k * 4 + 2]'(by omega), by rw [cell_block hblk1]; exact Array.getElem?_eq_getElem (by omega)⟩
      obtain ⟨z3, hz3⟩ : ∃ z, w1.cell? ⟨B, k * 4 + 3, none⟩ = some z := ⟨cur[k * 4 + 3]'(by omega), by rw [cell_block hblk1]; exact Array.getElem?_eq_getElem (by omega)⟩
      have HC := hide (And.intro hrow (And.intro hnF (And.intro hgF (And.intro hnd (And.intro hG (And.intro hb1 hblk1))))))
      have HSZ := hide hsz
      clear HR hrow hnF hgF hnd hG hb1 hblk1 hlB hsz
      go_wp2_with fail
      obtain ⟨hrow, hnF, hgF, hnd, hG, hb1, hblk1⟩ := HC.out
      obtain ⟨cur', hcur', hlist'⟩ := putCells_block [.int .i64 x.id, .int .i64 x.role, .int .i64 x.since, .int .i64 x.quiet] w1 B (k * 4) hblk1
      have hBl : ∀ q ∈ B :: Fs.flatten, q < wr.heap.size := hrow.lt
      have htl : (a.take k).length = k := by rw [List.length_take]; omega
      go_roundg (a.length - (k + 1))
      case measure => omega
      case rel =>
        refine ⟨k + 1, by omega, by omega, by go_num, hide ⟨cur', css ++ [[.int .i64 x.id, .int .i64 x.role, .int .i64 x.since, .int .i64 x.quiet]], Fs ++ [([] : List Nat)], ?_, ?_, ?_⟩, hide ?_⟩
        · rw [List.take_add_one, HX.out]
          refine Row.snoc (w' := putCells w1 B (k * 4) [.int .i64 x.id, .int .i64 x.role, .int .i64 x.since, .int .i64 x.quiet]) hrow (by omega) (Dt.M_move _ (fun q hq => putCells_other _ _ _ _ ?_) HM.out) hcur' (by rw [htl]; exact hlist') (fun q hq => (putCells_other _ _ _ _ ?_).trans (hb1.block q (hBl q (List.mem_cons_of_mem _ hq))))
          · have := hG q hq; have := hBl B List.mem_cons_self; omega
          · intro e; subst e; exact (List.nodup_cons.1 hnF).1 hq
        · rw [List.flatten_append, List.flatten_singleton, ← List.cons_append]
          exact nodup_app hnF hnd hBl hG
        · intro q hq
          rw [List.flatten_append, List.flatten_singleton, ← List.cons_append, List.mem_append] at hq
          rcases hq with hq | hq
          · exact hgF q hq
          · exact Nat.le_trans HW.out.size (hG q hq)
        · exact putCells_below [.int .i64 x.id, .int .i64 x.role, .int .i64 x.since, .int .i64 x.quiet] B (k * 4) (HW.out.trans (hb1.mono HW.out.size)) (hgF B List.mem_cons_self)
    · have : k = a.length := by omega
      subst this
      go_wp2
      go_ret
      obtain ⟨cur, css, Fs, hrow, hnF, hgF⟩ := HR.out
      rw [List.take_length] at hrow
      exact ⟨_, rfl, ⟨_, hrow.M, hnF, hgF⟩, HW.out⟩
theorem szMemberS_c (v : Value) (a : List Member) (left : Int) (w : World) (ha : SliceK memberD w v a) (h0 : 0 ≤ left) (h1 : left ≤ 1048576) :
    Calls Tryz.prog 17 #[v, .int .i64 left] w fun e w' => RetSz left a.length e ∧ Below w.heap.size w w' := by
  obtain ⟨A, c, rfl, hl1, hm1, hra⟩ := ha
  clear hra
  by_cases h : (a.length : Int) ≤ left
  · have hr := hide (show left - (a.length : Int) = szR left a.length from (if_pos h).symm)
    have h2 : ¬ (left - (a.length : Int) < 0) := by omega
    go_enter Tryz.func17, Tryz.ntmps17
    go_wp2
    go_ret
    exact ⟨⟨_, rfl, hr.out⟩, Below.refl _ _⟩
  · have hr := hide (show -1 = szR left a.length from (if_neg h).symm)
    have h2 : (left - (a.length : Int) < 0) := by omega
    go_enter Tryz.func17, Tryz.ntmps17
    go_wp2
    go_ret
    exact ⟨⟨_, rfl, hr.out⟩, Below.refl _ _⟩
def cntMember (x : Member) : Nat := 4
def mkMember (k : Int) (x : Member) : Member := { id := (k), role := (k + 1), since := (k + 1 + 1), quiet := (k + 1 + 1 + 1) }
theorem cntMember_mk (k : Int) (x : Member) : cntMember (mkMember k x) = cntMember x := by simp [cntMember, mkMember, marks_len, marks_len]
theorem mkMember_mk (k : Int) (x : Member) : mkMember k (mkMember k x) = mkMember k x := by simp [mkMember, marks_len, marks_len]
def heldMemberB (k : Int) (x : Member) : Bool := !(x.id != k) && !(x.role != k + 1) && !(x.since != k + 1 + 1) && !(x.quiet != k + 1 + 1 + 1)
theorem heldMemberB_iff {k : Int} (h : 0 ≤ k) (x : Member) : heldMemberB k x = true ↔ x = mkMember k x := by
  cases x
  simp only [heldMemberB, mkMember, Member.mk.injEq, bytes_eq, Bool.and_eq_true, Bool.not_eq_true', bne_eq_false_iff_eq, Bool.not_eq_false', beq_iff_eq, decide_eq_false_iff_not, and_assoc]
set_option maxHeartbeats 4000000 in
set_option maxRecDepth 100000 in
theorem markMemberS_c (v : Value) (xs : List Member) (F : List Nat) (k : Int) (w : World) (h : SliceM memberD 54 w v xs F) (hn : F.Nodup) (h0 : 0 ≤ k) (h1 : k + cntAll cntMember xs ≤ 1000000000000) :
    Calls Tryz.prog 44 #[v, .int .i64 k] w (RetMarkA memberD 54 cntMember mkMember w v xs F k) := by
  rcases h.row with ⟨rfl, rfl, rfl⟩ | ⟨B, cap, cur, css, Fs, rfl, hrow, rfl⟩
  · go_enter Tryz.func44, Tryz.ntmps44
    go_wp2
    go_loopg [1, 5] 0 (fun gg s1 s5 wr => s1 = .int .i64 k ∧ s5 = .int .i64 0 ∧ w = wr)
    case atStart => exact ⟨rfl, rfl, rfl⟩
    case round =>
      obtain ⟨rfl, rfl, rfl⟩ := hrel
      go_wp2
      go_ret
      exact ⟨by simp [cntAll], .inl ⟨rfl, rfl, rfl⟩, Chg.refl _ _⟩
  · have H0 := hide (show ∃ cur css, Row memberD 54 w B cap cur css Fs (mixed cntMember mkMember k xs 0) from ⟨cur, css, by rw [mixed_zero]; exact hrow⟩)
    have HN := hide hn
    have hlen := hrow.le
    have hmax := hrow.max
    clear h hrow hn
    go_enter Tryz.func44, Tryz.ntmps44
    go_wp2
    go_loopg [1, 5] xs.length (fun gg s1 s5 wr => ∃ (i : Nat) (q : Int), i ≤ xs.length ∧ xs.length - i ≤ gg ∧ s1 = .int .i64 q ∧ s5 = .int .i64 i ∧ 0 ≤ q ∧ Hid (q = k + cntAll cntMember (xs.take i)) ∧
      Hid (∃ cur css, Row memberD 54 wr B cap cur css Fs (mixed cntMember mkMember k xs i)) ∧ Hid (Chg (B :: Fs.flatten) w wr))
    case atStart => exact ⟨0, k, Nat.zero_le _, by omega, rfl, rfl, h0, hide (by simp [cntAll]), H0, Chg.refl _ _⟩
    case round =>
      obtain ⟨i, q, hi, hg, rfl, rfl, hq0, HQ, HR, HW⟩ := hrel
      clear H0
      by_cases hlt : i < xs.length
      · obtain ⟨x, hx⟩ : ∃ x, xs[i]? = some x := ⟨_, List.getElem?_eq_getElem hlt⟩
        obtain ⟨cur, css, hrow⟩ := HR.out
        obtain ⟨cs, G, hE⟩ := RowE.ofRow hrow (mixed_get (cnt := cntMember) (mk := mkMember) k xs i hx)
        have hcT := cntAll_take (cnt := cntMember) xs i x hx
        have hcL := cntAll_le (cnt := cntMember) xs (i + 1)
        have hq1 : q + cntMember x ≤ 1000000000000 := by have := HQ.out; omega
        have hq2 : q + (4 : Nat) ≤ 1000000000000 := hq1
        have HT := hide hcT
        have HX := hide hx
        have hlB := hE.blt
        have hfz := hE.frozen
        have hcell := hE.cell
        obtain ⟨rfl, rfl⟩ : cs = [.int .i64 x.id, .int .i64 x.role, .int .i64 x.since, .int .i64 x.quiet] ∧ G = [] := hE.M
        have hc0 : wr.cell? ⟨B, i * 4, none⟩ = some (.int .i64 x.id) := hcell 0 _ rfl
        have hc1 : wr.cell? ⟨B, i * 4 + 1, none⟩ = some (.int .i64 x.role) := hcell 1 _ rfl
        have hc2 : wr.cell? ⟨B, i * 4 + 2, none⟩ = some (.int .i64 x.since) := hcell 2 _ rfl
        have hc3 : wr.cell? ⟨B, i * 4 + 3, none⟩ = some (.int .i64 x.quiet) := hcell 3 _ rfl
        have E0 := hide hE
        clear HR hcell hcT hcL hx hrow hE hq1
        go_wp2_with fail
        have E1 := hide (E0.out.put HN.out 0 (.int .i64 (q)) ({ x with id := (q) }) (by decide) fun _ => ⟨rfl, rfl⟩)
        have E2 := hide (E1.out.put HN.out 1 (.int .i64 (q + 1)) ({ x with id := (q), role := (q + 1) }) (by decide) fun _ => ⟨rfl, rfl⟩)
        have E3 := hide (E2.out.put HN.out 2 (.int .i64 (q + 1 + 1)) ({ x with id := (q), role := (q + 1), since := (q + 1 + 1) }) (by decide) fun _ => ⟨rfl, rfl⟩)
        have E4 := hide (E3.out.put HN.out 3 (.int .i64 (q + 1 + 1 + 1)) ({ x with id := (q), role := (q + 1), since := (q + 1 + 1), quiet := (q + 1 + 1 + 1) }) (by decide) fun _ => ⟨rfl, rfl⟩)
        obtain ⟨cur', css', hrow'⟩ := E4.out.row
        simp only [List.set_set] at hrow'
        have hmk : { x with id := (q), role := (q + 1), since := (q + 1 + 1), quiet := (q + 1 + 1 + 1) } = mkMember q x := rfl
        have hmx : (mixed cntMember mkMember k xs i).set i (mkMember q x) = mixed cntMember mkMember k xs (i + 1) := by rw [HQ.out]; exact mixed_set k xs i HX.out
        rw [hmk, hmx] at hrow'
        go_roundg (xs.length - (i + 1))
        case measure => omega
        case rel =>
          refine ⟨i + 1, q + 1 + 1 + 1 + 1, by omega, by omega, rfl, by go_num, by omega, hide (by have h1 := HQ.out; have h2 := HT.out; have h3 : cntMember x = 4 := rfl; rw [h2]; omega), hide ⟨cur', css', hrow'⟩, hide ?_⟩
          exact ((((((((HW.out).setCell (.inl (by simp)) _)).setCell (.inl (by simp)) _)).setCell (.inl (by simp)) _)).setCell (.inl (by simp)) _)
      · have : i = xs.length := by omega
        subst this
        go_wp2
        go_ret
        obtain ⟨cur, css, hrow⟩ := HR.out
        rw [mixed_all] at hrow
        have hq := HQ.out
        rw [List.take_length] at hq
        refine ⟨by rw [← hq]; rfl, ?_, HW.out⟩
        have hS := hrow.M
        rwa [markAll_len] at hS
set_option maxHeartbeats 4000000 in
set_option maxRecDepth 100000 in
theorem heldMemberS_c (v : Value) (xs : List Member) (k : Int) (w : World) (h : SliceK memberD w v xs) (h0 : 0 ≤ k) (h1 : k + cntAll cntMember xs ≤ 1000000000000) :
    Calls Tryz.prog 47 #[v, .int .i64 k] w fun e w' => e = .returned (.int .i64 (heldAll cntMember mkMember k xs)) ∧ Below w.heap.size w w' := by
  obtain ⟨A, c, rfl, hl, hm, hra⟩ := h
  have HA := hide hra
  clear hra
  go_enter Tryz.func47, Tryz.ntmps47
  go_wp2
  go_loopg [1, 5] xs.length (fun gg s1 s5 wr => ∃ (i : Nat) (q : Int), i ≤ xs.length ∧ xs.length - i ≤ gg ∧ s1 = .int .i64 q ∧ s5 = .int .i64 i ∧ 0 ≤ q ∧ Hid (q = k + cntAll cntMember (xs.take i)) ∧ Hid (xs.take i = (markAll cntMember mkMember k xs).take i) ∧ Hid (Below w.heap.size w wr))
  case atStart => exact ⟨0, k, Nat.zero_le _, by omega, rfl, rfl, h0, hide (by simp [cntAll]), rfl, Below.refl _ _⟩
  case round =>
    obtain ⟨i, q, hi, hg, rfl, rfl, hq0, HQ, HT, HB⟩ := hrel
    by_cases hlt : i < xs.length
    · obtain ⟨x, hx⟩ : ∃ x, xs[i]? = some x := ⟨_, List.getElem?_eq_getElem hlt⟩
      rcases HA.out with rfl | ⟨p, o, rfl, hra⟩
      · simp at hlt
      obtain ⟨p, hc0, hc1, hc2, hc3⟩ := member_at hra HB.out hx
      have hcT := cntAll_take (cnt := cntMember) xs i x hx
      have hcL := cntAll_le (cnt := cntMember) xs (i + 1)
      have hq1 : q + cntMember x ≤ 1000000000000 := by have := HQ.out; omega
      have hq2 : q + (4 : Nat) ≤ 1000000000000 := hq1
      have HcT := hide hcT
      have HX := hide hx
      clear hx hra HA hcT hcL hq1 
      go_wp2
      all_goals first
      | (
         go_roundg (xs.length - (i + 1))
         case measure => omega
         case rel =>
           have hB : heldMemberB q x = true := by simp only [heldMemberB, decide_true, decide_false, Bool.not_true, Bool.not_false, Bool.and_false, Bool.false_and, Bool.and_true, Bool.true_and, *]
           have hE := (heldMemberB_iff hq0 x).1 hB
           have hQ := HQ.out
           exact ⟨i + 1, q + cntMember x, by omega, by omega, (int_congr (by unfold cntMember; omega)), by go_num, by omega, hide (by rw [HcT.out, hQ]; omega), hide (by rw [List.take_add_one, List.take_add_one, HX.out, HT.out, markAll_get _ _ _ _ HX.out, ← hQ, ← hE]), HB⟩)
      | (
         have hB : heldMemberB q x = false := by simp only [heldMemberB, decide_true, decide_false, Bool.not_true, Bool.not_false, Bool.and_false, Bool.false_and, Bool.and_true, Bool.true_and, *]
         have hE : ¬ x = mkMember q x := fun e => by rw [(heldMemberB_iff hq0 x).2 e] at hB; cases hB
         rw [HQ.out] at hE
         go_ret
         exact ⟨by rw [heldAll_neg HX.out hE]; rfl, HB.out⟩)
    · have : i = xs.length := by omega
      subst this
      go_wp2
      go_ret
      have hq := HQ.out
      rw [List.take_length] at hq
      exact ⟨by rw [heldAll_pos HT.out, ← hq]; rfl, HB.out⟩
/-! ### Invite -/
def eqInviteB (a b : Invite) : Bool := !(a.id != b.id) && !(a.by_ != b.by_) && !(a.until_ != b.until_)
theorem eqInviteB_iff (a b : Invite) : eqInviteB a b = true ↔ a = b := by
  cases a; cases b
  simp [eqInviteB, bytes_eq, and_assoc]
theorem eqInviteB_eq (a b : Invite) : eqInviteB a b = decide (a = b) := by
  rw [Bool.eq_iff_iff, eqInviteB_iff, decide_eq_true_iff]
set_option maxHeartbeats 2000000 in
theorem eqInvite_c (x y : Invite) (w : World) :
    Calls Tryz.prog 80 #[.agg #[.int .i64 x.id, .int .i64 x.by_, .int .i64 x.until_], .agg #[.int .i64 y.id, .int .i64 y.by_, .int .i64 y.until_]] w fun e w' => e = .returned (.bool (eqInviteB x y)) ∧ Below w.heap.size w w' := by
  have HB := hide (((Below.refl w.heap.size w).alloc (Nat.le_refl _) (.cells #[.int .i64 x.id, .int .i64 x.by_, .int .i64 x.until_] 49)).alloc (by simp) (.cells #[.int .i64 y.id, .int .i64 y.by_, .int .i64 y.until_] 49))
  go_enter Tryz.func80, Tryz.ntmps80
  go_wp2
  all_goals
    go_ret
    refine ⟨?_, HB.out⟩
    first
    | (rw [show eqInviteB x y = false from by simp only [eqInviteB, decide_true, decide_false, Bool.not_true, Bool.not_false, Bool.and_false, Bool.false_and, Bool.and_true, Bool.true_and, *]]; rfl)
    | (rw [show eqInviteB x y = true from by simp only [eqInviteB, decide_true, decide_false, Bool.not_true, Bool.not_false, Bool.and_false, Bool.false_and, Bool.and_true, Bool.true_and, *]]; rfl)
set_option maxHeartbeats 2000000 in
set_option maxRecDepth 100000 in
theorem eqInviteS_c (va vb : Value) (a b : List Invite) (w : World) (ha : SliceK inviteD w va a) (hb : SliceK inviteD w vb b) :
    Calls Tryz.prog 42 #[va, vb] w fun e w' => e = .returned (.bool (decide (a = b))) ∧ Below w.heap.size w w' := by
  obtain ⟨A, c, rfl, hl1, hm1, hra⟩ := ha
  obtain ⟨B, c', rfl, hl2, hm2, hrb⟩ := hb
  by_cases hlen : a.length = b.length
  · have hne : (((a.length : Nat) : Int) != ((b.length : Nat) : Int)) = false := by simp [hlen]
    have HL := hide hlen
    have HA := hide hra
    have HB := hide hrb
    clear hlen hra hrb
    go_enter Tryz.func42, Tryz.ntmps42
    go_wp2
    go_loopg [5] a.length (fun gg s5 wr => ∃ k : Nat, k ≤ a.length ∧ a.length - k ≤ gg ∧ s5 = .int .i64 k ∧ Hid (a.take k = b.take k) ∧ Hid (Below w.heap.size w wr))
    case atStart => exact ⟨0, Nat.zero_le _, by omega, rfl, rfl, Below.refl _ _⟩
    case round =>
      obtain ⟨k, hk, hg, rfl, HT, HW⟩ := hrel
      by_cases hlt : k < a.length
      · obtain ⟨x, hx⟩ : ∃ x, a[k]? = some x := ⟨_, List.getElem?_eq_getElem hlt⟩
        obtain ⟨y, hy⟩ : ∃ y, b[k]? = some y := ⟨_, List.getElem?_eq_getElem (by have := HL.out; omega)⟩
        have hkb : k < b.length := by have := HL.out; omega
        rcases HA.out with rfl | ⟨p, o, rfl, hra⟩
        · simp at hlt
        rcases HB.out with rfl | ⟨p', o', rfl, hrb⟩
        · simp at hkb
        obtain ⟨p, hc0, hc1, hc2⟩ := invite_at hra HW.out hx
        obtain ⟨p', gc0, gc1, gc2⟩ := invite_at hrb HW.out hy
        have HX := hide hx
        have HY := hide hy
        clear hx hy hra hrb HA HB 
        go_wp2
        go_still_tail 8, (by kernel_rfl)
        change wpList _ _ _ _ _ wr.drew
        go_wp2_with (go_at_call 80; refine (eqInvite_c x y  _  ).mono ?_; rintro e w1 ⟨rfl, hb1⟩; have H1 := hide (HW.out.drew.trans (hb1.mono (by simpa using HW.out.size))); clear hb1)
        · have hq : ¬ x = y := fun e => by rw [(eqInviteB_iff x y).2 e] at *; contradiction
          go_ret
          exact ⟨by rw [eqAll_pre HT.out HX.out HY.out hq]; rfl, H1.out⟩
        · have hq : eqInviteB x y = true := by simpa using ‹(!eqInviteB x y) = false›
          have HQ := hide ((eqInviteB_iff x y).1 hq)
          clear hq
          go_roundg (a.length - (k + 1))
          case measure => omega
          case rel => exact ⟨k + 1, by omega, by omega, by go_num, hide (by rw [List.take_add_one, List.take_add_one, HX.out, HY.out, HT.out, HQ.out]), H1⟩
      · have : k = a.length := by omega
        subst this
        go_wp2
        go_ret
        exact ⟨by rw [show decide (a = b) = true from by rw [decide_eq_true_iff]; have := HT.out; rw [List.take_length] at this; rw [this, HL.out, List.take_length]]; rfl, HW.out⟩
  · have hne : (((a.length : Nat) : Int) != ((b.length : Nat) : Int)) = true := by simp; omega
    have he : decide (a = b) = false := decide_eq_false (by rintro rfl; exact hlen rfl)
    have HE := hide he
    clear he hlen hra hrb
    go_enter Tryz.func42, Tryz.ntmps42
    go_wp2
    go_ret
    exact ⟨by rw [HE.out]; rfl, Below.refl _ _⟩
set_option maxHeartbeats 2000000 in
theorem toInvite_c (x : Invite) (w : World) :
    Calls Tryz.prog 58 #[.agg #[.int .i64 x.id, .int .i64 x.by_, .int .i64 x.until_]] w (RetElem inviteD w x) := by
  go_enter Tryz.func58, Tryz.ntmps58
  go_wp2_with fail
  refine bodyPost_ret (v := .agg #[.int .i64 x.id, .int .i64 x.by_, .int .i64 x.until_]) (by simp [results, Tryz.results58, go_sem]) rfl ⟨_, [], rfl, ⟨rfl, rfl⟩, List.nodup_nil, by simp, ?_⟩
  repeat (first | exact Below.refl _ _ | refine Below.setCell ?_ (by simp <;> omega) _ | refine Below.alloc ?_ (by simp <;> omega) _)
theorem infoInvite : (Tryz.prog.info? 49).map (fun i => (i.zero, i.size, i.bytes)) = some (some (.agg #[(.int .i64 0), (.int .i64 0), (.int .i64 0)]), 3, 24) := by kernel_rfl
set_option maxHeartbeats 2000000 in
set_option maxRecDepth 100000 in
theorem toInviteS_c (v : Value) (a : List Invite) (w : World) (ha : SliceK inviteD w v a) (hn : a.length ≤ 1048576) :
    Calls Tryz.prog 31 #[v] w (RetMade inviteD 49 w a) := by
  obtain ⟨A, c, rfl, hl1, hm1, hra⟩ := ha
  have HA := hide hra
  have hmk := run_mk (P := Tryz.prog) 29 49 (.agg #[(.int .i64 0), (.int .i64 0), (.int .i64 0)]) 3 24 Tryz.underlying29 infoInvite a.length (by omega) (by omega)
  clear hra
  go_enter Tryz.func31, Tryz.ntmps31
  go_wp2_with fail
  obtain ⟨B, hB⟩ : ∃ B, B = w.heap.size := ⟨_, rfl⟩
  have HBs := hide hB
  rw [← hB]
  have H0 : ∃ cur css Fs, Row inviteD 49 (w.alloc (Obj.cells (mkRow (.agg #[(.int .i64 0), (.int .i64 0), (.int .i64 0)]) (a.length * 3)) 49)) B a.length cur css Fs (a.take 0) ∧ (B :: Fs.flatten).Nodup ∧ (∀ q ∈ B :: Fs.flatten, w.heap.size ≤ q) :=
    ⟨_, [], [], by rw [hB]; exact Row.start (d := inviteD) (by omega), by simp, by intro q hq; simp at hq; omega⟩
  have H0 := hide H0
  clear hB
  go_loopg [4] a.length (fun gg s4 wr => ∃ k : Nat, k ≤ a.length ∧ a.length - k ≤ gg ∧ s4 = .int .i64 k ∧ Hid (∃ cur css Fs, Row inviteD 49 wr B a.length cur css Fs (a.take k) ∧ (B :: Fs.flatten).Nodup ∧ (∀ q ∈ B :: Fs.flatten, w.heap.size ≤ q)) ∧ Hid (Below w.heap.size w wr))
  case atStart => exact ⟨0, Nat.zero_le _, by omega, rfl, H0, (Below.refl _ _).alloc (Nat.le_refl _) _⟩
  case round =>
    obtain ⟨k, hk, hg, rfl, HR, HW⟩ := hrel
    clear H0 hmk
    by_cases hlt : k < a.length
    · obtain ⟨x, hx⟩ : ∃ x, a[k]? = some x := ⟨_, List.getElem?_eq_getElem hlt⟩
      rcases HA.out with rfl | ⟨p, o, rfl, hra⟩
      · simp at hlt
      obtain ⟨p, hc0, hc1, hc2⟩ := invite_at hra HW.out hx
      have HX := hide hx
      clear hx hra HA 
      go_wp2_with fail
      refine (toInvite_c x  _ ).mono ?_
      rintro e w1 ⟨cs, G, rfl, hm, hnd, hG, hb1⟩
      obtain ⟨cur, css, Fs, hrow, hnF, hgF⟩ := HR.out
      have HM := hide hm
      obtain ⟨rfl, rfl⟩ := hm
      have hsz : cur.size = a.length * 3 := hrow.size
      have hlB : B < wr.heap.size := block_lt hrow.blk
      have hblk1 : w1.heap[B]? = some (.cells cur 49 (0, 0)) := (hb1.block B hlB).trans hrow.blk
      have hfz : ∀ o, w1.frozen? ⟨B, o, none⟩ = false := fun o => frozen_block hblk1
      have hlB1 : B < w1.heap.size := block_lt hblk1
      obtain ⟨z0, hz0⟩ : ∃ z, w1.cell? ⟨B, k * 3, none⟩ = some z := ⟨cur[k * 3]'(by omega), by rw [cell_block hblk1]; exact Array.getElem?_eq_getElem (by omega)⟩
      obtain ⟨z1, hz1⟩ : ∃ z, w1.cell? ⟨B, k * 3 + 1, none⟩ = some z := ⟨cur[k * 3 + 1]'(by omega), by rw [cell_block hblk1]; exact Array.getElem?_eq_getElem (by omega)⟩
      obtain ⟨z2, hz2⟩ : ∃ z, w1.cell? ⟨B, k * 3 + 2, none⟩ = some z := ⟨cur[k * 3 + 2]'(by omega), by rw [cell_block hblk1]; exact Array.getElem?_eq_getElem (by omega)⟩
      have HC := hide (And.intro hrow (And.intro hnF (And.intro hgF (And.intro hnd (And.intro hG (And.intro hb1 hblk1))))))
      have HSZ := hide hsz
      clear HR hrow hnF hgF hnd hG hb1 hblk1 hlB hsz
      go_wp2_with fail
      obtain ⟨hrow, hnF, hgF, hnd, hG, hb1, hblk1⟩ := HC.out
      obtain ⟨cur', hcur', hlist'⟩ := putCells_block [.int .i64 x.id, .int .i64 x.by_, .int .i64 x.until_] w1 B (k * 3) hblk1
      have hBl : ∀ q ∈ B :: Fs.flatten, q < wr.heap.size := hrow.lt
      have htl : (a.take k).length = k := by rw [List.length_take]; omega
      go_roundg (a.length - (k + 1))
      case measure => omega
      case rel =>
        refine ⟨k + 1, by omega, by omega, by go_num, hide ⟨cur', css ++ [[.int .i64 x.id, .int .i64 x.by_, .int .i64 x.until_]], Fs ++ [([] : List Nat)], ?_, ?_, ?_⟩, hide ?_⟩
        · rw [List.take_add_one, HX.out]
          refine Row.snoc (w' := putCells w1 B (k * 3) [.int .i64 x.id, .int .i64 x.by_, .int .i64 x.until_]) hrow (by omega) (Dt.M_move _ (fun q hq => putCells_other _ _ _ _ ?_) HM.out) hcur' (by rw [htl]; exact hlist') (fun q hq => (putCells_other _ _ _ _ ?_).trans (hb1.block q (hBl q (List.mem_cons_of_mem _ hq))))
          · have := hG q hq; have := hBl B List.mem_cons_self; omega
          · intro e; subst e; exact (List.nodup_cons.1 hnF).1 hq
        · rw [List.flatten_append, List.flatten_singleton, ← List.cons_append]
          exact nodup_app hnF hnd hBl hG
        · intro q hq
          rw [List.flatten_append, List.flatten_singleton, ← List.cons_append, List.mem_append] at hq
          rcases hq with hq | hq
          · exact hgF q hq
          · exact Nat.le_trans HW.out.size (hG q hq)
        · exact putCells_below [.int .i64 x.id, .int .i64 x.by_, .int .i64 x.until_] B (k * 3) (HW.out.trans (hb1.mono HW.out.size)) (hgF B List.mem_cons_self)
    · have : k = a.length := by omega
      subst this
      go_wp2
      go_ret
      obtain ⟨cur, css, Fs, hrow, hnF, hgF⟩ := HR.out
      rw [List.take_length] at hrow
      exact ⟨_, rfl, ⟨_, hrow.M, hnF, hgF⟩, HW.out⟩
theorem szInviteS_c (v : Value) (a : List Invite) (left : Int) (w : World) (ha : SliceK inviteD w v a) (h0 : 0 ≤ left) (h1 : left ≤ 1048576) :
    Calls Tryz.prog 18 #[v, .int .i64 left] w fun e w' => RetSz left a.length e ∧ Below w.heap.size w w' := by
  obtain ⟨A, c, rfl, hl1, hm1, hra⟩ := ha
  clear hra
  by_cases h : (a.length : Int) ≤ left
  · have hr := hide (show left - (a.length : Int) = szR left a.length from (if_pos h).symm)
    have h2 : ¬ (left - (a.length : Int) < 0) := by omega
    go_enter Tryz.func18, Tryz.ntmps18
    go_wp2
    go_ret
    exact ⟨⟨_, rfl, hr.out⟩, Below.refl _ _⟩
  · have hr := hide (show -1 = szR left a.length from (if_neg h).symm)
    have h2 : (left - (a.length : Int) < 0) := by omega
    go_enter Tryz.func18, Tryz.ntmps18
    go_wp2
    go_ret
    exact ⟨⟨_, rfl, hr.out⟩, Below.refl _ _⟩
def cntInvite (x : Invite) : Nat := 3
def mkInvite (k : Int) (x : Invite) : Invite := { id := (k), by_ := (k + 1), until_ := (k + 1 + 1) }
theorem cntInvite_mk (k : Int) (x : Invite) : cntInvite (mkInvite k x) = cntInvite x := by simp [cntInvite, mkInvite, marks_len, marks_len]
theorem mkInvite_mk (k : Int) (x : Invite) : mkInvite k (mkInvite k x) = mkInvite k x := by simp [mkInvite, marks_len, marks_len]
def heldInviteB (k : Int) (x : Invite) : Bool := !(x.id != k) && !(x.by_ != k + 1) && !(x.until_ != k + 1 + 1)
theorem heldInviteB_iff {k : Int} (h : 0 ≤ k) (x : Invite) : heldInviteB k x = true ↔ x = mkInvite k x := by
  cases x
  simp only [heldInviteB, mkInvite, Invite.mk.injEq, bytes_eq, Bool.and_eq_true, Bool.not_eq_true', bne_eq_false_iff_eq, Bool.not_eq_false', beq_iff_eq, decide_eq_false_iff_not, and_assoc]
set_option maxHeartbeats 4000000 in
set_option maxRecDepth 100000 in
theorem markInviteS_c (v : Value) (xs : List Invite) (F : List Nat) (k : Int) (w : World) (h : SliceM inviteD 49 w v xs F) (hn : F.Nodup) (h0 : 0 ≤ k) (h1 : k + cntAll cntInvite xs ≤ 1000000000000) :
    Calls Tryz.prog 45 #[v, .int .i64 k] w (RetMarkA inviteD 49 cntInvite mkInvite w v xs F k) := by
  rcases h.row with ⟨rfl, rfl, rfl⟩ | ⟨B, cap, cur, css, Fs, rfl, hrow, rfl⟩
  · go_enter Tryz.func45, Tryz.ntmps45
    go_wp2
    go_loopg [1, 5] 0 (fun gg s1 s5 wr => s1 = .int .i64 k ∧ s5 = .int .i64 0 ∧ w = wr)
    case atStart => exact ⟨rfl, rfl, rfl⟩
    case round =>
      obtain ⟨rfl, rfl, rfl⟩ := hrel
      go_wp2
      go_ret
      exact ⟨by simp [cntAll], .inl ⟨rfl, rfl, rfl⟩, Chg.refl _ _⟩
  · have H0 := hide (show ∃ cur css, Row inviteD 49 w B cap cur css Fs (mixed cntInvite mkInvite k xs 0) from ⟨cur, css, by rw [mixed_zero]; exact hrow⟩)
    have HN := hide hn
    have hlen := hrow.le
    have hmax := hrow.max
    clear h hrow hn
    go_enter Tryz.func45, Tryz.ntmps45
    go_wp2
    go_loopg [1, 5] xs.length (fun gg s1 s5 wr => ∃ (i : Nat) (q : Int), i ≤ xs.length ∧ xs.length - i ≤ gg ∧ s1 = .int .i64 q ∧ s5 = .int .i64 i ∧ 0 ≤ q ∧ Hid (q = k + cntAll cntInvite (xs.take i)) ∧
      Hid (∃ cur css, Row inviteD 49 wr B cap cur css Fs (mixed cntInvite mkInvite k xs i)) ∧ Hid (Chg (B :: Fs.flatten) w wr))
    case atStart => exact ⟨0, k, Nat.zero_le _, by omega, rfl, rfl, h0, hide (by simp [cntAll]), H0, Chg.refl _ _⟩
    case round =>
      obtain ⟨i, q, hi, hg, rfl, rfl, hq0, HQ, HR, HW⟩ := hrel
      clear H0
      by_cases hlt : i < xs.length
      · obtain ⟨x, hx⟩ : ∃ x, xs[i]? = some x := ⟨_, List.getElem?_eq_getElem hlt⟩
        obtain ⟨cur, css, hrow⟩ := HR.out
        obtain ⟨cs, G, hE⟩ := RowE.ofRow hrow (mixed_get (cnt := cntInvite) (mk := mkInvite) k xs i hx)
        have hcT := cntAll_take (cnt := cntInvite) xs i x hx
        have hcL := cntAll_le (cnt := cntInvite) xs (i + 1)
        have hq1 : q + cntInvite x ≤ 1000000000000 := by have := HQ.out; omega
        have hq2 : q + (3 : Nat) ≤ 1000000000000 := hq1
        have HT := hide hcT
        have HX := hide hx
        have hlB := hE.blt
        have hfz := hE.frozen
        have hcell := hE.cell
        obtain ⟨rfl, rfl⟩ : cs = [.int .i64 x.id, .int .i64 x.by_, .int .i64 x.until_] ∧ G = [] := hE.M
        have hc0 : wr.cell? ⟨B, i * 3, none⟩ = some (.int .i64 x.id) := hcell 0 _ rfl
        have hc1 : wr.cell? ⟨B, i * 3 + 1, none⟩ = some (.int .i64 x.by_) := hcell 1 _ rfl
        have hc2 : wr.cell? ⟨B, i * 3 + 2, none⟩ = some (.int .i64 x.until_) := hcell 2 _ rfl
        have E0 := hide hE
        clear HR hcell hcT hcL hx hrow hE hq1
        go_wp2_with fail
        have E1 := hide (E0.out.put HN.out 0 (.int .i64 (q)) ({ x with id := (q) }) (by decide) fun _ => ⟨rfl, rfl⟩)
        have E2 := hide (E1.out.put HN.out 1 (.int .i64 (q + 1)) ({ x with id := (q), by_ := (q + 1) }) (by decide) fun _ => ⟨rfl, rfl⟩)
        have E3 := hide (E2.out.put HN.out 2 (.int .i64 (q + 1 + 1)) ({ x with id := (q), by_ := (q + 1), until_ := (q + 1 + 1) }) (by decide) fun _ => ⟨rfl, rfl⟩)
        obtain ⟨cur', css', hrow'⟩ := E3.out.row
        simp only [List.set_set] at hrow'
        have hmk : { x with id := (q), by_ := (q + 1), until_ := (q + 1 + 1) } = mkInvite q x := rfl
        have hmx : (mixed cntInvite mkInvite k xs i).set i (mkInvite q x) = mixed cntInvite mkInvite k xs (i + 1) := by rw [HQ.out]; exact mixed_set k xs i HX.out
        rw [hmk, hmx] at hrow'
        go_roundg (xs.length - (i + 1))
        case measure => omega
        case rel =>
          refine ⟨i + 1, q + 1 + 1 + 1, by omega, by omega, rfl, by go_num, by omega, hide (by have h1 := HQ.out; have h2 := HT.out; have h3 : cntInvite x = 3 := rfl; rw [h2]; omega), hide ⟨cur', css', hrow'⟩, hide ?_⟩
          exact ((((((HW.out).setCell (.inl (by simp)) _)).setCell (.inl (by simp)) _)).setCell (.inl (by simp)) _)
      · have : i = xs.length := by omega
        subst this
        go_wp2
        go_ret
        obtain ⟨cur, css, hrow⟩ := HR.out
        rw [mixed_all] at hrow
        have hq := HQ.out
        rw [List.take_length] at hq
        refine ⟨by rw [← hq]; rfl, ?_, HW.out⟩
        have hS := hrow.M
        rwa [markAll_len] at hS
set_option maxHeartbeats 4000000 in
set_option maxRecDepth 100000 in
theorem heldInviteS_c (v : Value) (xs : List Invite) (k : Int) (w : World) (h : SliceK inviteD w v xs) (h0 : 0 ≤ k) (h1 : k + cntAll cntInvite xs ≤ 1000000000000) :
    Calls Tryz.prog 48 #[v, .int .i64 k] w fun e w' => e = .returned (.int .i64 (heldAll cntInvite mkInvite k xs)) ∧ Below w.heap.size w w' := by
  obtain ⟨A, c, rfl, hl, hm, hra⟩ := h
  have HA := hide hra
  clear hra
  go_enter Tryz.func48, Tryz.ntmps48
  go_wp2
  go_loopg [1, 5] xs.length (fun gg s1 s5 wr => ∃ (i : Nat) (q : Int), i ≤ xs.length ∧ xs.length - i ≤ gg ∧ s1 = .int .i64 q ∧ s5 = .int .i64 i ∧ 0 ≤ q ∧ Hid (q = k + cntAll cntInvite (xs.take i)) ∧ Hid (xs.take i = (markAll cntInvite mkInvite k xs).take i) ∧ Hid (Below w.heap.size w wr))
  case atStart => exact ⟨0, k, Nat.zero_le _, by omega, rfl, rfl, h0, hide (by simp [cntAll]), rfl, Below.refl _ _⟩
  case round =>
    obtain ⟨i, q, hi, hg, rfl, rfl, hq0, HQ, HT, HB⟩ := hrel
    by_cases hlt : i < xs.length
    · obtain ⟨x, hx⟩ : ∃ x, xs[i]? = some x := ⟨_, List.getElem?_eq_getElem hlt⟩
      rcases HA.out with rfl | ⟨p, o, rfl, hra⟩
      · simp at hlt
      obtain ⟨p, hc0, hc1, hc2⟩ := invite_at hra HB.out hx
      have hcT := cntAll_take (cnt := cntInvite) xs i x hx
      have hcL := cntAll_le (cnt := cntInvite) xs (i + 1)
      have hq1 : q + cntInvite x ≤ 1000000000000 := by have := HQ.out; omega
      have hq2 : q + (3 : Nat) ≤ 1000000000000 := hq1
      have HcT := hide hcT
      have HX := hide hx
      clear hx hra HA hcT hcL hq1 
      go_wp2
      all_goals first
      | (
         go_roundg (xs.length - (i + 1))
         case measure => omega
         case rel =>
           have hB : heldInviteB q x = true := by simp only [heldInviteB, decide_true, decide_false, Bool.not_true, Bool.not_false, Bool.and_false, Bool.false_and, Bool.and_true, Bool.true_and, *]
           have hE := (heldInviteB_iff hq0 x).1 hB
           have hQ := HQ.out
           exact ⟨i + 1, q + cntInvite x, by omega, by omega, (int_congr (by unfold cntInvite; omega)), by go_num, by omega, hide (by rw [HcT.out, hQ]; omega), hide (by rw [List.take_add_one, List.take_add_one, HX.out, HT.out, markAll_get _ _ _ _ HX.out, ← hQ, ← hE]), HB⟩)
      | (
         have hB : heldInviteB q x = false := by simp only [heldInviteB, decide_true, decide_false, Bool.not_true, Bool.not_false, Bool.and_false, Bool.false_and, Bool.and_true, Bool.true_and, *]
         have hE : ¬ x = mkInvite q x := fun e => by rw [(heldInviteB_iff hq0 x).2 e] at hB; cases hB
         rw [HQ.out] at hE
         go_ret
         exact ⟨by rw [heldAll_neg HX.out hE]; rfl, HB.out⟩)
    · have : i = xs.length := by omega
      subst this
      go_wp2
      go_ret
      have hq := HQ.out
      rw [List.take_length] at hq
      exact ⟨by rw [heldAll_pos HT.out, ← hq]; rfl, HB.out⟩
/-! ### Ban -/
def eqBanB (a b : Ban) : Bool := !(a.id != b.id) && !(a.until_ != b.until_)
theorem eqBanB_iff (a b : Ban) : eqBanB a b = true ↔ a = b := by
  cases a; cases b
  simp [eqBanB, bytes_eq, and_assoc]
theorem eqBanB_eq (a b : Ban) : eqBanB a b = decide (a = b) := by
  rw [Bool.eq_iff_iff, eqBanB_iff, decide_eq_true_iff]
set_option maxHeartbeats 2000000 in
theorem eqBan_c (x y : Ban) (w : World) :
    Calls Tryz.prog 81 #[.agg #[.int .i64 x.id, .int .i64 x.until_], .agg #[.int .i64 y.id, .int .i64 y.until_]] w fun e w' => e = .returned (.bool (eqBanB x y)) ∧ Below w.heap.size w w' := by
  have HB := hide (((Below.refl w.heap.size w).alloc (Nat.le_refl _) (.cells #[.int .i64 x.id, .int .i64 x.until_] 73)).alloc (by simp) (.cells #[.int .i64 y.id, .int .i64 y.until_] 73))
  go_enter Tryz.func81, Tryz.ntmps81
  go_wp2
  all_goals
    go_ret
    refine ⟨?_, HB.out⟩
    first
    | (rw [show eqBanB x y = false from by simp only [eqBanB, decide_true, decide_false, Bool.not_true, Bool.not_false, Bool.and_false, Bool.false_and, Bool.and_true, Bool.true_and, *]]; rfl)
    | (rw [show eqBanB x y = true from by simp only [eqBanB, decide_true, decide_false, Bool.not_true, Bool.not_false, Bool.and_false, Bool.false_and, Bool.and_true, Bool.true_and, *]]; rfl)
set_option maxHeartbeats 2000000 in
set_option maxRecDepth 100000 in
theorem eqBanS_c (va vb : Value) (a b : List Ban) (w : World) (ha : SliceK banD w va a) (hb : SliceK banD w vb b) :
    Calls Tryz.prog 43 #[va, vb] w fun e w' => e = .returned (.bool (decide (a = b))) ∧ Below w.heap.size w w' := by
  obtain ⟨A, c, rfl, hl1, hm1, hra⟩ := ha
  obtain ⟨B, c', rfl, hl2, hm2, hrb⟩ := hb
  by_cases hlen : a.length = b.length
  · have hne : (((a.length : Nat) : Int) != ((b.length : Nat) : Int)) = false := by simp [hlen]
    have HL := hide hlen
    have HA := hide hra
    have HB := hide hrb
    clear hlen hra hrb
    go_enter Tryz.func43, Tryz.ntmps43
    go_wp2
    go_loopg [5] a.length (fun gg s5 wr => ∃ k : Nat, k ≤ a.length ∧ a.length - k ≤ gg ∧ s5 = .int .i64 k ∧ Hid (a.take k = b.take k) ∧ Hid (Below w.heap.size w wr))
    case atStart => exact ⟨0, Nat.zero_le _, by omega, rfl, rfl, Below.refl _ _⟩
    case round =>
      obtain ⟨k, hk, hg, rfl, HT, HW⟩ := hrel
      by_cases hlt : k < a.length
      · obtain ⟨x, hx⟩ : ∃ x, a[k]? = some x := ⟨_, List.getElem?_eq_getElem hlt⟩
        obtain ⟨y, hy⟩ : ∃ y, b[k]? = some y := ⟨_, List.getElem?_eq_getElem (by have := HL.out; omega)⟩
        have hkb : k < b.length := by have := HL.out; omega
        rcases HA.out with rfl | ⟨p, o, rfl, hra⟩
        · simp at hlt
        rcases HB.out with rfl | ⟨p', o', rfl, hrb⟩
        · simp at hkb
        obtain ⟨p, hc0, hc1⟩ := ban_at hra HW.out hx
        obtain ⟨p', gc0, gc1⟩ := ban_at hrb HW.out hy
        have HX := hide hx
        have HY := hide hy
        clear hx hy hra hrb HA HB 
        go_wp2
        go_still_tail 8, (by kernel_rfl)
        change wpList _ _ _ _ _ wr.drew
        go_wp2_with (go_at_call 81; refine (eqBan_c x y  _  ).mono ?_; rintro e w1 ⟨rfl, hb1⟩; have H1 := hide (HW.out.drew.trans (hb1.mono (by simpa using HW.out.size))); clear hb1)
        · have hq : ¬ x = y := fun e => by rw [(eqBanB_iff x y).2 e] at *; contradiction
          go_ret
          exact ⟨by rw [eqAll_pre HT.out HX.out HY.out hq]; rfl, H1.out⟩
        · have hq : eqBanB x y = true := by simpa using ‹(!eqBanB x y) = false›
          have HQ := hide ((eqBanB_iff x y).1 hq)
          clear hq
          go_roundg (a.length - (k + 1))
          case measure => omega
          case rel => exact ⟨k + 1, by omega, by omega, by go_num, hide (by rw [List.take_add_one, List.take_add_one, HX.out, HY.out, HT.out, HQ.out]), H1⟩
      · have : k = a.length := by omega
        subst this
        go_wp2
        go_ret
        exact ⟨by rw [show decide (a = b) = true from by rw [decide_eq_true_iff]; have := HT.out; rw [List.take_length] at this; rw [this, HL.out, List.take_length]]; rfl, HW.out⟩
  · have hne : (((a.length : Nat) : Int) != ((b.length : Nat) : Int)) = true := by simp; omega
    have he : decide (a = b) = false := decide_eq_false (by rintro rfl; exact hlen rfl)
    have HE := hide he
    clear he hlen hra hrb
    go_enter Tryz.func43, Tryz.ntmps43
    go_wp2
    go_ret
    exact ⟨by rw [HE.out]; rfl, Below.refl _ _⟩
set_option maxHeartbeats 2000000 in
theorem toBan_c (x : Ban) (w : World) :
    Calls Tryz.prog 59 #[.agg #[.int .i64 x.id, .int .i64 x.until_]] w (RetElem banD w x) := by
  go_enter Tryz.func59, Tryz.ntmps59
  go_wp2_with fail
  refine bodyPost_ret (v := .agg #[.int .i64 x.id, .int .i64 x.until_]) (by simp [results, Tryz.results59, go_sem]) rfl ⟨_, [], rfl, ⟨rfl, rfl⟩, List.nodup_nil, by simp, ?_⟩
  repeat (first | exact Below.refl _ _ | refine Below.setCell ?_ (by simp <;> omega) _ | refine Below.alloc ?_ (by simp <;> omega) _)
theorem infoBan : (Tryz.prog.info? 73).map (fun i => (i.zero, i.size, i.bytes)) = some (some (.agg #[(.int .i64 0), (.int .i64 0)]), 2, 16) := by kernel_rfl
set_option maxHeartbeats 2000000 in
set_option maxRecDepth 100000 in
theorem toBanS_c (v : Value) (a : List Ban) (w : World) (ha : SliceK banD w v a) (hn : a.length ≤ 1048576) :
    Calls Tryz.prog 32 #[v] w (RetMade banD 73 w a) := by
  obtain ⟨A, c, rfl, hl1, hm1, hra⟩ := ha
  have HA := hide hra
  have hmk := run_mk (P := Tryz.prog) 30 73 (.agg #[(.int .i64 0), (.int .i64 0)]) 2 16 Tryz.underlying30 infoBan a.length (by omega) (by omega)
  clear hra
  go_enter Tryz.func32, Tryz.ntmps32
  go_wp2_with fail
  obtain ⟨B, hB⟩ : ∃ B, B = w.heap.size := ⟨_, rfl⟩
  have HBs := hide hB
  rw [← hB]
  have H0 : ∃ cur css Fs, Row banD 73 (w.alloc (Obj.cells (mkRow (.agg #[(.int .i64 0), (.int .i64 0)]) (a.length * 2)) 73)) B a.length cur css Fs (a.take 0) ∧ (B :: Fs.flatten).Nodup ∧ (∀ q ∈ B :: Fs.flatten, w.heap.size ≤ q) :=
    ⟨_, [], [], by rw [hB]; exact Row.start (d := banD) (by omega), by simp, by intro q hq; simp at hq; omega⟩
  have H0 := hide H0
  clear hB
  go_loopg [4] a.length (fun gg s4 wr => ∃ k : Nat, k ≤ a.length ∧ a.length - k ≤ gg ∧ s4 = .int .i64 k ∧ Hid (∃ cur css Fs, Row banD 73 wr B a.length cur css Fs (a.take k) ∧ (B :: Fs.flatten).Nodup ∧ (∀ q ∈ B :: Fs.flatten, w.heap.size ≤ q)) ∧ Hid (Below w.heap.size w wr))
  case atStart => exact ⟨0, Nat.zero_le _, by omega, rfl, H0, (Below.refl _ _).alloc (Nat.le_refl _) _⟩
  case round =>
    obtain ⟨k, hk, hg, rfl, HR, HW⟩ := hrel
    clear H0 hmk
    by_cases hlt : k < a.length
    · obtain ⟨x, hx⟩ : ∃ x, a[k]? = some x := ⟨_, List.getElem?_eq_getElem hlt⟩
      rcases HA.out with rfl | ⟨p, o, rfl, hra⟩
      · simp at hlt
      obtain ⟨p, hc0, hc1⟩ := ban_at hra HW.out hx
      have HX := hide hx
      clear hx hra HA 
      go_wp2_with fail
      refine (toBan_c x  _ ).mono ?_
      rintro e w1 ⟨cs, G, rfl, hm, hnd, hG, hb1⟩
      obtain ⟨cur, css, Fs, hrow, hnF, hgF⟩ := HR.out
      have HM := hide hm
      obtain ⟨rfl, rfl⟩ := hm
      have hsz : cur.size = a.length * 2 := hrow.size
      have hlB : B < wr.heap.size := block_lt hrow.blk
      have hblk1 : w1.heap[B]? = some (.cells cur 73 (0, 0)) := (hb1.block B hlB).trans hrow.blk
      have hfz : ∀ o, w1.frozen? ⟨B, o, none⟩ = false := fun o => frozen_block hblk1
      have hlB1 : B < w1.heap.size := block_lt hblk1
      obtain ⟨z0, hz0⟩ : ∃ z, w1.cell? ⟨B, k * 2, none⟩ = some z := ⟨cur[k * 2]'(by omega), by rw [cell_block hblk1]; exact Array.getElem?_eq_getElem (by omega)⟩
      obtain ⟨z1, hz1⟩ : ∃ z, w1.cell? ⟨B, k * 2 + 1, none⟩ = some z := ⟨cur[k * 2 + 1]'(by omega), by rw [cell_block hblk1]; exact Array.getElem?_eq_getElem (by omega)⟩
      have HC := hide (And.intro hrow (And.intro hnF (And.intro hgF (And.intro hnd (And.intro hG (And.intro hb1 hblk1))))))
      have HSZ := hide hsz
      clear HR hrow hnF hgF hnd hG hb1 hblk1 hlB hsz
      go_wp2_with fail
      obtain ⟨hrow, hnF, hgF, hnd, hG, hb1, hblk1⟩ := HC.out
      obtain ⟨cur', hcur', hlist'⟩ := putCells_block [.int .i64 x.id, .int .i64 x.until_] w1 B (k * 2) hblk1
      have hBl : ∀ q ∈ B :: Fs.flatten, q < wr.heap.size := hrow.lt
      have htl : (a.take k).length = k := by rw [List.length_take]; omega
      go_roundg (a.length - (k + 1))
      case measure => omega
      case rel =>
        refine ⟨k + 1, by omega, by omega, by go_num, hide ⟨cur', css ++ [[.int .i64 x.id, .int .i64 x.until_]], Fs ++ [([] : List Nat)], ?_, ?_, ?_⟩, hide ?_⟩
        · rw [List.take_add_one, HX.out]
          refine Row.snoc (w' := putCells w1 B (k * 2) [.int .i64 x.id, .int .i64 x.until_]) hrow (by omega) (Dt.M_move _ (fun q hq => putCells_other _ _ _ _ ?_) HM.out) hcur' (by rw [htl]; exact hlist') (fun q hq => (putCells_other _ _ _ _ ?_).trans (hb1.block q (hBl q (List.mem_cons_of_mem _ hq))))
          · have := hG q hq; have := hBl B List.mem_cons_self; omega
          · intro e; subst e; exact (List.nodup_cons.1 hnF).1 hq
        · rw [List.flatten_append, List.flatten_singleton, ← List.cons_append]
          exact nodup_app hnF hnd hBl hG
        · intro q hq
          rw [List.flatten_append, List.flatten_singleton, ← List.cons_append, List.mem_append] at hq
          rcases hq with hq | hq
          · exact hgF q hq
          · exact Nat.le_trans HW.out.size (hG q hq)
        · exact putCells_below [.int .i64 x.id, .int .i64 x.until_] B (k * 2) (HW.out.trans (hb1.mono HW.out.size)) (hgF B List.mem_cons_self)
    · have : k = a.length := by omega
      subst this
      go_wp2
      go_ret
      obtain ⟨cur, css, Fs, hrow, hnF, hgF⟩ := HR.out
      rw [List.take_length] at hrow
      exact ⟨_, rfl, ⟨_, hrow.M, hnF, hgF⟩, HW.out⟩
theorem szBanS_c (v : Value) (a : List Ban) (left : Int) (w : World) (ha : SliceK banD w v a) (h0 : 0 ≤ left) (h1 : left ≤ 1048576) :
    Calls Tryz.prog 19 #[v, .int .i64 left] w fun e w' => RetSz left a.length e ∧ Below w.heap.size w w' := by
  obtain ⟨A, c, rfl, hl1, hm1, hra⟩ := ha
  clear hra
  by_cases h : (a.length : Int) ≤ left
  · have hr := hide (show left - (a.length : Int) = szR left a.length from (if_pos h).symm)
    have h2 : ¬ (left - (a.length : Int) < 0) := by omega
    go_enter Tryz.func19, Tryz.ntmps19
    go_wp2
    go_ret
    exact ⟨⟨_, rfl, hr.out⟩, Below.refl _ _⟩
  · have hr := hide (show -1 = szR left a.length from (if_neg h).symm)
    have h2 : (left - (a.length : Int) < 0) := by omega
    go_enter Tryz.func19, Tryz.ntmps19
    go_wp2
    go_ret
    exact ⟨⟨_, rfl, hr.out⟩, Below.refl _ _⟩
def cntBan (x : Ban) : Nat := 2
def mkBan (k : Int) (x : Ban) : Ban := { id := (k), until_ := (k + 1) }
theorem cntBan_mk (k : Int) (x : Ban) : cntBan (mkBan k x) = cntBan x := by simp [cntBan, mkBan, marks_len, marks_len]
theorem mkBan_mk (k : Int) (x : Ban) : mkBan k (mkBan k x) = mkBan k x := by simp [mkBan, marks_len, marks_len]
def heldBanB (k : Int) (x : Ban) : Bool := !(x.id != k) && !(x.until_ != k + 1)
theorem heldBanB_iff {k : Int} (h : 0 ≤ k) (x : Ban) : heldBanB k x = true ↔ x = mkBan k x := by
  cases x
  simp only [heldBanB, mkBan, Ban.mk.injEq, bytes_eq, Bool.and_eq_true, Bool.not_eq_true', bne_eq_false_iff_eq, Bool.not_eq_false', beq_iff_eq, decide_eq_false_iff_not, and_assoc]
set_option maxHeartbeats 4000000 in
set_option maxRecDepth 100000 in
theorem markBanS_c (v : Value) (xs : List Ban) (F : List Nat) (k : Int) (w : World) (h : SliceM banD 73 w v xs F) (hn : F.Nodup) (h0 : 0 ≤ k) (h1 : k + cntAll cntBan xs ≤ 1000000000000) :
    Calls Tryz.prog 46 #[v, .int .i64 k] w (RetMarkA banD 73 cntBan mkBan w v xs F k) := by
  rcases h.row with ⟨rfl, rfl, rfl⟩ | ⟨B, cap, cur, css, Fs, rfl, hrow, rfl⟩
  · go_enter Tryz.func46, Tryz.ntmps46
    go_wp2
    go_loopg [1, 5] 0 (fun gg s1 s5 wr => s1 = .int .i64 k ∧ s5 = .int .i64 0 ∧ w = wr)
    case atStart => exact ⟨rfl, rfl, rfl⟩
    case round =>
      obtain ⟨rfl, rfl, rfl⟩ := hrel
      go_wp2
      go_ret
      exact ⟨by simp [cntAll], .inl ⟨rfl, rfl, rfl⟩, Chg.refl _ _⟩
  · have H0 := hide (show ∃ cur css, Row banD 73 w B cap cur css Fs (mixed cntBan mkBan k xs 0) from ⟨cur, css, by rw [mixed_zero]; exact hrow⟩)
    have HN := hide hn
    have hlen := hrow.le
    have hmax := hrow.max
    clear h hrow hn
    go_enter Tryz.func46, Tryz.ntmps46
    go_wp2
    go_loopg [1, 5] xs.length (fun gg s1 s5 wr => ∃ (i : Nat) (q : Int), i ≤ xs.length ∧ xs.length - i ≤ gg ∧ s1 = .int .i64 q ∧ s5 = .int .i64 i ∧ 0 ≤ q ∧ Hid (q = k + cntAll cntBan (xs.take i)) ∧
      Hid (∃ cur css, Row banD 73 wr B cap cur css Fs (mixed cntBan mkBan k xs i)) ∧ Hid (Chg (B :: Fs.flatten) w wr))
    case atStart => exact ⟨0, k, Nat.zero_le _, by omega, rfl, rfl, h0, hide (by simp [cntAll]), H0, Chg.refl _ _⟩
    case round =>
      obtain ⟨i, q, hi, hg, rfl, rfl, hq0, HQ, HR, HW⟩ := hrel
      clear H0
      by_cases hlt : i < xs.length
      · obtain ⟨x, hx⟩ : ∃ x, xs[i]? = some x := ⟨_, List.getElem?_eq_getElem hlt⟩
        obtain ⟨cur, css, hrow⟩ := HR.out
        obtain ⟨cs, G, hE⟩ := RowE.ofRow hrow (mixed_get (cnt := cntBan) (mk := mkBan) k xs i hx)
        have hcT := cntAll_take (cnt := cntBan) xs i x hx
        have hcL := cntAll_le (cnt := cntBan) xs (i + 1)
        have hq1 : q + cntBan x ≤ 1000000000000 := by have := HQ.out; omega
        have hq2 : q + (2 : Nat) ≤ 1000000000000 := hq1
        have HT := hide hcT
        have HX := hide hx
        have hlB := hE.blt
        have hfz := hE.frozen
        have hcell := hE.cell
        obtain ⟨rfl, rfl⟩ : cs = [.int .i64 x.id, .int .i64 x.until_] ∧ G = [] := hE.M
        have hc0 : wr.cell? ⟨B, i * 2, none⟩ = some (.int .i64 x.id) := hcell 0 _ rfl
        have hc1 : wr.cell? ⟨B, i * 2 + 1, none⟩ = some (.int .i64 x.until_) := hcell 1 _ rfl
        have E0 := hide hE
        clear HR hcell hcT hcL hx hrow hE hq1
        go_wp2_with fail
        have E1 := hide (E0.out.put HN.out 0 (.int .i64 (q)) ({ x with id := (q) }) (by decide) fun _ => ⟨rfl, rfl⟩)
        have E2 := hide (E1.out.put HN.out 1 (.int .i64 (q + 1)) ({ x with id := (q), until_ := (q + 1) }) (by decide) fun _ => ⟨rfl, rfl⟩)
        obtain ⟨cur', css', hrow'⟩ := E2.out.row
        simp only [List.set_set] at hrow'
        have hmk : { x with id := (q), until_ := (q + 1) } = mkBan q x := rfl
        have hmx : (mixed cntBan mkBan k xs i).set i (mkBan q x) = mixed cntBan mkBan k xs (i + 1) := by rw [HQ.out]; exact mixed_set k xs i HX.out
        rw [hmk, hmx] at hrow'
        go_roundg (xs.length - (i + 1))
        case measure => omega
        case rel =>
          refine ⟨i + 1, q + 1 + 1, by omega, by omega, rfl, by go_num, by omega, hide (by have h1 := HQ.out; have h2 := HT.out; have h3 : cntBan x = 2 := rfl; rw [h2]; omega), hide ⟨cur', css', hrow'⟩, hide ?_⟩
          exact ((((HW.out).setCell (.inl (by simp)) _)).setCell (.inl (by simp)) _)
      · have : i = xs.length := by omega
        subst this
        go_wp2
        go_ret
        obtain ⟨cur, css, hrow⟩ := HR.out
        rw [mixed_all] at hrow
        have hq := HQ.out
        rw [List.take_length] at hq
        refine ⟨by rw [← hq]; rfl, ?_, HW.out⟩
        have hS := hrow.M
        rwa [markAll_len] at hS
set_option maxHeartbeats 4000000 in
set_option maxRecDepth 100000 in
theorem heldBanS_c (v : Value) (xs : List Ban) (k : Int) (w : World) (h : SliceK banD w v xs) (h0 : 0 ≤ k) (h1 : k + cntAll cntBan xs ≤ 1000000000000) :
    Calls Tryz.prog 49 #[v, .int .i64 k] w fun e w' => e = .returned (.int .i64 (heldAll cntBan mkBan k xs)) ∧ Below w.heap.size w w' := by
  obtain ⟨A, c, rfl, hl, hm, hra⟩ := h
  have HA := hide hra
  clear hra
  go_enter Tryz.func49, Tryz.ntmps49
  go_wp2
  go_loopg [1, 5] xs.length (fun gg s1 s5 wr => ∃ (i : Nat) (q : Int), i ≤ xs.length ∧ xs.length - i ≤ gg ∧ s1 = .int .i64 q ∧ s5 = .int .i64 i ∧ 0 ≤ q ∧ Hid (q = k + cntAll cntBan (xs.take i)) ∧ Hid (xs.take i = (markAll cntBan mkBan k xs).take i) ∧ Hid (Below w.heap.size w wr))
  case atStart => exact ⟨0, k, Nat.zero_le _, by omega, rfl, rfl, h0, hide (by simp [cntAll]), rfl, Below.refl _ _⟩
  case round =>
    obtain ⟨i, q, hi, hg, rfl, rfl, hq0, HQ, HT, HB⟩ := hrel
    by_cases hlt : i < xs.length
    · obtain ⟨x, hx⟩ : ∃ x, xs[i]? = some x := ⟨_, List.getElem?_eq_getElem hlt⟩
      rcases HA.out with rfl | ⟨p, o, rfl, hra⟩
      · simp at hlt
      obtain ⟨p, hc0, hc1⟩ := ban_at hra HB.out hx
      have hcT := cntAll_take (cnt := cntBan) xs i x hx
      have hcL := cntAll_le (cnt := cntBan) xs (i + 1)
      have hq1 : q + cntBan x ≤ 1000000000000 := by have := HQ.out; omega
      have hq2 : q + (2 : Nat) ≤ 1000000000000 := hq1
      have HcT := hide hcT
      have HX := hide hx
      clear hx hra HA hcT hcL hq1 
      go_wp2
      all_goals first
      | (
         go_roundg (xs.length - (i + 1))
         case measure => omega
         case rel =>
           have hB : heldBanB q x = true := by simp only [heldBanB, decide_true, decide_false, Bool.not_true, Bool.not_false, Bool.and_false, Bool.false_and, Bool.and_true, Bool.true_and, *]
           have hE := (heldBanB_iff hq0 x).1 hB
           have hQ := HQ.out
           exact ⟨i + 1, q + cntBan x, by omega, by omega, (int_congr (by unfold cntBan; omega)), by go_num, by omega, hide (by rw [HcT.out, hQ]; omega), hide (by rw [List.take_add_one, List.take_add_one, HX.out, HT.out, markAll_get _ _ _ _ HX.out, ← hQ, ← hE]), HB⟩)
      | (
         have hB : heldBanB q x = false := by simp only [heldBanB, decide_true, decide_false, Bool.not_true, Bool.not_false, Bool.and_false, Bool.false_and, Bool.and_true, Bool.true_and, *]
         have hE : ¬ x = mkBan q x := fun e => by rw [(heldBanB_iff hq0 x).2 e] at hB; cases hB
         rw [HQ.out] at hE
         go_ret
         exact ⟨by rw [heldAll_neg HX.out hE]; rfl, HB.out⟩)
    · have : i = xs.length := by omega
      subst this
      go_wp2
      go_ret
      have hq := HQ.out
      rw [List.take_length] at hq
      exact ⟨by rw [heldAll_pos HT.out, ← hq]; rfl, HB.out⟩
/-! ### Room -/
def sizeRoom (x : Room) : Nat := x.members.length + x.invites.length + x.bans.length
def fewRoom (x : Room) : Prop := x.members.length ≤ 1048576 ∧ x.invites.length ≤ 1048576 ∧ x.bans.length ≤ 1048576
def eqRoomB (a b : Room) : Bool := !(!(a.open_ == b.open_)) && !(!(decide (a.members = b.members))) && !(!(decide (a.invites = b.invites))) && !(!(decide (a.bans = b.bans)))
theorem eqRoomB_iff (a b : Room) : eqRoomB a b = true ↔ a = b := by
  cases a; cases b
  simp [eqRoomB, bytes_eq, and_assoc]
theorem eqRoomB_eq (a b : Room) : eqRoomB a b = decide (a = b) := by
  rw [Bool.eq_iff_iff, eqRoomB_iff, decide_eq_true_iff]
set_option maxHeartbeats 2000000 in
theorem eqRoom_c (x y : Room) (v1 v2 v3 u1 u2 u3 : Value) (w : World) (h1 : SliceK memberD w v1 x.members) (h2 : SliceK inviteD w v2 x.invites) (h3 : SliceK banD w v3 x.bans) (g1 : SliceK memberD w u1 y.members) (g2 : SliceK inviteD w u2 y.invites) (g3 : SliceK banD w u3 y.bans) :
    Calls Tryz.prog 10 #[.agg #[.bool x.open_, v1, v2, v3], .agg #[.bool y.open_, u1, u2, u3]] w fun e w' => e = .returned (.bool (eqRoomB x y)) ∧ Below w.heap.size w w' := by
  have H1 := hide h1
  have G1 := hide g1
  have H2 := hide h2
  have G2 := hide g2
  have H3 := hide h3
  have G3 := hide g3
  clear h1 g1 h2 g2 h3 g3
  have HB := hide (((Below.refl w.heap.size w).alloc (Nat.le_refl _) (.cells #[.bool x.open_, v1, v2, v3] 32)).alloc (by simp) (.cells #[.bool y.open_, u1, u2, u3] 32))
  go_enter Tryz.func10, Tryz.ntmps10
  go_wp2_with (first | (go_at_call 41; ((with_reducible refine (eqMemberS_c _ _ _ _ _ (H1.out.below HB.out) (G1.out.below HB.out)).mono ?_); rintro e w1 ⟨rfl, hb1⟩; have HN := hide (HB.out.trans (hb1.mono HB.out.size)); obtain ⟨hc, hf, hs⟩ := bcell hb1; have hz : w.heap.size + 1 < w1.heap.size := (by ((try simp only [World.size_alloc] at hs); omega)); have hy : w.heap.size < w1.heap.size := (by omega); clear hs hb1 HB; have HB := HN; clear HN)) | (go_at_call 42; ((with_reducible refine (eqInviteS_c _ _ _ _ _ (H2.out.below HB.out) (G2.out.below HB.out)).mono ?_); rintro e w1 ⟨rfl, hb1⟩; have HN := hide (HB.out.trans (hb1.mono HB.out.size)); obtain ⟨hc, hf, hs⟩ := bcell hb1; have hz : w.heap.size + 1 < w1.heap.size := (by ((try simp only [World.size_alloc] at hs); omega)); have hy : w.heap.size < w1.heap.size := (by omega); clear hs hb1 HB; have HB := HN; clear HN)) | (go_at_call 43; ((with_reducible refine (eqBanS_c _ _ _ _ _ (H3.out.below HB.out) (G3.out.below HB.out)).mono ?_); rintro e w1 ⟨rfl, hb1⟩; have HN := hide (HB.out.trans (hb1.mono HB.out.size)); obtain ⟨hc, hf, hs⟩ := bcell hb1; have hz : w.heap.size + 1 < w1.heap.size := (by ((try simp only [World.size_alloc] at hs); omega)); have hy : w.heap.size < w1.heap.size := (by omega); clear hs hb1 HB; have HB := HN; clear HN)))
  all_goals
    go_ret
    refine ⟨?_, HB.out⟩
    first
    | (rw [show eqRoomB x y = false from by simp only [eqRoomB, decide_true, decide_false, Bool.not_true, Bool.not_false, Bool.and_false, Bool.false_and, Bool.and_true, Bool.true_and, *]]; rfl)
    | (rw [show eqRoomB x y = true from by simp only [eqRoomB, decide_true, decide_false, Bool.not_true, Bool.not_false, Bool.and_false, Bool.false_and, Bool.and_true, Bool.true_and, *]]; rfl)
set_option maxHeartbeats 2000000 in
theorem toRoom_c (x : Room) (v1 v2 v3 : Value) (w : World) (h1 : SliceK memberD w v1 x.members) (h2 : SliceK inviteD w v2 x.invites) (h3 : SliceK banD w v3 x.bans) (hw : fewRoom x) :
    Calls Tryz.prog 8 #[.agg #[.bool x.open_, v1, v2, v3]] w (RetElem roomD w x) := by
  unfold fewRoom at hw
  obtain ⟨n1, n2, n3⟩ := hw
  have H1 := hide h1
  have H2 := hide h2
  have H3 := hide h3
  clear h1 h2 h3
  go_enter Tryz.func8, Tryz.ntmps8
  go_wp2_with fail
  refine (toMemberS_c _ x.members _ (H1.out.below ?hb0) n1).mono ?_
  case hb0 => exact ((((Below.refl _ _).alloc (Nat.le_refl _) _).alloc (by simp) _).alloc (by simp; omega) _)
  rintro e w1 ⟨v, rfl, hM, hb1⟩
  obtain ⟨A1, c1, rfl⟩ := hM.shape
  have HM0 := hide hM
  have HS0 := hide hb1
  have HB0 := hide (((((Below.refl _ _).alloc (Nat.le_refl _) _).alloc (by simp) _).alloc (by simp; omega) _).trans (hb1.mono (by simp; omega)) : Below w.heap.size w w1)
  obtain ⟨hc0, hf0, hs0⟩ := bcell hb1
  simp only [World.size_alloc, World.size_setCell] at hs0
  have hz0 : w.heap.size + 1 + 1 < w1.heap.size := by omega
  have hy0 : w.heap.size < w1.heap.size := by omega
  have hle0 : w.heap.size ≤ w1.heap.size := by omega
  have hx0 : w.heap.size + 1 < w1.heap.size := by omega
  clear hM hb1 hs0
  go_wp2_with fail
  refine (toInviteS_c _ x.invites _ (H2.out.below ?hb1) n2).mono ?_
  case hb1 => exact (HB0.out.trans (Chg.below (F := [w.heap.size + 1, w.heap.size + 1 + 1]) (by ((repeat (with_reducible refine Chg.setCell ?_ (.inl (by simp)) _)); exact Chg.refl _ _)) (by omega) (by intro k hk; simp at hk; omega)))
  rintro e w2 ⟨v, rfl, hM, hb1⟩
  obtain ⟨A2, c2, rfl⟩ := hM.shape
  have HM1 := hide hM
  have HS1 := hide hb1
  have HB1 := hide ((HB0.out.trans (Chg.below (F := [w.heap.size + 1, w.heap.size + 1 + 1]) (by ((repeat (with_reducible refine Chg.setCell ?_ (.inl (by simp)) _)); exact Chg.refl _ _)) (by omega) (by intro k hk; simp at hk; omega))).trans (hb1.mono (by simp; omega)) : Below w.heap.size w w2)
  obtain ⟨hc1, hf1, hs1⟩ := bcell hb1
  simp only [World.size_alloc, World.size_setCell] at hs1
  have hz1 : w.heap.size + 1 + 1 < w2.heap.size := by omega
  have hy1 : w.heap.size < w2.heap.size := by omega
  have hle1 : w1.heap.size ≤ w2.heap.size := by omega
  have hx1 : w.heap.size + 1 < w2.heap.size := by omega
  clear hM hb1 hs1
  go_wp2_with fail
  refine (toBanS_c _ x.bans _ (H3.out.below ?hb2) n3).mono ?_
  case hb2 => exact (HB1.out.trans (Chg.below (F := [w.heap.size + 1, w.heap.size + 1 + 1]) (by ((repeat (with_reducible refine Chg.setCell ?_ (.inl (by simp)) _)); exact Chg.refl _ _)) (by omega) (by intro k hk; simp at hk; omega)))
  rintro e w3 ⟨v, rfl, hM, hb1⟩
  obtain ⟨A3, c3, rfl⟩ := hM.shape
  have HM2 := hide hM
  have HS2 := hide hb1
  have HB2 := hide ((HB1.out.trans (Chg.below (F := [w.heap.size + 1, w.heap.size + 1 + 1]) (by ((repeat (with_reducible refine Chg.setCell ?_ (.inl (by simp)) _)); exact Chg.refl _ _)) (by omega) (by intro k hk; simp at hk; omega))).trans (hb1.mono (by simp; omega)) : Below w.heap.size w w3)
  obtain ⟨hc2, hf2, hs2⟩ := bcell hb1
  simp only [World.size_alloc, World.size_setCell] at hs2
  have hz2 : w.heap.size + 1 + 1 < w3.heap.size := by omega
  have hy2 : w.heap.size < w3.heap.size := by omega
  have hle2 : w2.heap.size ≤ w3.heap.size := by omega
  have hx2 : w.heap.size + 1 < w3.heap.size := by omega
  clear hM hb1 hs2
  go_wp2_with fail
  have HZ : Hid (∀ wz, Chg [w.heap.size + 1, w.heap.size + 1 + 1] w3 wz → RetElem roomD w x (.returned (.agg #[.bool x.open_, .slice A1 x.members.length c1, .slice A2 x.invites.length c2, .slice A3 x.bans.length c3])) wz) := by
    intro wz hch
    have c0_ : Chg [w.heap.size + 1, w.heap.size + 1 + 1] w1 wz := ((Chg.trans (b := _) (by ((repeat (with_reducible refine Chg.setCell ?_ (.inl (by simp)) _)); exact Chg.refl _ _)) (Chg.of_below HS1.out [w.heap.size + 1, w.heap.size + 1 + 1])).trans ((Chg.trans (b := _) (by ((repeat (with_reducible refine Chg.setCell ?_ (.inl (by simp)) _)); exact Chg.refl _ _)) (Chg.of_below HS2.out [w.heap.size + 1, w.heap.size + 1 + 1])).trans hch))
    obtain ⟨F1, hm1, hn1, hF1⟩ := HM0.out
    have hl1 := hm1.lt
    have m1 := hm1.move fun b hb => c0_.block b (hl1 b hb) (by intro hg; have := hF1 b hb; simp at this hg; omega)
    have c1_ : Chg [w.heap.size + 1, w.heap.size + 1 + 1] w2 wz := ((Chg.trans (b := _) (by ((repeat (with_reducible refine Chg.setCell ?_ (.inl (by simp)) _)); exact Chg.refl _ _)) (Chg.of_below HS2.out [w.heap.size + 1, w.heap.size + 1 + 1])).trans hch)
    obtain ⟨F2, hm2, hn2, hF2⟩ := HM1.out
    have hl2 := hm2.lt
    have m2 := hm2.move fun b hb => c1_.block b (hl2 b hb) (by intro hg; have := hF2 b hb; simp at this hg; omega)
    have c2_ : Chg [w.heap.size + 1, w.heap.size + 1 + 1] w3 wz := hch
    obtain ⟨F3, hm3, hn3, hF3⟩ := HM2.out
    have hl3 := hm3.lt
    have m3 := hm3.move fun b hb => c2_.block b (hl3 b hb) (by intro hg; have := hF3 b hb; simp at this hg; omega)
    refine ⟨_, F1 ++ (F2 ++ F3), rfl, room_M_mk m1 m2 m3, (nodup_app (m := w1.heap.size) hn1 (nodup_app (m := w2.heap.size) hn2 hn3 hl2 (by intro b hb; have := hF3 b hb; simp at this; omega)) hl1 (by intro b hb; simp only [List.mem_append] at hb; rcases hb with hb | hb <;> (first | (have := hF2 b hb; simp at this; omega) | (have := hF3 b hb; simp at this; omega)))), ?_, ?_⟩
    · intro b hb; simp only [List.mem_append] at hb; rcases hb with hb | hb | hb <;> (first | (have := hF1 b hb; simp at this; omega) | (have := hF2 b hb; simp at this; omega) | (have := hF3 b hb; simp at this; omega))
    · exact HB2.out.trans (hch.below (by omega) (by intro k hk; simp at hk; omega))
  refine bodyPost_ret (v := .agg #[.bool x.open_, .slice A1 x.members.length c1, .slice A2 x.invites.length c2, .slice A3 x.bans.length c3]) (by simp [results, Tryz.results8, go_sem, hc0, hz0, hy0, hx0, hc1, hz1, hy1, hx1, hc2, hz2, hy2, hx2]) rfl (HZ.out _ ?_)
  repeat (with_reducible refine Chg.setCell ?_ (.inl (by simp)) _)
  exact Chg.refl _ _
set_option maxHeartbeats 2000000 in
theorem szRoom_c (x : Room) (v1 v2 v3 : Value) (left : Int) (w : World) (h1 : SliceK memberD w v1 x.members) (h2 : SliceK inviteD w v2 x.invites) (h3 : SliceK banD w v3 x.bans) (b0 : 0 ≤ left) (b1 : left ≤ 1048576) :
    Calls Tryz.prog 6 #[.agg #[.bool x.open_, v1, v2, v3], .int .i64 left] w fun e w' => RetSz left (sizeRoom x) e ∧ Below w.heap.size w w' := by
  have H1 := hide h1
  have H2 := hide h2
  have H3 := hide h3
  clear h1 h2 h3
  have HB := hide ((Below.refl w.heap.size w).alloc (Nat.le_refl _) (.cells #[.bool x.open_, v1, v2, v3] 26))
  go_enter Tryz.func6, Tryz.ntmps6
  go_wp2_with (first | (go_at_call 17; ((with_reducible refine (szMemberS_c _ x.members _ _ (H1.out.below HB.out) (by omega) (by omega)).mono ?_); rintro e w1 ⟨⟨r1, rfl, hr1⟩, hb1⟩; have hd1 := szR_bd hr1 (by omega); have R1 := hide hr1; have HN := hide (HB.out.trans (hb1.mono HB.out.size)); obtain ⟨hc, hf, hs⟩ := bcell hb1; have hy : w.heap.size < w1.heap.size := (by ((try simp only [World.size_alloc] at hs); omega)); clear hs hb1 HB hr1; have HB := HN; clear HN)) | (go_at_call 18; ((with_reducible refine (szInviteS_c _ x.invites _ _ (H2.out.below HB.out) (by omega) (by omega)).mono ?_); rintro e w1 ⟨⟨r2, rfl, hr2⟩, hb1⟩; have hd2 := szR_bd hr2 (by omega); have R2 := hide hr2; have HN := hide (HB.out.trans (hb1.mono HB.out.size)); obtain ⟨hc, hf, hs⟩ := bcell hb1; have hy : w.heap.size < w1.heap.size := (by ((try simp only [World.size_alloc] at hs); omega)); clear hs hb1 HB hr2; have HB := HN; clear HN)) | (go_at_call 19; ((with_reducible refine (szBanS_c _ x.bans _ _ (H3.out.below HB.out) (by omega) (by omega)).mono ?_); rintro e w1 ⟨⟨r3, rfl, hr3⟩, hb1⟩; have hd3 := szR_bd hr3 (by omega); have R3 := hide hr3; have HN := hide (HB.out.trans (hb1.mono HB.out.size)); obtain ⟨hc, hf, hs⟩ := bcell hb1; have hy : w.heap.size < w1.heap.size := (by ((try simp only [World.size_alloc] at hs); omega)); clear hs hb1 HB hr3; have HB := HN; clear HN)))
  all_goals
    go_ret
    refine ⟨⟨_, rfl, ?_⟩, HB.out⟩
    try have e1 := szR_spec R1.out (by omega)
    try have e2 := szR_spec R2.out (by omega)
    try have e3 := szR_spec R3.out (by omega)
    unfold szR sizeRoom
    split <;> omega
def tcntRoom (x : Room) : Nat := cntAll cntMember x.members + cntAll cntInvite x.invites + cntAll cntBan x.bans
def tmkRoom (k : Int) (x : Room) : Room := { x with members := markAll cntMember mkMember (k) x.members, invites := markAll cntInvite mkInvite (k + cntAll cntMember x.members) x.invites, bans := markAll cntBan mkBan (k + cntAll cntMember x.members + cntAll cntInvite x.invites) x.bans }
theorem tcntRoom_mk (k : Int) (x : Room) : tcntRoom (tmkRoom k x) = tcntRoom x := by simp [tcntRoom, tmkRoom, marks_len, cntAll_mark cntMember_mk, markAll_mark cntMember_mk mkMember_mk, cntAll_mark cntInvite_mk, markAll_mark cntInvite_mk mkInvite_mk, cntAll_mark cntBan_mk, markAll_mark cntBan_mk mkBan_mk, marks_len]
theorem tmkRoom_mk (k : Int) (x : Room) : tmkRoom k (tmkRoom k x) = tmkRoom k x := by simp [tmkRoom, marks_len, cntAll_mark cntMember_mk, markAll_mark cntMember_mk mkMember_mk, cntAll_mark cntInvite_mk, markAll_mark cntInvite_mk mkInvite_mk, cntAll_mark cntBan_mk, markAll_mark cntBan_mk mkBan_mk, marks_len]
def theldRoom (k : Int) (x : Room) : Int := if x = tmkRoom k x then k + tcntRoom x else -1
theorem theldRoom_nn {k : Int} (h : 0 ≤ k) (x : Room) : theldRoom k x < 0 ↔ ¬ x = tmkRoom k x := by
  unfold theldRoom; split
  · rename_i h1; constructor
    · intro h2; omega
    · intro h2; exact absurd h1 h2
  · rename_i h1; exact ⟨fun _ => h1, fun _ => by omega⟩
theorem theldRoom_mk (k : Int) (x : Room) : theldRoom k (tmkRoom k x) = k + tcntRoom x := by
  unfold theldRoom
  rw [if_pos (tmkRoom_mk k x).symm, tcntRoom_mk]
set_option maxHeartbeats 4000000 in
theorem markRoom_c (x : Room) (cs : List Value) (F : List Nat) (k : Int) (w : World) (h : roomD.M w x cs F) (hn : F.Nodup) (h0 : 0 ≤ k) (h1 : k + tcntRoom x ≤ 1000000000000) :
    Calls Tryz.prog 11 #[.agg cs.toArray, .int .i64 k] w (RetMarkT roomD w (tcntRoom x) (tmkRoom k x) cs F k) := by
  unfold tcntRoom at h1
  obtain ⟨v1, v2, v3, F1, F2, F3, rfl, rfl, g1, g2, g3⟩ := room_M h
  have hnn := hn
  simp only [List.nodup_append, List.mem_append] at hnn
  have HN := hide hn
  have HNN := hide hnn
  clear h hn hnn
  have M1 := hide g1
  have M2 := hide g2
  have M3 := hide g3
  clear g1 g2 g3
  have LT1 := hide (fun b hb => M1.out.lt b hb : ∀ b ∈ F1, b < w.heap.size)
  have LT2 := hide (fun b hb => M2.out.lt b hb : ∀ b ∈ F2, b < w.heap.size)
  have LT3 := hide (fun b hb => M3.out.lt b hb : ∀ b ∈ F3, b < w.heap.size)
  have HC := hide ((Chg.refl (F1 ++ (F2 ++ F3)) w).alloc (.cells #[.bool x.open_, v1, v2, v3] 32))
  have HB := hide (Below.refl w.heap.size w |>.alloc (Nat.le_refl _) (.cells #[.bool x.open_, v1, v2, v3] 32))
  have M1 := hide (M1.out.move (fun b hb => HB.out.block b (M1.out.lt b hb)))
  have M2 := hide (M2.out.move (fun b hb => HB.out.block b (M2.out.lt b hb)))
  have M3 := hide (M3.out.move (fun b hb => HB.out.block b (M3.out.lt b hb)))
  go_enter Tryz.func11, Tryz.ntmps11
  go_wp2_with fail
  refine (markMemberS_c _ x.members _ _ _ M1.out (HNN.out.1) (by omega) (by omega)).mono ?_
  rintro e w1 ⟨rfl, hMk, hCk⟩
  have HK1 := hide hCk
  have HC := hide (HC.out.trans (hCk.mono (fun b hb => .inl (by simp [hb]))))
  have N1 := hide hMk
  have M2 := hide (M2.out.move (fun b hb => hCk.block b (M2.out.lt b hb) (fun hb2 => HNN.out.2.2 _ hb2 _ (.inl hb) rfl)))
  have M3 := hide (M3.out.move (fun b hb => hCk.block b (M3.out.lt b hb) (fun hb2 => HNN.out.2.2 _ hb2 _ (.inr hb) rfl)))
  clear hMk hCk
  have hbx1 : ∀ o, w1.cell? ⟨w.heap.size, o, none⟩ = (w.alloc (.cells #[.bool x.open_, v1, v2, v3] 32)).cell? ⟨w.heap.size, o, none⟩ := fun o => World.cell?_of_block (HK1.out.block w.heap.size (by simp) (fun hb => absurd (LT1.out _ hb) (by omega)))
  have hsz1 : w.heap.size < w1.heap.size := by have := HK1.out.size; simp only [World.size_alloc] at this; omega
  go_wp2_with fail
  refine (markInviteS_c _ x.invites _ _ _ M2.out (HNN.out.2.1.1) (by omega) (by omega)).mono ?_
  rintro e w2 ⟨rfl, hMk, hCk⟩
  have HK2 := hide hCk
  have HC := hide (HC.out.trans (hCk.mono (fun b hb => .inl (by simp [hb]))))
  have N2 := hide hMk
  have N1 := hide (N1.out.move (fun b hb => hCk.block b (N1.out.lt b hb) (fun hb2 => HNN.out.2.2 _ hb _ (.inl hb2) rfl)))
  have M3 := hide (M3.out.move (fun b hb => hCk.block b (M3.out.lt b hb) (fun hb2 => HNN.out.2.1.2.2 _ hb2 _ hb rfl)))
  clear hMk hCk
  have hbx2 : ∀ o, w2.cell? ⟨w.heap.size, o, none⟩ = w1.cell? ⟨w.heap.size, o, none⟩ := fun o => World.cell?_of_block (HK2.out.block w.heap.size hsz1 (fun hb => absurd (LT2.out _ hb) (by omega)))
  have hsz2 : w.heap.size < w2.heap.size := Nat.lt_of_lt_of_le hsz1 HK2.out.size
  go_wp2_with fail
  refine (markBanS_c _ x.bans _ _ _ M3.out (HNN.out.2.1.2.1) (by omega) (by omega)).mono ?_
  rintro e w3 ⟨rfl, hMk, hCk⟩
  have HK3 := hide hCk
  have HC := hide (HC.out.trans (hCk.mono (fun b hb => .inl (by simp [hb]))))
  have N3 := hide hMk
  have N1 := hide (N1.out.move (fun b hb => hCk.block b (N1.out.lt b hb) (fun hb2 => HNN.out.2.2 _ hb _ (.inr hb2) rfl)))
  have N2 := hide (N2.out.move (fun b hb => hCk.block b (N2.out.lt b hb) (fun hb2 => HNN.out.2.1.2.2 _ hb _ hb2 rfl)))
  clear hMk hCk
  go_wp2_with fail
  go_ret
  refine ⟨?_, room_M_mk (x := tmkRoom k x) N1.out N2.out N3.out, HC.out⟩
  simp only [tcntRoom]
  exact ret_int (by first | rfl | omega)
theorem tmkRoom_iff (k : Int) (x : Room) : x = tmkRoom k x ↔ x.members = markAll cntMember mkMember (k) x.members ∧ x.invites = markAll cntInvite mkInvite (k + cntAll cntMember x.members) x.invites ∧ x.bans = markAll cntBan mkBan (k + cntAll cntMember x.members + cntAll cntInvite x.invites) x.bans := by cases x; simp [tmkRoom]
theorem theldRoom_spec {k r : Int} {x : Room} (h : r = theldRoom k x) (h0 : 0 ≤ k) : (r = k + tcntRoom x ∧ x = tmkRoom k x) ∨ (r = -1 ∧ ¬ x = tmkRoom k x) := by
  subst h; unfold theldRoom; split
  · rename_i h1; exact .inl ⟨rfl, h1⟩
  · rename_i h1; exact .inr ⟨rfl, h1⟩
set_option maxHeartbeats 4000000 in
theorem heldRoom_c (x : Room) (v1 v2 v3 : Value) (k : Int) (w : World) (h1 : SliceK memberD w v1 x.members) (h2 : SliceK inviteD w v2 x.invites) (h3 : SliceK banD w v3 x.bans) (b0 : 0 ≤ k) (b1 : k + tcntRoom x ≤ 1000000000000) :
    Calls Tryz.prog 12 #[.agg #[.bool x.open_, v1, v2, v3], .int .i64 k] w fun e w' => e = .returned (.int .i64 (theldRoom k x)) ∧ Below w.heap.size w w' := by
  unfold tcntRoom at b1
  have H1 := hide h1
  have H2 := hide h2
  have H3 := hide h3
  clear h1 h2 h3
  have HB := hide ((Below.refl w.heap.size w).alloc (Nat.le_refl _) (.cells #[.bool x.open_, v1, v2, v3] 32))
  go_enter Tryz.func12, Tryz.ntmps12
  go_wp2_with (first | (go_at_call 47; ((with_reducible refine (heldMemberS_c _ x.members _ _ (H1.out.below HB.out) (by omega) (by omega)).mono ?_); rintro e w1 ⟨rfl, hb1⟩; have HN := hide (HB.out.trans (hb1.mono HB.out.size)); obtain ⟨hc, hf, hs⟩ := bcell hb1; have hy : w.heap.size < w1.heap.size := (by ((try simp only [World.size_alloc] at hs); omega)); clear hs hb1 HB; have HB := HN; clear HN; obtain ⟨r0, hr0⟩ : ∃ r, r = heldAll cntMember mkMember (k) x.members := ⟨_, rfl⟩; rw [← hr0]; have hd0 : -1 ≤ r0 ∧ r0 ≤ k + cntAll cntMember x.members := (by rcases heldAll_spec hr0 (by omega) with h | h <;> omega); have R0 := hide hr0; clear hr0)) | (go_at_call 48; ((with_reducible refine (heldInviteS_c _ x.invites _ _ (H2.out.below HB.out) (by omega) (by omega)).mono ?_); rintro e w1 ⟨rfl, hb1⟩; have HN := hide (HB.out.trans (hb1.mono HB.out.size)); obtain ⟨hc, hf, hs⟩ := bcell hb1; have hy : w.heap.size < w1.heap.size := (by ((try simp only [World.size_alloc] at hs); omega)); clear hs hb1 HB; have HB := HN; clear HN; obtain ⟨r1, hr1⟩ : ∃ r, r = heldAll cntInvite mkInvite (r0) x.invites := ⟨_, rfl⟩; rw [← hr1]; have hd1 : -1 ≤ r1 ∧ r1 ≤ r0 + cntAll cntInvite x.invites := (by rcases heldAll_spec hr1 (by omega) with h | h <;> omega); have R1 := hide hr1; clear hr1)) | (go_at_call 49; ((with_reducible refine (heldBanS_c _ x.bans _ _ (H3.out.below HB.out) (by omega) (by omega)).mono ?_); rintro e w1 ⟨rfl, hb1⟩; have HN := hide (HB.out.trans (hb1.mono HB.out.size)); obtain ⟨hc, hf, hs⟩ := bcell hb1; have hy : w.heap.size < w1.heap.size := (by ((try simp only [World.size_alloc] at hs); omega)); clear hs hb1 HB; have HB := HN; clear HN; obtain ⟨r2, hr2⟩ : ∃ r, r = heldAll cntBan mkBan (r1) x.bans := ⟨_, rfl⟩; rw [← hr2]; have hd2 : -1 ≤ r2 ∧ r2 ≤ r1 + cntAll cntBan x.bans := (by rcases heldAll_spec hr2 (by omega) with h | h <;> omega); have R2 := hide hr2; clear hr2)))
  · go_ret
    refine ⟨?_, HB.out⟩
    have s0 := heldAll_spec R0.out (by omega)
    have hne : ¬ x = tmkRoom k x := fun hx => by
      have hx2 := (tmkRoom_iff k x).1 hx
      rcases s0 with ⟨e0, m0⟩ | ⟨e0, m0⟩
      · omega
      · exact m0 hx2.1
    rw [show theldRoom k x = -1 from if_neg hne]
    rfl
  · go_ret
    refine ⟨?_, HB.out⟩
    have s0 := heldAll_spec R0.out (by omega)
    have s1 := heldAll_spec R1.out (by omega)
    rcases s0 with ⟨e0, m0⟩ | ⟨e0, _⟩
    case inr => omega
    rw [e0] at s1
    have hne : ¬ x = tmkRoom k x := fun hx => by
      have hx2 := (tmkRoom_iff k x).1 hx
      rcases s1 with ⟨e1, m1⟩ | ⟨e1, m1⟩
      · omega
      · exact m1 hx2.2.1
    rw [show theldRoom k x = -1 from if_neg hne]
    rfl
  · go_ret
    refine ⟨?_, HB.out⟩
    have s0 := heldAll_spec R0.out (by omega)
    have s1 := heldAll_spec R1.out (by omega)
    have s2 := heldAll_spec R2.out (by omega)
    rcases s0 with ⟨e0, m0⟩ | ⟨e0, _⟩
    case inr => omega
    rw [e0] at s1
    rcases s1 with ⟨e1, m1⟩ | ⟨e1, _⟩
    case inr => omega
    rw [e1] at s2
    have hne : ¬ x = tmkRoom k x := fun hx => by
      have hx2 := (tmkRoom_iff k x).1 hx
      rcases s2 with ⟨e2, m2⟩ | ⟨e2, m2⟩
      · omega
      · exact m2 hx2.2.2
    rw [show theldRoom k x = -1 from if_neg hne]
    rfl
  · go_ret
    refine ⟨?_, HB.out⟩
    have s0 := heldAll_spec R0.out (by omega)
    have s1 := heldAll_spec R1.out (by omega)
    have s2 := heldAll_spec R2.out (by omega)
    rcases s0 with ⟨e0, m0⟩ | ⟨e0, _⟩
    case inr => omega
    rw [e0] at s1
    rcases s1 with ⟨e1, m1⟩ | ⟨e1, _⟩
    case inr => omega
    rw [e1] at s2
    rcases s2 with ⟨e2, m2⟩ | ⟨e2, _⟩
    case inr => omega
    have hx : x = tmkRoom k x := (tmkRoom_iff k x).2 ⟨m0, m1, m2⟩
    rw [show theldRoom k x = r2 from by unfold theldRoom tcntRoom; rw [if_pos hx]; omega]
    rfl
end Go.Proofs.YtnglccgbenlbjaaGreat
namespace Go.Proofs.YtnglccgbenlbjaaGreat
open Go Go.RowKit
set_option linter.unusedVariables false
set_option linter.unusedSimpArgs false

theorem sizeMemberI : ∃ i, Tryz.prog.info? 54 = some i := by
  obtain ⟨i, hi, _⟩ := info_parts infoMember; exact ⟨i, hi⟩
theorem eqlNilMember (A : Option Addr) (n c : Nat) (w : World) : (binOp .eql 28 (.slice A n c) (.slice none 0 0)).run Tryz.prog w = .ok (.bool A.isNone) w := Go.Lib.run_eql_slice_nil w _ _ A n c 0 0 Tryz.underlying28
attribute [local go_sem] eqlNilMember
set_option maxHeartbeats 1000000 in
theorem cloneMember_c (v : Value) (l : List Member) (w : World) (h : SliceK memberD w v l) (hlen : l.length ≤ 1048576) :
    Calls Tryz.prog 91 #[v] w (RetMade memberD 54 w l) := by
  obtain ⟨A, c, rfl, hl, hm, hra⟩ := h
  have HA := hide hra
  clear hra
  by_cases h0 : l = []
  · subst h0
    obtain ⟨i, hi⟩ := sizeMemberI
    cases A with
    | none =>
      go_enter Tryz.func91, Tryz.ntmps91
      go_wp2_with fail
      go_ret
      exact ⟨_, rfl, ⟨[], .inl ⟨rfl, rfl, rfl⟩, by simp, by simp⟩, Below.refl _ _⟩
    | some a =>
      go_enter Tryz.func91, Tryz.ntmps91
      go_wp2_with (at_builtin
                   refine wpList_app0 _ rfl _ _ _ _ rfl i Tryz.underlying28 hi _ _ _ (Nat.le_refl _) rfl _ _ rfl ?_)
      go_ret
      exact ⟨_, rfl, ⟨_, emptyM _, by simp, by simp⟩, (Below.refl _ _).alloc (Nat.le_refl _) _⟩
  · have hp : 0 < l.length := List.length_pos_iff.2 h0
    rcases HA.out with hnil | ⟨b, o, rfl, hr⟩
    · exact absurd hnil h0
    have HR := hide hr
    clear hr HA h0
    go_enter Tryz.func91, Tryz.ntmps91
    go_wp2_with (at_builtin
                 refine wpList_app_flat _ rfl _ _ _ rfl (.agg #[(.int .i64 0), (.int .i64 0), (.int .i64 0), (.int .i64 0)]) 32 Tryz.underlying28 infoMember rfl (by omega) (by omega) _ [] _ rfl (emptyM _) (by simp) _ _ _ l rfl (HR.out.below ((Below.refl _ _).alloc (Nat.le_refl _) _)) hp (by simpa using hlen) ?_
                 intro g2 cap2 w2 F2 hap
                 have HAP := hide hap
                 clear hap)
    go_ret
    have hap := HAP.out
    simp only [List.length_nil, Nat.zero_add, List.nil_append] at hap
    refine ⟨_, rfl, ⟨F2, (by have h := hap.m; exact h), hap.nodup, fun x hx => ?_⟩, ((Below.refl _ _).alloc (Nat.le_refl _) _).trans (hap.chg.below (by simp) (by simp))⟩
    rcases hap.from_ x hx with h | h | h
    · simp at h; omega
    · simp at h
    · rw [h]; simp
theorem sizeInviteI : ∃ i, Tryz.prog.info? 49 = some i := by
  obtain ⟨i, hi, _⟩ := info_parts infoInvite; exact ⟨i, hi⟩
theorem eqlNilInvite (A : Option Addr) (n c : Nat) (w : World) : (binOp .eql 29 (.slice A n c) (.slice none 0 0)).run Tryz.prog w = .ok (.bool A.isNone) w := Go.Lib.run_eql_slice_nil w _ _ A n c 0 0 Tryz.underlying29
attribute [local go_sem] eqlNilInvite
set_option maxHeartbeats 1000000 in
theorem cloneInvite_c (v : Value) (l : List Invite) (w : World) (h : SliceK inviteD w v l) (hlen : l.length ≤ 1048576) :
    Calls Tryz.prog 92 #[v] w (RetMade inviteD 49 w l) := by
  obtain ⟨A, c, rfl, hl, hm, hra⟩ := h
  have HA := hide hra
  clear hra
  by_cases h0 : l = []
  · subst h0
    obtain ⟨i, hi⟩ := sizeInviteI
    cases A with
    | none =>
      go_enter Tryz.func92, Tryz.ntmps92
      go_wp2_with fail
      go_ret
      exact ⟨_, rfl, ⟨[], .inl ⟨rfl, rfl, rfl⟩, by simp, by simp⟩, Below.refl _ _⟩
    | some a =>
      go_enter Tryz.func92, Tryz.ntmps92
      go_wp2_with (at_builtin
                   refine wpList_app0 _ rfl _ _ _ _ rfl i Tryz.underlying29 hi _ _ _ (Nat.le_refl _) rfl _ _ rfl ?_)
      go_ret
      exact ⟨_, rfl, ⟨_, emptyM _, by simp, by simp⟩, (Below.refl _ _).alloc (Nat.le_refl _) _⟩
  · have hp : 0 < l.length := List.length_pos_iff.2 h0
    rcases HA.out with hnil | ⟨b, o, rfl, hr⟩
    · exact absurd hnil h0
    have HR := hide hr
    clear hr HA h0
    go_enter Tryz.func92, Tryz.ntmps92
    go_wp2_with (at_builtin
                 refine wpList_app_flat _ rfl _ _ _ rfl (.agg #[(.int .i64 0), (.int .i64 0), (.int .i64 0)]) 24 Tryz.underlying29 infoInvite rfl (by omega) (by omega) _ [] _ rfl (emptyM _) (by simp) _ _ _ l rfl (HR.out.below ((Below.refl _ _).alloc (Nat.le_refl _) _)) hp (by simpa using hlen) ?_
                 intro g2 cap2 w2 F2 hap
                 have HAP := hide hap
                 clear hap)
    go_ret
    have hap := HAP.out
    simp only [List.length_nil, Nat.zero_add, List.nil_append] at hap
    refine ⟨_, rfl, ⟨F2, (by have h := hap.m; exact h), hap.nodup, fun x hx => ?_⟩, ((Below.refl _ _).alloc (Nat.le_refl _) _).trans (hap.chg.below (by simp) (by simp))⟩
    rcases hap.from_ x hx with h | h | h
    · simp at h; omega
    · simp at h
    · rw [h]; simp
theorem sizeBanI : ∃ i, Tryz.prog.info? 73 = some i := by
  obtain ⟨i, hi, _⟩ := info_parts infoBan; exact ⟨i, hi⟩
theorem eqlNilBan (A : Option Addr) (n c : Nat) (w : World) : (binOp .eql 30 (.slice A n c) (.slice none 0 0)).run Tryz.prog w = .ok (.bool A.isNone) w := Go.Lib.run_eql_slice_nil w _ _ A n c 0 0 Tryz.underlying30
attribute [local go_sem] eqlNilBan
set_option maxHeartbeats 1000000 in
theorem cloneBan_c (v : Value) (l : List Ban) (w : World) (h : SliceK banD w v l) (hlen : l.length ≤ 1048576) :
    Calls Tryz.prog 93 #[v] w (RetMade banD 73 w l) := by
  obtain ⟨A, c, rfl, hl, hm, hra⟩ := h
  have HA := hide hra
  clear hra
  by_cases h0 : l = []
  · subst h0
    obtain ⟨i, hi⟩ := sizeBanI
    cases A with
    | none =>
      go_enter Tryz.func93, Tryz.ntmps93
      go_wp2_with fail
      go_ret
      exact ⟨_, rfl, ⟨[], .inl ⟨rfl, rfl, rfl⟩, by simp, by simp⟩, Below.refl _ _⟩
    | some a =>
      go_enter Tryz.func93, Tryz.ntmps93
      go_wp2_with (at_builtin
                   refine wpList_app0 _ rfl _ _ _ _ rfl i Tryz.underlying30 hi _ _ _ (Nat.le_refl _) rfl _ _ rfl ?_)
      go_ret
      exact ⟨_, rfl, ⟨_, emptyM _, by simp, by simp⟩, (Below.refl _ _).alloc (Nat.le_refl _) _⟩
  · have hp : 0 < l.length := List.length_pos_iff.2 h0
    rcases HA.out with hnil | ⟨b, o, rfl, hr⟩
    · exact absurd hnil h0
    have HR := hide hr
    clear hr HA h0
    go_enter Tryz.func93, Tryz.ntmps93
    go_wp2_with (at_builtin
                 refine wpList_app_flat _ rfl _ _ _ rfl (.agg #[(.int .i64 0), (.int .i64 0)]) 16 Tryz.underlying30 infoBan rfl (by omega) (by omega) _ [] _ rfl (emptyM _) (by simp) _ _ _ l rfl (HR.out.below ((Below.refl _ _).alloc (Nat.le_refl _) _)) hp (by simpa using hlen) ?_
                 intro g2 cap2 w2 F2 hap
                 have HAP := hide hap
                 clear hap)
    go_ret
    have hap := HAP.out
    simp only [List.length_nil, Nat.zero_add, List.nil_append] at hap
    refine ⟨_, rfl, ⟨F2, (by have h := hap.m; exact h), hap.nodup, fun x hx => ?_⟩, ((Below.refl _ _).alloc (Nat.le_refl _) _).trans (hap.chg.below (by simp) (by simp))⟩
    rcases hap.from_ x hx with h | h | h
    · simp at h; omega
    · simp at h
    · rw [h]; simp
end Go.Proofs.YtnglccgbenlbjaaGreat
namespace Go.Proofs.YtnglccgbenlbjaaGreat
open Go Go.RowKit
set_option linter.unusedVariables false
set_option linter.unusedSimpArgs false

def idIs (n : Int) (m : Member) : Bool := decide (m.id = n)
def invIs (n : Int) (v : Invite) : Bool := decide (v.id = n)
def banIs (n : Int) (b : Ban) : Bool := decide (b.id = n)
def hasId (r : Room) (n : Int) : Bool := decide (0 ≤ idxP (idIs n) r.members)
def invd (r : Room) (n : Int) : Bool := decide (0 ≤ idxP (invIs n) r.invites)
def memOkB (m : Member) : Bool := inB m.id 1 1000 && inB m.role 0 3 && inB m.since 0 1000000 && inB m.quiet 0 1000000
def memF (m : Member) (p : Option Member) : Bool := memOkB m && match p with | none => true | some q => decide (q.id < m.id)
def invOkB (r : Room) (v : Invite) : Bool := inB v.id 1 1000 && inB v.by_ 1 1000 && inB v.until_ 0 1000000 && !hasId r v.id
def invF (r : Room) (v : Invite) (p : Option Invite) : Bool := invOkB r v && match p with | none => true | some q => decide (q.id < v.id)
def banOkB (r : Room) (b : Ban) : Bool := inB b.id 1 1000 && inB b.until_ 0 1000000 && !hasId r b.id && !invd r b.id
def banF (r : Room) (b : Ban) (p : Option Ban) : Bool := banOkB r b && match p with | none => true | some q => decide (q.id < b.id)
def ownB (ms : List Member) : Bool := ms.any fun m => decide (m.role = 3)
/-- A valid room. -/
def validRoomB (r : Room) : Bool :=
  decide (1 ≤ (r.members.length : Int)) && decide ((r.members.length : Int) ≤ 32) && decide ((r.invites.length : Int) ≤ 16) && decide ((r.bans.length : Int) ≤ 16)
    && adjB memF none r.members && adjB (invF r) none r.invites && adjB (banF r) none r.bans && ownB r.members
theorem memF_no {m : Member} {p : Option Member} (h : memOkB m = false) : memF m p = false := by simp [memF, h]
theorem memF_none {m : Member} (h : memOkB m = true) : memF m none = true := by simp [memF, h]
theorem memF_some {m q : Member} (h : memOkB m = true) (h2 : q.id < m.id) : memF m (some q) = true := by simp [memF, h, h2]
theorem memF_ord {m q : Member} (h2 : m.id ≤ q.id) : memF m (some q) = false := by simp [memF]; intro _; omega
theorem invF_no {r : Room} {m : Invite} {p : Option Invite} (h : invOkB r m = false) : invF r m p = false := by simp [invF, h]
theorem invF_none {r : Room} {m : Invite} (h : invOkB r m = true) : invF r m none = true := by simp [invF, h]
theorem invF_some {r : Room} {m q : Invite} (h : invOkB r m = true) (h2 : q.id < m.id) : invF r m (some q) = true := by simp [invF, h, h2]
theorem invF_ord {r : Room} {m q : Invite} (h2 : m.id ≤ q.id) : invF r m (some q) = false := by simp [invF]; intro _; omega
theorem banF_no {r : Room} {m : Ban} {p : Option Ban} (h : banOkB r m = false) : banF r m p = false := by simp [banF, h]
theorem banF_none {r : Room} {m : Ban} (h : banOkB r m = true) : banF r m none = true := by simp [banF, h]
theorem banF_some {r : Room} {m q : Ban} (h : banOkB r m = true) (h2 : q.id < m.id) : banF r m (some q) = true := by simp [banF, h, h2]
theorem banF_ord {r : Room} {m q : Ban} (h2 : m.id ≤ q.id) : banF r m (some q) = false := by simp [banF]; intro _; omega
theorem hasId_iff (r : Room) (n : Int) : hasId r n = decide (0 ≤ idxP (idIs n) r.members) := rfl
/-- How many members have each role. -/
def roleN (ms : List Member) (i : Int) : Int := ((ms.filter fun m => decide (m.role = i)).length : Int)
def rolesL (ms : List Member) : List Int := [roleN ms 0, roleN ms 1, roleN ms 2, roleN ms 3]
theorem roleN_nn (ms : List Member) (i : Int) : 0 ≤ roleN ms i ∧ roleN ms i ≤ ms.length := by
  unfold roleN
  have := List.length_filter_le (fun m : Member => decide (m.role = i)) ms
  omega
theorem roleN_own (ms : List Member) : decide (0 < roleN ms 3) = ownB ms := by
  unfold roleN ownB
  induction ms with
  | nil => simp
  | cons m ms ih =>
    rw [List.any_cons]
    by_cases h : m.role = 3
    · rw [List.filter_cons_of_pos (by simpa using h)]
      simp [h]
    · rw [List.filter_cons_of_neg (by simpa using h), ih]
      simp [h]
theorem roleN_step {ms : List Member} {k : Nat} {m : Member} (hx : ms[k]? = some m) (i : Int) : roleN (ms.take (k + 1)) i = roleN (ms.take k) i + if m.role = i then 1 else 0 := by
  obtain ⟨hk, he⟩ := List.getElem?_eq_some_iff.1 hx
  unfold roleN
  rw [List.take_succ_eq_append_getElem hk, List.filter_append, he, List.length_append]
  by_cases h : m.role = i
  · rw [if_pos h, List.filter_cons_of_pos (by simpa using h)]; simp
  · rw [if_neg h, List.filter_cons_of_neg (by simpa using h)]; simp
end Go.Proofs.YtnglccgbenlbjaaGreat
namespace Go.Proofs.YtnglccgbenlbjaaGreat
open Go Go.RowKit
set_option linter.unusedVariables false
set_option linter.unusedSimpArgs false

def limI (role : Int) : Int := if role = 0 then 1 else if role = 1 then 3 else if role = 2 then 6 else 8
/-- What a role may do. -/
def mayB (role act : Int) : Bool := inB role 0 3 && decide (0 ≤ act) && decide (act ≤ limI role)
theorem may_role {role act : Int} (h : inB role 0 3 = false) : mayB role act = false := by simp [mayB, h]
theorem lim_bd (role : Int) : 1 ≤ limI role ∧ limI role ≤ 8 := by
  unfold limI; (repeat' split) <;> omega
theorem may_neg {role act : Int} (h : act < 0) : mayB role act = false := by
  simp only [mayB, Bool.and_eq_false_iff, decide_eq_false_iff_not]; exact .inl (.inr (by omega))
theorem may_big {role act : Int} (h : 8 < act) : mayB role act = false := by
  have := lim_bd role
  simp only [mayB, Bool.and_eq_false_iff, decide_eq_false_iff_not]; exact .inr (by omega)
theorem may_in {role act : Int} (h : inB role 0 3 = true) (h0 : 0 ≤ act) : mayB role act = decide (act ≤ limI role) := by
  simp [mayB, h, h0]
theorem may_1 {role act : Int} (h : inB role 0 3 = true) (h0 : 0 ≤ act) (h1 : act ≤ 1) : mayB role act = true := by
  have := lim_bd role
  rw [may_in h h0, decide_eq_true_eq]; omega
theorem may_3 {role act : Int} (h : inB role 0 3 = true) (h0 : 1 < act) (h1 : act ≤ 3) : mayB role act = decide (1 ≤ role) := by
  have := inB_iff.1 h
  rw [may_in h (by omega), decide_eq_decide]
  unfold limI; (repeat' split) <;> omega
theorem may_6 {role act : Int} (h : inB role 0 3 = true) (h0 : 3 < act) (h1 : act ≤ 6) : mayB role act = decide (2 ≤ role) := by
  have := inB_iff.1 h
  rw [may_in h (by omega), decide_eq_decide]
  unfold limI; (repeat' split) <;> omega
theorem may_8 {role act : Int} (h : inB role 0 3 = true) (h0 : 6 < act) (h1 : act ≤ 8) : mayB role act = decide (role = 3) := by
  have := inB_iff.1 h
  rw [may_in h (by omega), decide_eq_decide]
  unfold limI; (repeat' split) <;> omega
/-- What a member of a room may do. -/
def allowB (r : Room) (n act a : Int) : Bool := match r.members.find? (idIs n) with
  | none => false
  | some m => inB a 0 1000000 && (mayB m.role act && (decide (m.quiet ≤ a) || decide (act = 0)))
theorem idx_find {α : Type} {p : α → Bool} {ms : List α} {k : Nat} {m : α} (h : idxP p ms = (k : Int)) (hk : ms[k]? = some m) : ms.find? p = some m := by
  unfold idxP at h
  rcases hf : ms.findIdx? p with _ | j
  · rw [hf] at h; simp at h
  · rw [hf] at h
    obtain rfl : j = k := by simp at h; omega
    rw [List.findIdx?_eq_some_iff_getElem] at hf
    obtain ⟨hl, h1, h2⟩ := hf
    rw [List.getElem?_eq_getElem hl, Option.some.injEq] at hk
    subst hk
    rw [List.find?_eq_some_iff_getElem]
    exact ⟨h1, j, hl, rfl, fun i hi => by simpa using h2 i hi⟩
theorem idx_none {α : Type} {p : α → Bool} {ms : List α} (h : idxP p ms < 0) : ms.find? p = none := by
  unfold idxP at h
  rcases hf : ms.findIdx? p with _ | j
  · rw [List.findIdx?_eq_none_iff] at hf
    rw [List.find?_eq_none]
    intro x hx; simp [hf x hx]
  · rw [hf] at h; simp at h; omega
theorem allow_none {r : Room} {n act a : Int} (h : idxP (idIs n) r.members < 0) : allowB r n act a = false := by simp [allowB, idx_none h]
theorem allow_at {r : Room} {n act a : Int} {k : Nat} {m : Member} (h : idxP (idIs n) r.members = (k : Int)) (hk : r.members[k]? = some m) : allowB r n act a = (inB a 0 1000000 && (mayB m.role act && (decide (m.quiet ≤ a) || decide (act = 0)))) := by
  simp [allowB, idx_find h hk]
def isAllowed (r : Room) (n act a : Int) : Bool := validRoomB r && allowB r n act a
end Go.Proofs.YtnglccgbenlbjaaGreat
namespace Go.Proofs.YtnglccgbenlbjaaGreat
open Go Go.RowKit Go.ChangeShapes Go.WideShapes Go.Deep
set_option linter.unusedVariables false

theorem opens_member : Opens Tryz.prog memberD (fun _ => True) 78 := by
  intro H enc W held fuel cs y h
  obtain ⟨hl, hf⟩ := open_fields Tryz.underlying78 (by kernel_rfl) (by kernel_rfl) h
  obtain ⟨v0, n0, z0, c0, t0⟩ := hf 0 _ rfl
  obtain ⟨v1, n1, z1, c1, t1⟩ := hf 1 _ rfl
  obtain ⟨v2, n2, z2, c2, t2⟩ := hf 2 _ rfl
  obtain ⟨v3, n3, z3, c3, t3⟩ := hf 3 _ rfl
  obtain ⟨x0, hx0, -, -⟩ := DataW.trod_int Tryz.underlying2 t0
  obtain ⟨x1, hx1, -, -⟩ := DataW.trod_int Tryz.underlying2 t1
  obtain ⟨x2, hx2, -, -⟩ := DataW.trod_int Tryz.underlying2 t2
  obtain ⟨x3, hx3, -, -⟩ := DataW.trod_int Tryz.underlying2 t3
  simp only [List.cons.injEq, and_true] at hx0 hx1 hx2 hx3
  subst hx0 hx1 hx2 hx3
  match cs, hl with
  | [_, _, _, _], _ =>
    simp at c0 c1 c2 c3
    subst c0 c1 c2 c3
    exact ⟨⟨x0, x1, x2, x3⟩, rfl, trivial⟩
theorem opens_invite : Opens Tryz.prog inviteD (fun _ => True) 80 := by
  intro H enc W held fuel cs y h
  obtain ⟨hl, hf⟩ := open_fields Tryz.underlying80 (by kernel_rfl) (by kernel_rfl) h
  obtain ⟨v0, n0, z0, c0, t0⟩ := hf 0 _ rfl
  obtain ⟨v1, n1, z1, c1, t1⟩ := hf 1 _ rfl
  obtain ⟨v2, n2, z2, c2, t2⟩ := hf 2 _ rfl
  obtain ⟨x0, hx0, -, -⟩ := DataW.trod_int Tryz.underlying2 t0
  obtain ⟨x1, hx1, -, -⟩ := DataW.trod_int Tryz.underlying2 t1
  obtain ⟨x2, hx2, -, -⟩ := DataW.trod_int Tryz.underlying2 t2
  simp only [List.cons.injEq, and_true] at hx0 hx1 hx2
  subst hx0 hx1 hx2
  match cs, hl with
  | [_, _, _], _ =>
    simp at c0 c1 c2
    subst c0 c1 c2
    exact ⟨⟨x0, x1, x2⟩, rfl, trivial⟩
theorem opens_ban : Opens Tryz.prog banD (fun _ => True) 82 := by
  intro H enc W held fuel cs y h
  obtain ⟨hl, hf⟩ := open_fields Tryz.underlying82 (by kernel_rfl) (by kernel_rfl) h
  obtain ⟨v0, n0, z0, c0, t0⟩ := hf 0 _ rfl
  obtain ⟨v1, n1, z1, c1, t1⟩ := hf 1 _ rfl
  obtain ⟨x0, hx0, -, -⟩ := DataW.trod_int Tryz.underlying2 t0
  obtain ⟨x1, hx1, -, -⟩ := DataW.trod_int Tryz.underlying2 t1
  simp only [List.cons.injEq, and_true] at hx0 hx1
  subst hx0 hx1
  match cs, hl with
  | [_, _], _ =>
    simp at c0 c1
    subst c0 c1
    exact ⟨⟨x0, x1⟩, rfl, trivial⟩
set_option maxRecDepth 100000 in
theorem open_room {H : Type} {enc : TypeId × Value → H} {W : World} {held : Bool} {b0 : Nat} {v : Value} {d : DataW H} {ps : List MemPlace} (hv : Value.okWide Tryz.prog W .any b0 26 v)
    (h : DataW.Trod enc Tryz.prog W 0 (fun _ => true) held 26 v d ps) : ∃ (x : Room) (v1 v2 v3 : Value), v = .agg #[.bool x.open_, v1, v2, v3] ∧ SliceK memberD W v1 x.members ∧ SliceK inviteD W v2 x.invites ∧ SliceK banD W v3 x.bans := by
  obtain ⟨cs, rfl, hsz⟩ := okWide_struct Tryz.underlying26 hv
  obtain ⟨fuel, h⟩ := h
  obtain ⟨hl, hf⟩ := open_fields Tryz.underlying26 (by kernel_rfl) (by kernel_rfl) h
  obtain ⟨v0, n0, z0, c0, t0⟩ := hf 0 _ rfl
  obtain ⟨v1, n1, z1, c1, t1⟩ := hf 1 _ rfl
  obtain ⟨v2, n2, z2, c2, t2⟩ := hf 2 _ rfl
  obtain ⟨v3, n3, z3, c3, t3⟩ := hf 3 _ rfl
  obtain ⟨x0, hx0, -⟩ := DataW.trod_bool Tryz.underlying4 t0
  obtain ⟨x1, hx1, -⟩ := opens_slice Tryz.underlying22 (by kernel_rfl) (by decide) opens_member H enc W held n1 v1 _ t1
  obtain ⟨x2, hx2, -⟩ := opens_slice Tryz.underlying23 (by kernel_rfl) (by decide) opens_invite H enc W held n2 v2 _ t2
  obtain ⟨x3, hx3, -⟩ := opens_slice Tryz.underlying24 (by kernel_rfl) (by decide) opens_ban H enc W held n3 v3 _ t3
  simp only [List.cons.injEq, and_true] at hx0
  subst hx0
  obtain ⟨l⟩ := cs
  simp only [Value.cells] at c0 c1 c2 c3 hl
  match l, hl with
  | [_, _, _, _], _ =>
    simp at c0 c1 c2 c3
    subst c0 c1 c2 c3
    exact ⟨⟨x0, x1, x2, x3⟩, _, _, _, rfl, hx1, hx2, hx3⟩
end Go.Proofs.YtnglccgbenlbjaaGreat
namespace Go.Proofs.YtnglccgbenlbjaaGreat
open Go Go.RowKit
set_option linter.unusedVariables false

theorem fewRoom_of {l : Room} (h : sizeRoom l ≤ 1048576) : fewRoom l := by
  unfold sizeRoom at h
  exact ⟨by omega, by omega, by omega⟩
theorem cntAll_const {α : Type} {cnt : α → Nat} {c : Nat} (h : ∀ x, cnt x = c) : ∀ xs : List α, cntAll cnt xs = c * xs.length
  | [] => by simp [cntAll]
  | x :: xs => by rw [cntAll, h, cntAll_const h xs, List.length_cons, Nat.mul_add]; omega
theorem tcntRoom_le (l : Room) : tcntRoom l ≤ 4 * sizeRoom l := by
  have h1 := cntAll_const (cnt := cntMember) (c := 4) (fun _ => rfl) l.members
  have h2 := cntAll_const (cnt := cntInvite) (c := 3) (fun _ => rfl) l.invites
  have h3 := cntAll_const (cnt := cntBan) (c := 2) (fun _ => rfl) l.bans
  unfold tcntRoom sizeRoom; omega
theorem room_MK {w : World} {x : Room} {v1 v2 v3 : Value} {F : List Nat} (h : roomD.M w x [.bool x.open_, v1, v2, v3] F) : SliceK memberD w v1 x.members ∧ SliceK inviteD w v2 x.invites ∧ SliceK banD w v3 x.bans := by
  obtain ⟨u1, u2, u3, h1, h2, h3, h4⟩ := room_K (roomD.M_K h)
  simp only [List.cons.injEq, and_true, true_and] at h1
  obtain ⟨rfl, rfl, rfl⟩ := h1
  exact ⟨h2, h3, h4⟩
end Go.Proofs.YtnglccgbenlbjaaGreat
namespace Go.Proofs.YtnglccgbenlbjaaGreat
open Go Go.RowKit
set_option linter.unusedVariables false
set_option linter.unusedSimpArgs false

theorem adj_pair {α : Type} (key : α → Int) (ok : α → Bool) (F : α → Option α → Bool) (h0 : ∀ x, F x none = ok x) (h1 : ∀ x y, F x (some y) = (ok x && decide (key y < key x))) :
    ∀ (l : List α) (p : Option α), adjB F p l = true ↔ (∀ x ∈ l, ok x = true) ∧ l.Pairwise (fun x y => key x < key y) ∧ (∀ q, p = some q → ∀ x ∈ l, key q < key x)
  | [], p => by simp [adjB]
  | x :: l, p => by
    rw [adjB, Bool.and_eq_true, adj_pair key ok F h0 h1 l (some x), List.pairwise_cons]
    constructor
    · rintro ⟨h2, h3, h4, h5⟩
      have hx : ok x = true := by
        cases p with
        | none => rw [h0] at h2; exact h2
        | some q => rw [h1, Bool.and_eq_true] at h2; exact h2.1
      refine ⟨fun y hy => ?_, ⟨fun y hy => h5 x rfl y hy, h4⟩, fun q hq y hy => ?_⟩
      · rcases List.mem_cons.1 hy with rfl | hy
        · exact hx
        · exact h3 y hy
      · subst hq
        rw [h1, Bool.and_eq_true, decide_eq_true_eq] at h2
        rcases List.mem_cons.1 hy with rfl | hy
        · exact h2.2
        · exact Int.lt_trans h2.2 (h5 x rfl y hy)
    · rintro ⟨h3, ⟨h5, h4⟩, h6⟩
      refine ⟨?_, fun y hy => h3 y (List.mem_cons_of_mem _ hy), h4, fun q hq y hy => ?_⟩
      · cases p with
        | none => rw [h0]; exact h3 x List.mem_cons_self
        | some q => rw [h1, Bool.and_eq_true, decide_eq_true_eq]; exact ⟨h3 x List.mem_cons_self, h6 q rfl x List.mem_cons_self⟩
      · cases hq; exact h5 y hy
theorem hasId_true {r : Room} {n : Int} : hasId r n = true ↔ ∃ m ∈ r.members, m.id = n := by
  unfold hasId
  rw [decide_eq_true_eq]
  constructor
  · intro h
    obtain ⟨k, m, _, _, h1, h2⟩ := idxP_found h
    exact ⟨m, List.mem_of_getElem? h1, by simpa [idIs] using h2⟩
  · rintro ⟨m, hm, rfl⟩
    rcases idxP_cases (idIs m.id) r.members with h | ⟨k, x, h, _⟩
    · exfalso
      unfold idxP at h
      rcases hf : r.members.findIdx? (idIs m.id) with _ | k
      · rw [List.findIdx?_eq_none_iff] at hf
        have := hf m hm
        simp [idIs] at this
      · rw [hf] at h; simp at h <;> omega
    · omega
theorem invd_true {r : Room} {n : Int} : invd r n = true ↔ ∃ m ∈ r.invites, m.id = n := by
  unfold invd
  rw [decide_eq_true_eq]
  constructor
  · intro h
    obtain ⟨k, m, _, _, h1, h2⟩ := idxP_found h
    exact ⟨m, List.mem_of_getElem? h1, by simpa [invIs] using h2⟩
  · rintro ⟨m, hm, rfl⟩
    rcases idxP_cases (invIs m.id) r.invites with h | ⟨k, x, h, _⟩
    · exfalso
      unfold idxP at h
      rcases hf : r.invites.findIdx? (invIs m.id) with _ | k
      · rw [List.findIdx?_eq_none_iff] at hf
        have := hf m hm
        simp [invIs] at this
      · rw [hf] at h; simp at h <;> omega
    · omega
/-- A valid room, told plainly. -/
structure VRoom (r : Room) : Prop where
  m1 : 1 ≤ r.members.length
  m32 : r.members.length ≤ 32
  i16 : r.invites.length ≤ 16
  b16 : r.bans.length ≤ 16
  mok : ∀ m ∈ r.members, memOkB m = true
  mp : r.members.Pairwise fun x y => x.id < y.id
  iok : ∀ v ∈ r.invites, invOkB r v = true
  ip : r.invites.Pairwise fun x y => x.id < y.id
  bok : ∀ b ∈ r.bans, banOkB r b = true
  bp : r.bans.Pairwise fun x y => x.id < y.id
  own : ownB r.members = true
theorem valid_iff {r : Room} : validRoomB r = true ↔ VRoom r := by
  have e1 := adj_pair Member.id memOkB memF (fun x => by simp [memF]) (fun x y => by simp [memF]) r.members none
  have e2 := adj_pair Invite.id (invOkB r) (invF r) (fun x => by simp [invF]) (fun x y => by simp [invF]) r.invites none
  have e3 := adj_pair Ban.id (banOkB r) (banF r) (fun x => by simp [banF]) (fun x y => by simp [banF]) r.bans none
  simp only [validRoomB, Bool.and_eq_true, decide_eq_true_eq, e1, e2, e3]
  constructor
  · rintro ⟨⟨⟨⟨⟨⟨⟨h1, h2⟩, h3⟩, h4⟩, a1, a2, _⟩, b1, b2, _⟩, c1, c2, _⟩, h5⟩
    exact ⟨by omega, by omega, by omega, by omega, a1, a2, b1, b2, c1, c2, h5⟩
  · rintro ⟨h1, h2, h3, h4, a1, a2, b1, b2, c1, c2, h5⟩
    exact ⟨⟨⟨⟨⟨⟨⟨by omega, by omega⟩, by omega⟩, by omega⟩, a1, a2, by simp⟩, b1, b2, by simp⟩, c1, c2, by simp⟩, h5⟩
end Go.Proofs.YtnglccgbenlbjaaGreat
