/- The Go structs of the part Post as Lean structures, and how they lie in cells. The laws' own helpers on the structs of the part Post. A post that comes from without, read as plain data. What the laws over posts share. -/
import Derived.Test.YtdmhjfajicclaaaRGround
import Derived.StillTailTactics
import Derived.Deep.RegionWith
namespace Go.Proofs.Ytdmhjfajicclaaa
open Go Go.RowKit
set_option linter.unusedVariables false
set_option linter.unusedSimpArgs false

/-! ### Parcel -/
structure Parcel where
  room : Int
  number : Int
  deriving DecidableEq, Inhabited
def parcelD : Dt Parcel := Dt.flat 2 (fun x : Parcel => [.int .i64 x.room, .int .i64 x.number]) (fun _ => rfl) (fun x u hu => by simp at hu; rcases hu with rfl | rfl <;> rfl)
theorem parcel_at {w W : World} {b o j : Nat} {xs : List Parcel} {x : Parcel} (h : RowAt parcelD w b o xs) (hb : Below w.heap.size w W) (hj : xs[j]? = some x) : b < W.heap.size ∧ W.cell? ⟨b, o + j * 2, none⟩ = some (.int .i64 x.room) ∧ W.cell? ⟨b, o + j * 2 + 1, none⟩ = some (.int .i64 x.number) := by
  obtain ⟨cs, hk, hc⟩ := (h.below hb) j x hj
  obtain rfl : cs = [.int .i64 x.room, .int .i64 x.number] := hk
  have hc : ∀ i u, ([.int .i64 x.room, .int .i64 x.number] : List Value)[i]? = some u → W.cell? ⟨b, o + j * 2 + i, none⟩ = some u := hc
  exact ⟨World.block_lt_of_cell? W _ (hc 0 _ rfl), hc 0 _ rfl, hc 1 _ rfl⟩

/-! ### Box -/
structure Box where
  token : ByteArray
  member : Int
  missed : Int
  held : List Parcel
  deriving DecidableEq, Inhabited
def boxD : Dt Box := Dt.cat (Dt.flat 3 (fun x : Box => [.string x.token, .int .i64 x.member, .int .i64 x.missed]) (fun _ => rfl) (fun x u hu => by simp at hu; rcases hu with rfl | rfl | rfl <;> rfl)) ((Dt.slice 68 parcelD).iso (fun x : Box => x.held))
theorem box_K {w : World} {x : Box} {cs : List Value} (h : boxD.K w x cs) : ∃ v3, cs = [.string x.token, .int .i64 x.member, .int .i64 x.missed, v3] ∧ SliceK parcelD w v3 x.held := by
  obtain ⟨_, _, rfl, rfl, ⟨v3, rfl, h3⟩⟩ := h
  exact ⟨v3, rfl, h3⟩
theorem box_K_mk {w : World} {x : Box} {v3 : Value} (h3 : SliceK parcelD w v3 x.held) : boxD.K w x [.string x.token, .int .i64 x.member, .int .i64 x.missed, v3] := by
  exact ⟨_, _, rfl, rfl, ⟨v3, rfl, h3⟩⟩
theorem box_M {w : World} {x : Box} {cs : List Value} {F : List Nat} (h : boxD.M w x cs F) : ∃ v3 F3, cs = [.string x.token, .int .i64 x.member, .int .i64 x.missed, v3] ∧ F = F3 ∧ SliceM parcelD 68 w v3 x.held F3 := by
  obtain ⟨_, _, _, F3, rfl, rfl, ⟨rfl, rfl⟩, ⟨v3, rfl, h3⟩⟩ := h
  exact ⟨v3, F3, rfl, by simp, h3⟩
theorem box_M_mk {w : World} {x : Box} {v3 : Value} {F3 : List Nat} (h3 : SliceM parcelD 68 w v3 x.held F3) : boxD.M w x [.string x.token, .int .i64 x.member, .int .i64 x.missed, v3] (F3) := by
  exact ⟨_, _, [], F3, rfl, by simp, ⟨rfl, rfl⟩, ⟨v3, rfl, h3⟩⟩
theorem box_at {w W : World} {b o j : Nat} {xs : List Box} {x : Box} (h : RowAt boxD w b o xs) (hb : Below w.heap.size w W) (hj : xs[j]? = some x) : ∃ v3, SliceK parcelD W v3 x.held ∧ b < W.heap.size ∧ W.cell? ⟨b, o + j * 4, none⟩ = some (.string x.token) ∧ W.cell? ⟨b, o + j * 4 + 1, none⟩ = some (.int .i64 x.member) ∧ W.cell? ⟨b, o + j * 4 + 2, none⟩ = some (.int .i64 x.missed) ∧ W.cell? ⟨b, o + j * 4 + 3, none⟩ = some (v3) := by
  obtain ⟨cs, hk, hc⟩ := (h.below hb) j x hj
  obtain ⟨v3, rfl, h3⟩ := box_K hk
  have hc : ∀ i u, ([.string x.token, .int .i64 x.member, .int .i64 x.missed, v3] : List Value)[i]? = some u → W.cell? ⟨b, o + j * 4 + i, none⟩ = some u := hc
  exact ⟨v3, h3, World.block_lt_of_cell? W _ (hc 0 _ rfl), hc 0 _ rfl, hc 1 _ rfl, hc 2 _ rfl, hc 3 _ rfl⟩

/-! ### Post -/
structure Post where
  limit : Int
  boxes : List Box
  deriving DecidableEq, Inhabited
def postD : Dt Post := Dt.cat (Dt.flat 1 (fun x : Post => [.int .i64 x.limit]) (fun _ => rfl) (fun x u hu => by simp at hu; subst hu; rfl)) ((Dt.slice 53 boxD).iso (fun x : Post => x.boxes))
theorem post_K {w : World} {x : Post} {cs : List Value} (h : postD.K w x cs) : ∃ v1, cs = [.int .i64 x.limit, v1] ∧ SliceK boxD w v1 x.boxes := by
  obtain ⟨_, _, rfl, rfl, ⟨v1, rfl, h1⟩⟩ := h
  exact ⟨v1, rfl, h1⟩
theorem post_K_mk {w : World} {x : Post} {v1 : Value} (h1 : SliceK boxD w v1 x.boxes) : postD.K w x [.int .i64 x.limit, v1] := by
  exact ⟨_, _, rfl, rfl, ⟨v1, rfl, h1⟩⟩
theorem post_M {w : World} {x : Post} {cs : List Value} {F : List Nat} (h : postD.M w x cs F) : ∃ v1 F1, cs = [.int .i64 x.limit, v1] ∧ F = F1 ∧ SliceM boxD 53 w v1 x.boxes F1 := by
  obtain ⟨_, _, _, F1, rfl, rfl, ⟨rfl, rfl⟩, ⟨v1, rfl, h1⟩⟩ := h
  exact ⟨v1, F1, rfl, by simp, h1⟩
theorem post_M_mk {w : World} {x : Post} {v1 : Value} {F1 : List Nat} (h1 : SliceM boxD 53 w v1 x.boxes F1) : postD.M w x [.int .i64 x.limit, v1] (F1) := by
  exact ⟨_, _, [], F1, rfl, by simp, ⟨rfl, rfl⟩, ⟨v1, rfl, h1⟩⟩
theorem post_at {w W : World} {b o j : Nat} {xs : List Post} {x : Post} (h : RowAt postD w b o xs) (hb : Below w.heap.size w W) (hj : xs[j]? = some x) : ∃ v1, SliceK boxD W v1 x.boxes ∧ b < W.heap.size ∧ W.cell? ⟨b, o + j * 2, none⟩ = some (.int .i64 x.limit) ∧ W.cell? ⟨b, o + j * 2 + 1, none⟩ = some (v1) := by
  obtain ⟨cs, hk, hc⟩ := (h.below hb) j x hj
  obtain ⟨v1, rfl, h1⟩ := post_K hk
  have hc : ∀ i u, ([.int .i64 x.limit, v1] : List Value)[i]? = some u → W.cell? ⟨b, o + j * 2 + i, none⟩ = some u := hc
  exact ⟨v1, h1, World.block_lt_of_cell? W _ (hc 0 _ rfl), hc 0 _ rfl, hc 1 _ rfl⟩
end Go.Proofs.Ytdmhjfajicclaaa
namespace Go.Proofs.Ytdmhjfajicclaaa
open Go Go.RowKit
set_option linter.unusedVariables false
set_option linter.unusedSimpArgs false

/-! ### Parcel -/
def eqParcelB (a b : Parcel) : Bool := !(a.room != b.room) && !(a.number != b.number)
theorem eqParcelB_iff (a b : Parcel) : eqParcelB a b = true ↔ a = b := by
  cases a; cases b
  simp [eqParcelB, bytes_eq, and_assoc]
theorem eqParcelB_eq (a b : Parcel) : eqParcelB a b = decide (a = b) := by
  rw [Bool.eq_iff_iff, eqParcelB_iff, decide_eq_true_iff]
set_option maxHeartbeats 2000000 in
theorem eqParcel_c (x y : Parcel) (w : World) :
    Calls Try.prog 42 #[.agg #[.int .i64 x.room, .int .i64 x.number], .agg #[.int .i64 y.room, .int .i64 y.number]] w fun e w' => e = .returned (.bool (eqParcelB x y)) ∧ Below w.heap.size w w' := by
  have HB := hide (((Below.refl w.heap.size w).alloc (Nat.le_refl _) (.cells #[.int .i64 x.room, .int .i64 x.number] 68)).alloc (by simp) (.cells #[.int .i64 y.room, .int .i64 y.number] 68))
  go_enter Try.func42, Try.ntmps42
  go_wp2
  all_goals
    go_ret
    refine ⟨?_, HB.out⟩
    first
    | (rw [show eqParcelB x y = false from by simp only [eqParcelB, decide_true, decide_false, Bool.not_true, Bool.not_false, Bool.and_false, Bool.false_and, Bool.and_true, Bool.true_and, *]]; rfl)
    | (rw [show eqParcelB x y = true from by simp only [eqParcelB, decide_true, decide_false, Bool.not_true, Bool.not_false, Bool.and_false, Bool.false_and, Bool.and_true, Bool.true_and, *]]; rfl)
set_option maxHeartbeats 2000000 in
set_option maxRecDepth 100000 in
theorem eqParcelS_c (va vb : Value) (a b : List Parcel) (w : World) (ha : SliceK parcelD w va a) (hb : SliceK parcelD w vb b) :
    Calls Try.prog 16 #[va, vb] w fun e w' => e = .returned (.bool (decide (a = b))) ∧ Below w.heap.size w w' := by
  obtain ⟨A, c, rfl, hl1, hm1, hra⟩ := ha
  obtain ⟨B, c', rfl, hl2, hm2, hrb⟩ := hb
  by_cases hlen : a.length = b.length
  · have hne : (((a.length : Nat) : Int) != ((b.length : Nat) : Int)) = false := by simp [hlen]
    have HL := hide hlen
    have HA := hide hra
    have HB := hide hrb
    clear hlen hra hrb
    go_enter Try.func16, Try.ntmps16
    go_wp2
    go_loopg [5] a.length (fun gg s5 wr => ∃ k : Nat, k ≤ a.length ∧ a.length - k ≤ gg ∧ s5 = .int .i64 k ∧ Hid (a.take k = b.take k) ∧ Hid (Below w.heap.size w wr))
    case atStart => exact ⟨0, Nat.zero_le _, by omega, rfl, rfl, Below.refl _ _⟩
    case round =>
      obtain ⟨k, hk, hg, rfl, HT, HW⟩ := hrel
      by_cases hlt : k < a.length
      · obtain ⟨x, hx⟩ : ∃ x, a[k]? = some x := ⟨_, List.getElem?_eq_getElem hlt⟩
        obtain ⟨y, hy⟩ : ∃ y, b[k]? = some y := ⟨_, List.getElem?_eq_getElem (by have := HL.out; omega)⟩
        have hkb : k < b.length := by have := HL.out; omega
        rcases HA.out with rfl | ⟨p, o, rfl, hra⟩
        · simp at hlt
        rcases HB.out with rfl | ⟨p', o', rfl, hrb⟩
        · simp at hkb
        obtain ⟨p, hc0, hc1⟩ := parcel_at hra HW.out hx
        obtain ⟨p', gc0, gc1⟩ := parcel_at hrb HW.out hy
        have HX := hide hx
        have HY := hide hy
        clear hx hy hra hrb HA HB 
        go_wp2
        go_still_tail 8, (by kernel_rfl)
        change wpList _ _ _ _ _ wr.drew
        go_wp2_with (go_at_call 42; refine (eqParcel_c x y  _  ).mono ?_; rintro e w1 ⟨rfl, hb1⟩; have H1 := hide (HW.out.drew.trans (hb1.mono (by simpa using HW.out.size))); clear hb1)
        · have hq : ¬ x = y := fun e => by rw [(eqParcelB_iff x y).2 e] at *; contradiction
          go_ret
          exact ⟨by rw [eqAll_pre HT.out HX.out HY.out hq]; rfl, H1.out⟩
        · have hq : eqParcelB x y = true := by simpa using ‹(!eqParcelB x y) = false›
          have HQ := hide ((eqParcelB_iff x y).1 hq)
          clear hq
          go_roundg (a.length - (k + 1))
          case measure => omega
          case rel => exact ⟨k + 1, by omega, by omega, by go_num, hide (by rw [List.take_add_one, List.take_add_one, HX.out, HY.out, HT.out, HQ.out]), H1⟩
      · have : k = a.length := by omega
        subst this
        go_wp2
        go_ret
        exact ⟨by rw [show decide (a = b) = true from by rw [decide_eq_true_iff]; have := HT.out; rw [List.take_length] at this; rw [this, HL.out, List.take_length]]; rfl, HW.out⟩
  · have hne : (((a.length : Nat) : Int) != ((b.length : Nat) : Int)) = true := by simp; omega
    have he : decide (a = b) = false := decide_eq_false (by rintro rfl; exact hlen rfl)
    have HE := hide he
    clear he hlen hra hrb
    go_enter Try.func16, Try.ntmps16
    go_wp2
    go_ret
    exact ⟨by rw [HE.out]; rfl, Below.refl _ _⟩
set_option maxHeartbeats 2000000 in
theorem toParcel_c (x : Parcel) (w : World) :
    Calls Try.prog 46 #[.agg #[.int .i64 x.room, .int .i64 x.number]] w (RetElem parcelD w x) := by
  go_enter Try.func46, Try.ntmps46
  go_wp2_with fail
  refine bodyPost_ret (v := .agg #[.int .i64 x.room, .int .i64 x.number]) (by simp [results, Try.results46, go_sem]) rfl ⟨_, [], rfl, ⟨rfl, rfl⟩, List.nodup_nil, by simp, ?_⟩
  repeat (first | exact Below.refl _ _ | refine Below.setCell ?_ (by simp <;> omega) _ | refine Below.alloc ?_ (by simp <;> omega) _)
theorem infoParcel : (Try.prog.info? 68).map (fun i => (i.zero, i.size, i.bytes)) = some (some (.agg #[(.int .i64 0), (.int .i64 0)]), 2, 16) := by kernel_rfl
set_option maxHeartbeats 2000000 in
set_option maxRecDepth 100000 in
theorem toParcelS_c (v : Value) (a : List Parcel) (w : World) (ha : SliceK parcelD w v a) (hn : a.length ≤ 1048576) :
    Calls Try.prog 21 #[v] w (RetMade parcelD 68 w a) := by
  obtain ⟨A, c, rfl, hl1, hm1, hra⟩ := ha
  have HA := hide hra
  have hmk := run_mk (P := Try.prog) 35 68 (.agg #[(.int .i64 0), (.int .i64 0)]) 2 16 Try.underlying35 infoParcel a.length (by omega) (by omega)
  clear hra
  go_enter Try.func21, Try.ntmps21
  go_wp2_with fail
  obtain ⟨B, hB⟩ : ∃ B, B = w.heap.size := ⟨_, rfl⟩
  have HBs := hide hB
  rw [← hB]
  have H0 : ∃ cur css Fs, Row parcelD 68 (w.alloc (Obj.cells (mkRow (.agg #[(.int .i64 0), (.int .i64 0)]) (a.length * 2)) 68)) B a.length cur css Fs (a.take 0) ∧ (B :: Fs.flatten).Nodup ∧ (∀ q ∈ B :: Fs.flatten, w.heap.size ≤ q) :=
    ⟨_, [], [], by rw [hB]; exact Row.start (d := parcelD) (by omega), by simp, by intro q hq; simp at hq; omega⟩
  have H0 := hide H0
  clear hB
  go_loopg [4] a.length (fun gg s4 wr => ∃ k : Nat, k ≤ a.length ∧ a.length - k ≤ gg ∧ s4 = .int .i64 k ∧ Hid (∃ cur css Fs, Row parcelD 68 wr B a.length cur css Fs (a.take k) ∧ (B :: Fs.flatten).Nodup ∧ (∀ q ∈ B :: Fs.flatten, w.heap.size ≤ q)) ∧ Hid (Below w.heap.size w wr))
  case atStart => exact ⟨0, Nat.zero_le _, by omega, rfl, H0, (Below.refl _ _).alloc (Nat.le_refl _) _⟩
  case round =>
    obtain ⟨k, hk, hg, rfl, HR, HW⟩ := hrel
    clear H0 hmk
    by_cases hlt : k < a.length
    · obtain ⟨x, hx⟩ : ∃ x, a[k]? = some x := ⟨_, List.getElem?_eq_getElem hlt⟩
      rcases HA.out with rfl | ⟨p, o, rfl, hra⟩
      · simp at hlt
      obtain ⟨p, hc0, hc1⟩ := parcel_at hra HW.out hx
      have HX := hide hx
      clear hx hra HA 
      go_wp2_with fail
      refine (toParcel_c x  _ ).mono ?_
      rintro e w1 ⟨cs, G, rfl, hm, hnd, hG, hb1⟩
      obtain ⟨cur, css, Fs, hrow, hnF, hgF⟩ := HR.out
      have HM := hide hm
      obtain ⟨rfl, rfl⟩ := hm
      have hsz : cur.size = a.length * 2 := hrow.size
      have hlB : B < wr.heap.size := block_lt hrow.blk
      have hblk1 : w1.heap[B]? = some (.cells cur 68 (0, 0)) := (hb1.block B hlB).trans hrow.blk
      have hfz : ∀ o, w1.frozen? ⟨B, o, none⟩ = false := fun o => frozen_block hblk1
      have hlB1 : B < w1.heap.size := block_lt hblk1
      obtain ⟨z0, hz0⟩ : ∃ z, w1.cell? ⟨B, k * 2, none⟩ = some z := ⟨cur[k * 2]'(by omega), by rw [cell_block hblk1]; exact Array.getElem?_eq_getElem (by omega)⟩
      obtain ⟨z1, hz1⟩ : ∃ z, w1.cell? ⟨B, k * 2 + 1, none⟩ = some z := ⟨cur[k * 2 + 1]'(by omega), by rw [cell_block hblk1]; exact Array.getElem?_eq_getElem (by omega)⟩
      have HC := hide (And.intro hrow (And.intro hnF (And.intro hgF (And.intro hnd (And.intro hG (And.intro hb1 hblk1))))))
      have HSZ := hide hsz
      clear HR hrow hnF hgF hnd hG hb1 hblk1 hlB hsz
      go_wp2_with fail
      obtain ⟨hrow, hnF, hgF, hnd, hG, hb1, hblk1⟩ := HC.out
      obtain ⟨cur', hcur', hlist'⟩ := putCells_block [.int .i64 x.room, .int .i64 x.number] w1 B (k * 2) hblk1
      have hBl : ∀ q ∈ B :: Fs.flatten, q < wr.heap.size := hrow.lt
      have htl : (a.take k).length = k := by rw [List.length_take]; omega
      go_roundg (a.length - (k + 1))
      case measure => omega
      case rel =>
        refine ⟨k + 1, by omega, by omega, by go_num, hide ⟨cur', css ++ [[.int .i64 x.room, .int .i64 x.number]], Fs ++ [([] : List Nat)], ?_, ?_, ?_⟩, hide ?_⟩
        · rw [List.take_add_one, HX.out]
          refine Row.snoc (w' := putCells w1 B (k * 2) [.int .i64 x.room, .int .i64 x.number]) hrow (by omega) (Dt.M_move _ (fun q hq => putCells_other _ _ _ _ ?_) HM.out) hcur' (by rw [htl]; exact hlist') (fun q hq => (putCells_other _ _ _ _ ?_).trans (hb1.block q (hBl q (List.mem_cons_of_mem _ hq))))
          · have := hG q hq; have := hBl B List.mem_cons_self; omega
          · intro e; subst e; exact (List.nodup_cons.1 hnF).1 hq
        · rw [List.flatten_append, List.flatten_singleton, ← List.cons_append]
          exact nodup_app hnF hnd hBl hG
        · intro q hq
          rw [List.flatten_append, List.flatten_singleton, ← List.cons_append, List.mem_append] at hq
          rcases hq with hq | hq
          · exact hgF q hq
          · exact Nat.le_trans HW.out.size (hG q hq)
        · exact putCells_below [.int .i64 x.room, .int .i64 x.number] B (k * 2) (HW.out.trans (hb1.mono HW.out.size)) (hgF B List.mem_cons_self)
    · have : k = a.length := by omega
      subst this
      go_wp2
      go_ret
      obtain ⟨cur, css, Fs, hrow, hnF, hgF⟩ := HR.out
      rw [List.take_length] at hrow
      exact ⟨_, rfl, ⟨_, hrow.M, hnF, hgF⟩, HW.out⟩
theorem szParcelS_c (v : Value) (a : List Parcel) (left : Int) (w : World) (ha : SliceK parcelD w v a) (h0 : 0 ≤ left) (h1 : left ≤ 1048576) :
    Calls Try.prog 19 #[v, .int .i64 left] w fun e w' => RetSz left a.length e ∧ Below w.heap.size w w' := by
  obtain ⟨A, c, rfl, hl1, hm1, hra⟩ := ha
  clear hra
  by_cases h : (a.length : Int) ≤ left
  · have hr := hide (show left - (a.length : Int) = szR left a.length from (if_pos h).symm)
    have h2 : ¬ (left - (a.length : Int) < 0) := by omega
    go_enter Try.func19, Try.ntmps19
    go_wp2
    go_ret
    exact ⟨⟨_, rfl, hr.out⟩, Below.refl _ _⟩
  · have hr := hide (show -1 = szR left a.length from (if_neg h).symm)
    have h2 : (left - (a.length : Int) < 0) := by omega
    go_enter Try.func19, Try.ntmps19
    go_wp2
    go_ret
    exact ⟨⟨_, rfl, hr.out⟩, Below.refl _ _⟩
def cntParcel (x : Parcel) : Nat := 2
def mkParcel (k : Int) (x : Parcel) : Parcel := { room := (k), number := (k + 1) }
theorem cntParcel_mk (k : Int) (x : Parcel) : cntParcel (mkParcel k x) = cntParcel x := by simp [cntParcel, mkParcel, marks_len, marks_len]
theorem mkParcel_mk (k : Int) (x : Parcel) : mkParcel k (mkParcel k x) = mkParcel k x := by simp [mkParcel, marks_len, marks_len]
def heldParcelB (k : Int) (x : Parcel) : Bool := !(x.room != k) && !(x.number != k + 1)
theorem heldParcelB_iff {k : Int} (h : 0 ≤ k) (x : Parcel) : heldParcelB k x = true ↔ x = mkParcel k x := by
  cases x
  simp only [heldParcelB, mkParcel, Parcel.mk.injEq, bytes_eq, Bool.and_eq_true, Bool.not_eq_true', bne_eq_false_iff_eq, Bool.not_eq_false', beq_iff_eq, decide_eq_false_iff_not, and_assoc]
set_option maxHeartbeats 4000000 in
set_option maxRecDepth 100000 in
theorem markParcelS_c (v : Value) (xs : List Parcel) (F : List Nat) (k : Int) (w : World) (h : SliceM parcelD 68 w v xs F) (hn : F.Nodup) (h0 : 0 ≤ k) (h1 : k + cntAll cntParcel xs ≤ 1000000000000) :
    Calls Try.prog 17 #[v, .int .i64 k] w (RetMarkA parcelD 68 cntParcel mkParcel w v xs F k) := by
  rcases h.row with ⟨rfl, rfl, rfl⟩ | ⟨B, cap, cur, css, Fs, rfl, hrow, rfl⟩
  · go_enter Try.func17, Try.ntmps17
    go_wp2
    go_loopg [1, 5] 0 (fun gg s1 s5 wr => s1 = .int .i64 k ∧ s5 = .int .i64 0 ∧ w = wr)
    case atStart => exact ⟨rfl, rfl, rfl⟩
    case round =>
      obtain ⟨rfl, rfl, rfl⟩ := hrel
      go_wp2
      go_ret
      exact ⟨by simp [cntAll], .inl ⟨rfl, rfl, rfl⟩, Chg.refl _ _⟩
  · have H0 := hide (show ∃ cur css, Row parcelD 68 w B cap cur css Fs (mixed cntParcel mkParcel k xs 0) from ⟨cur, css, by rw [mixed_zero]; exact hrow⟩)
    have HN := hide hn
    have hlen := hrow.le
    have hmax := hrow.max
    clear h hrow hn
    go_enter Try.func17, Try.ntmps17
    go_wp2
    go_loopg [1, 5] xs.length (fun gg s1 s5 wr => ∃ (i : Nat) (q : Int), i ≤ xs.length ∧ xs.length - i ≤ gg ∧ s1 = .int .i64 q ∧ s5 = .int .i64 i ∧ 0 ≤ q ∧ Hid (q = k + cntAll cntParcel (xs.take i)) ∧
      Hid (∃ cur css, Row parcelD 68 wr B cap cur css Fs (mixed cntParcel mkParcel k xs i)) ∧ Hid (Chg (B :: Fs.flatten) w wr))
    case atStart => exact ⟨0, k, Nat.zero_le _, by omega, rfl, rfl, h0, hide (by simp [cntAll]), H0, Chg.refl _ _⟩
    case round =>
      obtain ⟨i, q, hi, hg, rfl, rfl, hq0, HQ, HR, HW⟩ := hrel
      clear H0
      by_cases hlt : i < xs.length
      · obtain ⟨x, hx⟩ : ∃ x, xs[i]? = some x := ⟨_, List.getElem?_eq_getElem hlt⟩
        obtain ⟨cur, css, hrow⟩ := HR.out
        obtain ⟨cs, G, hE⟩ := RowE.ofRow hrow (mixed_get (cnt := cntParcel) (mk := mkParcel) k xs i hx)
        have hcT := cntAll_take (cnt := cntParcel) xs i x hx
        have hcL := cntAll_le (cnt := cntParcel) xs (i + 1)
        have hq1 : q + cntParcel x ≤ 1000000000000 := by have := HQ.out; omega
        have hq2 : q + (2 : Nat) ≤ 1000000000000 := hq1
        have HT := hide hcT
        have HX := hide hx
        have hlB := hE.blt
        have hfz := hE.frozen
        have hcell := hE.cell
        obtain ⟨rfl, rfl⟩ : cs = [.int .i64 x.room, .int .i64 x.number] ∧ G = [] := hE.M
        have hc0 : wr.cell? ⟨B, i * 2, none⟩ = some (.int .i64 x.room) := hcell 0 _ rfl
        have hc1 : wr.cell? ⟨B, i * 2 + 1, none⟩ = some (.int .i64 x.number) := hcell 1 _ rfl
        have E0 := hide hE
        clear HR hcell hcT hcL hx hrow hE hq1
        go_wp2_with fail
        have E1 := hide (E0.out.put HN.out 0 (.int .i64 (q)) ({ x with room := (q) }) (by decide) fun _ => ⟨rfl, rfl⟩)
        have E2 := hide (E1.out.put HN.out 1 (.int .i64 (q + 1)) ({ x with room := (q), number := (q + 1) }) (by decide) fun _ => ⟨rfl, rfl⟩)
        obtain ⟨cur', css', hrow'⟩ := E2.out.row
        simp only [List.set_set] at hrow'
        have hmk : { x with room := (q), number := (q + 1) } = mkParcel q x := rfl
        have hmx : (mixed cntParcel mkParcel k xs i).set i (mkParcel q x) = mixed cntParcel mkParcel k xs (i + 1) := by rw [HQ.out]; exact mixed_set k xs i HX.out
        rw [hmk, hmx] at hrow'
        go_roundg (xs.length - (i + 1))
        case measure => omega
        case rel =>
          refine ⟨i + 1, q + 1 + 1, by omega, by omega, rfl, by go_num, by omega, hide (by have h1 := HQ.out; have h2 := HT.out; have h3 : cntParcel x = 2 := rfl; rw [h2]; omega), hide ⟨cur', css', hrow'⟩, hide ?_⟩
          exact ((((HW.out).setCell (.inl (by simp)) _)).setCell (.inl (by simp)) _)
      · have : i = xs.length := by omega
        subst this
        go_wp2
        go_ret
        obtain ⟨cur, css, hrow⟩ := HR.out
        rw [mixed_all] at hrow
        have hq := HQ.out
        rw [List.take_length] at hq
        refine ⟨by rw [← hq]; rfl, ?_, HW.out⟩
        have hS := hrow.M
        rwa [markAll_len] at hS
set_option maxHeartbeats 4000000 in
set_option maxRecDepth 100000 in
theorem heldParcelS_c (v : Value) (xs : List Parcel) (k : Int) (w : World) (h : SliceK parcelD w v xs) (h0 : 0 ≤ k) (h1 : k + cntAll cntParcel xs ≤ 1000000000000) :
    Calls Try.prog 18 #[v, .int .i64 k] w fun e w' => e = .returned (.int .i64 (heldAll cntParcel mkParcel k xs)) ∧ Below w.heap.size w w' := by
  obtain ⟨A, c, rfl, hl, hm, hra⟩ := h
  have HA := hide hra
  clear hra
  go_enter Try.func18, Try.ntmps18
  go_wp2
  go_loopg [1, 5] xs.length (fun gg s1 s5 wr => ∃ (i : Nat) (q : Int), i ≤ xs.length ∧ xs.length - i ≤ gg ∧ s1 = .int .i64 q ∧ s5 = .int .i64 i ∧ 0 ≤ q ∧ Hid (q = k + cntAll cntParcel (xs.take i)) ∧ Hid (xs.take i = (markAll cntParcel mkParcel k xs).take i) ∧ Hid (Below w.heap.size w wr))
  case atStart => exact ⟨0, k, Nat.zero_le _, by omega, rfl, rfl, h0, hide (by simp [cntAll]), rfl, Below.refl _ _⟩
  case round =>
    obtain ⟨i, q, hi, hg, rfl, rfl, hq0, HQ, HT, HB⟩ := hrel
    by_cases hlt : i < xs.length
    · obtain ⟨x, hx⟩ : ∃ x, xs[i]? = some x := ⟨_, List.getElem?_eq_getElem hlt⟩
      rcases HA.out with rfl | ⟨p, o, rfl, hra⟩
      · simp at hlt
      obtain ⟨p, hc0, hc1⟩ := parcel_at hra HB.out hx
      have hcT := cntAll_take (cnt := cntParcel) xs i x hx
      have hcL := cntAll_le (cnt := cntParcel) xs (i + 1)
      have hq1 : q + cntParcel x ≤ 1000000000000 := by have := HQ.out; omega
      have hq2 : q + (2 : Nat) ≤ 1000000000000 := hq1
      have HcT := hide hcT
      have HX := hide hx
      clear hx hra HA hcT hcL hq1 
      go_wp2
      all_goals first
      | (
         go_roundg (xs.length - (i + 1))
         case measure => omega
         case rel =>
           have hB : heldParcelB q x = true := by simp only [heldParcelB, decide_true, decide_false, Bool.not_true, Bool.not_false, Bool.and_false, Bool.false_and, Bool.and_true, Bool.true_and, *]
           have hE := (heldParcelB_iff hq0 x).1 hB
           have hQ := HQ.out
           exact ⟨i + 1, q + cntParcel x, by omega, by omega, (int_congr (by unfold cntParcel; omega)), by go_num, by omega, hide (by rw [HcT.out, hQ]; omega), hide (by rw [List.take_add_one, List.take_add_one, HX.out, HT.out, markAll_get _ _ _ _ HX.out, ← hQ, ← hE]), HB⟩)
      | (
         have hB : heldParcelB q x = false := by simp only [heldParcelB, decide_true, decide_false, Bool.not_true, Bool.not_false, Bool.and_false, Bool.false_and, Bool.and_true, Bool.true_and, *]
         have hE : ¬ x = mkParcel q x := fun e => by rw [(heldParcelB_iff hq0 x).2 e] at hB; cases hB
         rw [HQ.out] at hE
         go_ret
         exact ⟨by rw [heldAll_neg HX.out hE]; rfl, HB.out⟩)
    · have : i = xs.length := by omega
      subst this
      go_wp2
      go_ret
      have hq := HQ.out
      rw [List.take_length] at hq
      exact ⟨by rw [heldAll_pos HT.out, ← hq]; rfl, HB.out⟩
/-! ### Box -/
def sizeBox (x : Box) : Nat := x.token.size + x.held.length
/-- Its strings are no longer than a machine holds. -/
def okBox (x : Box) : Prop := x.token.size ≤ 9223372036854775807
def fewBox (x : Box) : Prop := x.held.length ≤ 1048576
def eqBoxB (a b : Box) : Bool := !(!(a.token.toList == b.token.toList)) && !(a.member != b.member) && !(a.missed != b.missed) && !(!(decide (a.held = b.held)))
theorem eqBoxB_iff (a b : Box) : eqBoxB a b = true ↔ a = b := by
  cases a; cases b
  simp [eqBoxB, bytes_eq, and_assoc]
theorem eqBoxB_eq (a b : Box) : eqBoxB a b = decide (a = b) := by
  rw [Bool.eq_iff_iff, eqBoxB_iff, decide_eq_true_iff]
set_option maxHeartbeats 2000000 in
theorem eqBox_c (x y : Box) (v3 u3 : Value) (w : World) (h3 : SliceK parcelD w v3 x.held) (g3 : SliceK parcelD w u3 y.held) :
    Calls Try.prog 61 #[.agg #[.string x.token, .int .i64 x.member, .int .i64 x.missed, v3], .agg #[.string y.token, .int .i64 y.member, .int .i64 y.missed, u3]] w fun e w' => e = .returned (.bool (eqBoxB x y)) ∧ Below w.heap.size w w' := by
  have H3 := hide h3
  have G3 := hide g3
  clear h3 g3
  have HB := hide (((Below.refl w.heap.size w).alloc (Nat.le_refl _) (.cells #[.string x.token, .int .i64 x.member, .int .i64 x.missed, v3] 53)).alloc (by simp) (.cells #[.string y.token, .int .i64 y.member, .int .i64 y.missed, u3] 53))
  go_enter Try.func61, Try.ntmps61
  go_wp2_with (first | (go_at_call 16; ((with_reducible refine (eqParcelS_c _ _ _ _ _ (H3.out.below HB.out) (G3.out.below HB.out)).mono ?_); rintro e w1 ⟨rfl, hb1⟩; have HN := hide (HB.out.trans (hb1.mono HB.out.size)); obtain ⟨hc, hf, hs⟩ := bcell hb1; have hz : w.heap.size + 1 < w1.heap.size := (by ((try simp only [World.size_alloc] at hs); omega)); have hy : w.heap.size < w1.heap.size := (by omega); clear hs hb1 HB; have HB := HN; clear HN)))
  all_goals
    go_ret
    refine ⟨?_, HB.out⟩
    first
    | (rw [show eqBoxB x y = false from by simp only [eqBoxB, decide_true, decide_false, Bool.not_true, Bool.not_false, Bool.and_false, Bool.false_and, Bool.and_true, Bool.true_and, *]]; rfl)
    | (rw [show eqBoxB x y = true from by simp only [eqBoxB, decide_true, decide_false, Bool.not_true, Bool.not_false, Bool.and_false, Bool.false_and, Bool.and_true, Bool.true_and, *]]; rfl)
set_option maxHeartbeats 2000000 in
set_option maxRecDepth 100000 in
theorem eqBoxS_c (va vb : Value) (a b : List Box) (w : World) (ha : SliceK boxD w va a) (hb : SliceK boxD w vb b) :
    Calls Try.prog 34 #[va, vb] w fun e w' => e = .returned (.bool (decide (a = b))) ∧ Below w.heap.size w w' := by
  obtain ⟨A, c, rfl, hl1, hm1, hra⟩ := ha
  obtain ⟨B, c', rfl, hl2, hm2, hrb⟩ := hb
  by_cases hlen : a.length = b.length
  · have hne : (((a.length : Nat) : Int) != ((b.length : Nat) : Int)) = false := by simp [hlen]
    have HL := hide hlen
    have HA := hide hra
    have HB := hide hrb
    clear hlen hra hrb
    go_enter Try.func34, Try.ntmps34
    go_wp2
    go_loopg [5] a.length (fun gg s5 wr => ∃ k : Nat, k ≤ a.length ∧ a.length - k ≤ gg ∧ s5 = .int .i64 k ∧ Hid (a.take k = b.take k) ∧ Hid (Below w.heap.size w wr))
    case atStart => exact ⟨0, Nat.zero_le _, by omega, rfl, rfl, Below.refl _ _⟩
    case round =>
      obtain ⟨k, hk, hg, rfl, HT, HW⟩ := hrel
      by_cases hlt : k < a.length
      · obtain ⟨x, hx⟩ : ∃ x, a[k]? = some x := ⟨_, List.getElem?_eq_getElem hlt⟩
        obtain ⟨y, hy⟩ : ∃ y, b[k]? = some y := ⟨_, List.getElem?_eq_getElem (by have := HL.out; omega)⟩
        have hkb : k < b.length := by have := HL.out; omega
        rcases HA.out with rfl | ⟨p, o, rfl, hra⟩
        · simp at hlt
        rcases HB.out with rfl | ⟨p', o', rfl, hrb⟩
        · simp at hkb
        obtain ⟨v3, h3, p, hc0, hc1, hc2, hc3⟩ := box_at hra HW.out hx
        obtain ⟨u3, g3, p', gc0, gc1, gc2, gc3⟩ := box_at hrb HW.out hy
        have HX := hide hx
        have HY := hide hy
        have H3 := hide h3
        have G3 := hide g3
        clear hx hy hra hrb HA HB h3 g3
        go_wp2
        go_still_tail 8, (by kernel_rfl)
        change wpList _ _ _ _ _ wr.drew
        go_wp2_with (go_at_call 61; refine (eqBox_c x y v3 u3 _ (H3.out.below ((Below.refl _ _).drew)) (G3.out.below ((Below.refl _ _).drew))).mono ?_; rintro e w1 ⟨rfl, hb1⟩; have H1 := hide (HW.out.drew.trans (hb1.mono (by simpa using HW.out.size))); clear hb1)
        · have hq : ¬ x = y := fun e => by rw [(eqBoxB_iff x y).2 e] at *; contradiction
          go_ret
          exact ⟨by rw [eqAll_pre HT.out HX.out HY.out hq]; rfl, H1.out⟩
        · have hq : eqBoxB x y = true := by simpa using ‹(!eqBoxB x y) = false›
          have HQ := hide ((eqBoxB_iff x y).1 hq)
          clear hq
          go_roundg (a.length - (k + 1))
          case measure => omega
          case rel => exact ⟨k + 1, by omega, by omega, by go_num, hide (by rw [List.take_add_one, List.take_add_one, HX.out, HY.out, HT.out, HQ.out]), H1⟩
      · have : k = a.length := by omega
        subst this
        go_wp2
        go_ret
        exact ⟨by rw [show decide (a = b) = true from by rw [decide_eq_true_iff]; have := HT.out; rw [List.take_length] at this; rw [this, HL.out, List.take_length]]; rfl, HW.out⟩
  · have hne : (((a.length : Nat) : Int) != ((b.length : Nat) : Int)) = true := by simp; omega
    have he : decide (a = b) = false := decide_eq_false (by rintro rfl; exact hlen rfl)
    have HE := hide he
    clear he hlen hra hrb
    go_enter Try.func34, Try.ntmps34
    go_wp2
    go_ret
    exact ⟨by rw [HE.out]; rfl, Below.refl _ _⟩
set_option maxHeartbeats 2000000 in
theorem toBox_c (x : Box) (v3 : Value) (w : World) (h3 : SliceK parcelD w v3 x.held) (hw : fewBox x) :
    Calls Try.prog 55 #[.agg #[.string x.token, .int .i64 x.member, .int .i64 x.missed, v3]] w (RetElem boxD w x) := by
  have n3 : _ ≤ 1048576 := hw
  have H3 := hide h3
  clear h3
  go_enter Try.func55, Try.ntmps55
  go_wp2_with fail
  refine (toParcelS_c _ x.held _ (H3.out.below ?hb0) n3).mono ?_
  case hb0 => exact ((((Below.refl _ _).alloc (Nat.le_refl _) _).alloc (by simp) _).alloc (by simp; omega) _)
  rintro e w1 ⟨v, rfl, hM, hb1⟩
  obtain ⟨A3, c3, rfl⟩ := hM.shape
  have HM0 := hide hM
  have HS0 := hide hb1
  have HB0 := hide (((((Below.refl _ _).alloc (Nat.le_refl _) _).alloc (by simp) _).alloc (by simp; omega) _).trans (hb1.mono (by simp; omega)) : Below w.heap.size w w1)
  obtain ⟨hc0, hf0, hs0⟩ := bcell hb1
  simp only [World.size_alloc, World.size_setCell] at hs0
  have hz0 : w.heap.size + 1 + 1 < w1.heap.size := by omega
  have hy0 : w.heap.size < w1.heap.size := by omega
  have hle0 : w.heap.size ≤ w1.heap.size := by omega
  have hx0 : w.heap.size + 1 < w1.heap.size := by omega
  clear hM hb1 hs0
  go_wp2_with fail
  have HZ : Hid (∀ wz, Chg [w.heap.size + 1, w.heap.size + 1 + 1] w1 wz → RetElem boxD w x (.returned (.agg #[.string x.token, .int .i64 x.member, .int .i64 x.missed, .slice A3 x.held.length c3])) wz) := by
    intro wz hch
    have c0_ : Chg [w.heap.size + 1, w.heap.size + 1 + 1] w1 wz := hch
    obtain ⟨F3, hm3, hn3, hF3⟩ := HM0.out
    have hl3 := hm3.lt
    have m3 := hm3.move fun b hb => c0_.block b (hl3 b hb) (by intro hg; have := hF3 b hb; simp at this hg; omega)
    refine ⟨_, F3, rfl, box_M_mk m3, hn3, ?_, ?_⟩
    · intro b hb; have := hF3 b hb; simp at this; omega
    · exact HB0.out.trans (hch.below (by omega) (by intro k hk; simp at hk; omega))
  refine bodyPost_ret (v := .agg #[.string x.token, .int .i64 x.member, .int .i64 x.missed, .slice A3 x.held.length c3]) (by simp [results, Try.results55, go_sem, hc0, hz0, hy0, hx0]) rfl (HZ.out _ ?_)
  repeat (with_reducible refine Chg.setCell ?_ (.inl (by simp)) _)
  exact Chg.refl _ _
theorem infoBox : (Try.prog.info? 53).map (fun i => (i.zero, i.size, i.bytes)) = some (some (.agg #[(.string ⟨#[]⟩), (.int .i64 0), (.int .i64 0), (.slice none 0 0)]), 4, 56) := by kernel_rfl
set_option maxHeartbeats 2000000 in
set_option maxRecDepth 100000 in
theorem toBoxS_c (v : Value) (a : List Box) (w : World) (ha : SliceK boxD w v a) (hn : a.length ≤ 1048576) (hw : ∀ x ∈ a, fewBox x) :
    Calls Try.prog 29 #[v] w (RetMade boxD 53 w a) := by
  obtain ⟨A, c, rfl, hl1, hm1, hra⟩ := ha
  have HA := hide hra
  have HWH := hide hw
  clear hw
  have hmk := run_mk (P := Try.prog) 26 53 (.agg #[(.string ⟨#[]⟩), (.int .i64 0), (.int .i64 0), (.slice none 0 0)]) 4 56 Try.underlying26 infoBox a.length (by omega) (by omega)
  clear hra
  go_enter Try.func29, Try.ntmps29
  go_wp2_with fail
  obtain ⟨B, hB⟩ : ∃ B, B = w.heap.size := ⟨_, rfl⟩
  have HBs := hide hB
  rw [← hB]
  have H0 : ∃ cur css Fs, Row boxD 53 (w.alloc (Obj.cells (mkRow (.agg #[(.string ⟨#[]⟩), (.int .i64 0), (.int .i64 0), (.slice none 0 0)]) (a.length * 4)) 53)) B a.length cur css Fs (a.take 0) ∧ (B :: Fs.flatten).Nodup ∧ (∀ q ∈ B :: Fs.flatten, w.heap.size ≤ q) :=
    ⟨_, [], [], by rw [hB]; exact Row.start (d := boxD) (by omega), by simp, by intro q hq; simp at hq; omega⟩
  have H0 := hide H0
  clear hB
  go_loopg [4] a.length (fun gg s4 wr => ∃ k : Nat, k ≤ a.length ∧ a.length - k ≤ gg ∧ s4 = .int .i64 k ∧ Hid (∃ cur css Fs, Row boxD 53 wr B a.length cur css Fs (a.take k) ∧ (B :: Fs.flatten).Nodup ∧ (∀ q ∈ B :: Fs.flatten, w.heap.size ≤ q)) ∧ Hid (Below w.heap.size w wr))
  case atStart => exact ⟨0, Nat.zero_le _, by omega, rfl, H0, (Below.refl _ _).alloc (Nat.le_refl _) _⟩
  case round =>
    obtain ⟨k, hk, hg, rfl, HR, HW⟩ := hrel
    clear H0 hmk
    by_cases hlt : k < a.length
    · obtain ⟨x, hx⟩ : ∃ x, a[k]? = some x := ⟨_, List.getElem?_eq_getElem hlt⟩
      rcases HA.out with rfl | ⟨p, o, rfl, hra⟩
      · simp at hlt
      obtain ⟨v3, h3, p, hc0, hc1, hc2, hc3⟩ := box_at hra HW.out hx
      have hfew := hide (HWH.out x (List.mem_of_getElem? hx))
      have H3 := hide h3
      have HX := hide hx
      clear hx hra HA h3
      go_wp2_with fail
      refine (toBox_c x _ _ (H3.out) hfew.out).mono ?_
      rintro e w1 ⟨cs, G, rfl, hm, hnd, hG, hb1⟩
      obtain ⟨cur, css, Fs, hrow, hnF, hgF⟩ := HR.out
      have HM := hide hm
      obtain ⟨t3, G3, rfl, hGe, g3⟩ := box_M hm
      obtain ⟨A3, c3, rfl⟩ := g3.toK.shape
      clear g3
      have hsz : cur.size = a.length * 4 := hrow.size
      have hlB : B < wr.heap.size := block_lt hrow.blk
      have hblk1 : w1.heap[B]? = some (.cells cur 53 (0, 0)) := (hb1.block B hlB).trans hrow.blk
      have hfz : ∀ o, w1.frozen? ⟨B, o, none⟩ = false := fun o => frozen_block hblk1
      have hlB1 : B < w1.heap.size := block_lt hblk1
      obtain ⟨z0, hz0⟩ : ∃ z, w1.cell? ⟨B, k * 4, none⟩ = some z := ⟨cur[k * 4]'(by omega), by rw [cell_block hblk1]; exact Array.getElem?_eq_getElem (by omega)⟩
      obtain ⟨z1, hz1⟩ : ∃ z, w1.cell? ⟨B, k * 4 + 1, none⟩ = some z := ⟨cur[k * 4 + 1]'(by omega), by rw [cell_block hblk1]; exact Array.getElem?_eq_getElem (by omega)⟩
      obtain ⟨z2, hz2⟩ : ∃ z, w1.cell? ⟨B, k * 4 + 2, none⟩ = some z := ⟨cur[k * 4 + 2]'(by omega), by rw [cell_block hblk1]; exact Array.getElem?_eq_getElem (by omega)⟩
      obtain ⟨z3, hz3⟩ : ∃ z, w1.cell? ⟨B, k * 4 + 3, none⟩ = some z := ⟨cur[k * 4 + 3]'(by omega), by rw [cell_block hblk1]; exact Array.getElem?_eq_getElem (by omega)⟩
      have HC := hide (And.intro hrow (And.intro hnF (And.intro hgF (And.intro hnd (And.intro hG (And.intro hb1 hblk1))))))
      have HSZ := hide hsz
      clear HR hrow hnF hgF hnd hG hb1 hblk1 hlB hsz hm hGe
      go_wp2_with fail
      obtain ⟨hrow, hnF, hgF, hnd, hG, hb1, hblk1⟩ := HC.out
      obtain ⟨cur', hcur', hlist'⟩ := putCells_block [.string x.token, .int .i64 x.member, .int .i64 x.missed, .slice A3 x.held.length c3] w1 B (k * 4) hblk1
      have hBl : ∀ q ∈ B :: Fs.flatten, q < wr.heap.size := hrow.lt
      have htl : (a.take k).length = k := by rw [List.length_take]; omega
      go_roundg (a.length - (k + 1))
      case measure => omega
      case rel =>
        refine ⟨k + 1, by omega, by omega, by go_num, hide ⟨cur', css ++ [[.string x.token, .int .i64 x.member, .int .i64 x.missed, .slice A3 x.held.length c3]], Fs ++ [G], ?_, ?_, ?_⟩, hide ?_⟩
        · rw [List.take_add_one, HX.out]
          refine Row.snoc (w' := putCells w1 B (k * 4) [.string x.token, .int .i64 x.member, .int .i64 x.missed, .slice A3 x.held.length c3]) hrow (by omega) (Dt.M_move _ (fun q hq => putCells_other _ _ _ _ ?_) HM.out) hcur' (by rw [htl]; exact hlist') (fun q hq => (putCells_other _ _ _ _ ?_).trans (hb1.block q (hBl q (List.mem_cons_of_mem _ hq))))
          · have := hG q hq; have := hBl B List.mem_cons_self; omega
          · intro e; subst e; exact (List.nodup_cons.1 hnF).1 hq
        · rw [List.flatten_append, List.flatten_singleton, ← List.cons_append]
          exact nodup_app hnF hnd hBl hG
        · intro q hq
          rw [List.flatten_append, List.flatten_singleton, ← List.cons_append, List.mem_append] at hq
          rcases hq with hq | hq
          · exact hgF q hq
          · exact Nat.le_trans HW.out.size (hG q hq)
        · exact putCells_below [.string x.token, .int .i64 x.member, .int .i64 x.missed, .slice A3 x.held.length c3] B (k * 4) (HW.out.trans (hb1.mono HW.out.size)) (hgF B List.mem_cons_self)
    · have : k = a.length := by omega
      subst this
      go_wp2
      go_ret
      obtain ⟨cur, css, Fs, hrow, hnF, hgF⟩ := HR.out
      rw [List.take_length] at hrow
      exact ⟨_, rfl, ⟨_, hrow.M, hnF, hgF⟩, HW.out⟩
set_option maxHeartbeats 2000000 in
theorem szBox_c (x : Box) (v3 : Value) (left : Int) (w : World) (h3 : SliceK parcelD w v3 x.held) (b0 : 0 ≤ left) (b1 : left ≤ 1048576) (hok : okBox x) :
    Calls Try.prog 53 #[.agg #[.string x.token, .int .i64 x.member, .int .i64 x.missed, v3], .int .i64 left] w fun e w' => RetSz left (sizeBox x) e ∧ Below w.heap.size w w' := by
  have H3 := hide h3
  clear h3
  have HK := hide hok
  unfold okBox at hok
  have hs0 := hok
  clear hok
  have HB := hide ((Below.refl w.heap.size w).alloc (Nat.le_refl _) (.cells #[.string x.token, .int .i64 x.member, .int .i64 x.missed, v3] 79))
  go_enter Try.func53, Try.ntmps53
  go_wp2_with (first | (go_at_call 19; ((with_reducible refine (szParcelS_c _ x.held _ _ (H3.out.below HB.out) (by omega) (by omega)).mono ?_); rintro e w1 ⟨⟨r3, rfl, hr3⟩, hb1⟩; have hd3 := szR_bd hr3 (by omega); have R3 := hide hr3; have HN := hide (HB.out.trans (hb1.mono HB.out.size)); obtain ⟨hc, hf, hs⟩ := bcell hb1; have hy : w.heap.size < w1.heap.size := (by ((try simp only [World.size_alloc] at hs); omega)); clear hs hb1 HB hr3; have HB := HN; clear HN)))
  all_goals
    go_ret
    refine ⟨⟨_, rfl, ?_⟩, HB.out⟩
    try have e3 := szR_spec R3.out (by omega)
    unfold szR sizeBox
    split <;> omega
set_option maxHeartbeats 2000000 in
theorem szBoxS_c (v : Value) (a : List Box) (left : Int) (w : World) (ha : SliceK boxD w v a) (h0 : 0 ≤ left) (h1 : left ≤ 1048576) (hok : ∀ x ∈ a, okBox x) :
    Calls Try.prog 25 #[v, .int .i64 left] w fun e w' => RetSz left (a.length + sizeAll sizeBox a) e ∧ Below w.heap.size w w' := by
  obtain ⟨A, c, rfl, hl1, hm1, hra⟩ := ha
  have HA := hide hra
  have HOK := hide hok
  clear hok
  clear hra
  by_cases h : (a.length : Int) ≤ left
  · have h2 : ¬ (left - (a.length : Int) < 0) := by omega
    go_enter Try.func25, Try.ntmps25
    go_wp2
    go_loopg [1, 5] a.length (fun gg s1 s5 wr => ∃ (k : Nat) (q : Int), k ≤ a.length ∧ a.length - k ≤ gg ∧ s1 = .int .i64 q ∧ s5 = .int .i64 k ∧ 0 ≤ q ∧ q ≤ 1048576 ∧ Hid (q = left - a.length - sizeAll sizeBox (a.take k)) ∧ Hid (Below w.heap.size w wr))
    case atStart => exact ⟨0, left - a.length, Nat.zero_le _, by omega, rfl, rfl, by omega, by omega, hide (by simp [sizeAll]), Below.refl _ _⟩
    case round =>
      obtain ⟨k, q, hk, hg, rfl, rfl, hq0, hq1, HQ, HW⟩ := hrel
      by_cases hlt : k < a.length
      · obtain ⟨x, hx⟩ : ∃ x, a[k]? = some x := ⟨_, List.getElem?_eq_getElem hlt⟩
        rcases HA.out with rfl | ⟨p, o, rfl, hra⟩
        · simp at hlt
        obtain ⟨v3, h3, p, hc0, hc1, hc2, hc3⟩ := box_at hra HW.out hx
        have HX := hide hx
        have hokx := hide (HOK.out x (List.mem_of_getElem? hx))
        have H3 := hide h3
        clear hx hra HA h3
        go_wp2_with fail
        refine (szBox_c x _ q _ H3.out hq0 hq1 hokx.out).mono ?_
        rintro e w1 ⟨⟨r, rfl, hr⟩, hb1⟩
        have hd := szR_bd hr hq0
        have R := hide hr
        have H1 := hide (HW.out.trans (hb1.mono HW.out.size))
        clear hr hb1
        go_wp2_with fail
        · have hT := sizeAll_take sizeBox a k x HX.out
          have hL := sizeAll_le sizeBox a (k + 1)
          have hsp := szR_spec R.out hq0
          have := HQ.out
          go_ret
          exact ⟨⟨_, rfl, by unfold szR; rw [if_neg (by omega)]⟩, H1.out⟩
        · have hT := sizeAll_take sizeBox a k x HX.out
          have hsp := szR_spec R.out hq0
          have := HQ.out
          have hrq : r = q - sizeBox x := by omega
          go_roundg (a.length - (k + 1))
          case measure => omega
          case rel => exact ⟨k + 1, r, by omega, by omega, rfl, by go_num, by omega, by omega, hide (by rw [hT]; omega), H1⟩
      · have : k = a.length := by omega
        subst this
        go_wp2
        go_ret
        have := HQ.out
        rw [List.take_length] at this
        exact ⟨⟨_, rfl, by unfold szR; rw [if_pos (by omega)]; omega⟩, HW.out⟩
  · have hr := hide (show -1 = szR left (a.length + sizeAll sizeBox a) from (if_neg (by omega)).symm)
    have h2 : (left - (a.length : Int) < 0) := by omega
    go_enter Try.func25, Try.ntmps25
    go_wp2
    go_ret
    exact ⟨⟨_, rfl, hr.out⟩, Below.refl _ _⟩
def cntBox (x : Box) : Nat := 3 + cntAll cntParcel x.held
def mkBox (k : Int) (x : Box) : Box := { token := markT (k), member := (k + 1), missed := (k + 1 + 1), held := markAll cntParcel mkParcel (k + 1 + 1 + 1) x.held }
theorem cntBox_mk (k : Int) (x : Box) : cntBox (mkBox k x) = cntBox x := by simp [cntBox, mkBox, marks_len, cntAll_mark cntParcel_mk, markAll_mark cntParcel_mk mkParcel_mk, marks_len]
theorem mkBox_mk (k : Int) (x : Box) : mkBox k (mkBox k x) = mkBox k x := by simp [mkBox, marks_len, cntAll_mark cntParcel_mk, markAll_mark cntParcel_mk mkParcel_mk, marks_len]
def heldBoxB (k : Int) (x : Box) : Bool := !(!(x.token.toList == (markT (k)).toList)) && !(x.member != k + 1) && !(x.missed != k + 1 + 1) && !(decide (heldAll cntParcel mkParcel (k + 1 + 1 + 1) x.held < 0))
theorem heldBoxB_iff {k : Int} (h : 0 ≤ k) (x : Box) : heldBoxB k x = true ↔ x = mkBox k x := by
  cases x
  simp only [heldBoxB, mkBox, Box.mk.injEq, bytes_eq, Bool.and_eq_true, Bool.not_eq_true', bne_eq_false_iff_eq, Bool.not_eq_false', beq_iff_eq, decide_eq_false_iff_not, and_assoc]
  rw [heldAll_nn (by omega)]
  simp only [Decidable.not_not]
set_option maxHeartbeats 4000000 in
set_option maxRecDepth 100000 in
theorem markBoxS_c (v : Value) (xs : List Box) (F : List Nat) (k : Int) (w : World) (h : SliceM boxD 53 w v xs F) (hn : F.Nodup) (h0 : 0 ≤ k) (h1 : k + cntAll cntBox xs ≤ 1000000000000) :
    Calls Try.prog 35 #[v, .int .i64 k] w (RetMarkA boxD 53 cntBox mkBox w v xs F k) := by
  rcases h.row with ⟨rfl, rfl, rfl⟩ | ⟨B, cap, cur, css, Fs, rfl, hrow, rfl⟩
  · go_enter Try.func35, Try.ntmps35
    go_wp2
    go_loopg [1, 5] 0 (fun gg s1 s5 wr => s1 = .int .i64 k ∧ s5 = .int .i64 0 ∧ w = wr)
    case atStart => exact ⟨rfl, rfl, rfl⟩
    case round =>
      obtain ⟨rfl, rfl, rfl⟩ := hrel
      go_wp2
      go_ret
      exact ⟨by simp [cntAll], .inl ⟨rfl, rfl, rfl⟩, Chg.refl _ _⟩
  · have H0 := hide (show ∃ cur css, Row boxD 53 w B cap cur css Fs (mixed cntBox mkBox k xs 0) from ⟨cur, css, by rw [mixed_zero]; exact hrow⟩)
    have HN := hide hn
    have hlen := hrow.le
    have hmax := hrow.max
    clear h hrow hn
    go_enter Try.func35, Try.ntmps35
    go_wp2
    go_loopg [1, 5] xs.length (fun gg s1 s5 wr => ∃ (i : Nat) (q : Int), i ≤ xs.length ∧ xs.length - i ≤ gg ∧ s1 = .int .i64 q ∧ s5 = .int .i64 i ∧ 0 ≤ q ∧ Hid (q = k + cntAll cntBox (xs.take i)) ∧
      Hid (∃ cur css, Row boxD 53 wr B cap cur css Fs (mixed cntBox mkBox k xs i)) ∧ Hid (Chg (B :: Fs.flatten) w wr))
    case atStart => exact ⟨0, k, Nat.zero_le _, by omega, rfl, rfl, h0, hide (by simp [cntAll]), H0, Chg.refl _ _⟩
    case round =>
      obtain ⟨i, q, hi, hg, rfl, rfl, hq0, HQ, HR, HW⟩ := hrel
      clear H0
      by_cases hlt : i < xs.length
      · obtain ⟨x, hx⟩ : ∃ x, xs[i]? = some x := ⟨_, List.getElem?_eq_getElem hlt⟩
        obtain ⟨cur, css, hrow⟩ := HR.out
        obtain ⟨cs, G, hE⟩ := RowE.ofRow hrow (mixed_get (cnt := cntBox) (mk := mkBox) k xs i hx)
        have hcT := cntAll_take (cnt := cntBox) xs i x hx
        have hcL := cntAll_le (cnt := cntBox) xs (i + 1)
        have hq1 : q + cntBox x ≤ 1000000000000 := by have := HQ.out; omega
        have hq2 : q + (3 + cntAll cntParcel x.held : Nat) ≤ 1000000000000 := hq1
        have HT := hide hcT
        have HX := hide hx
        have hlB := hE.blt
        have hfz := hE.frozen
        have hcell := hE.cell
        obtain ⟨v3, G3, rfl, hGe, g3⟩ := box_M hE.M
        have hc0 : wr.cell? ⟨B, i * 4, none⟩ = some (.string x.token) := hcell 0 _ rfl
        have hc1 : wr.cell? ⟨B, i * 4 + 1, none⟩ = some (.int .i64 x.member) := hcell 1 _ rfl
        have hc2 : wr.cell? ⟨B, i * 4 + 2, none⟩ = some (.int .i64 x.missed) := hcell 2 _ rfl
        have hc3 : wr.cell? ⟨B, i * 4 + 3, none⟩ = some (v3) := hcell 3 _ rfl
        have E0 := hide hE
        clear HR hcell hcT hcL hx hrow hE hq1 hGe g3
        go_wp2_with fail
        refine (markText_c _ _ (by omega) (by omega)).mono ?_
        rintro e w1 ⟨rfl, hb⟩
        have hss := hb.size
        (try simp only [World.size_setCell] at hss)
        have hlB1 : B < w1.heap.size := by omega
        have hle1 : wr.heap.size ≤ w1.heap.size := by omega
        have E1 := hide (E0.out.below hb)
        have hfz1 := E1.out.frozen
        have hcell := E1.out.cell
        have hcc1_0 : w1.cell? ⟨B, i * 4, none⟩ = some _ := hcell 0 _ rfl
        have hcc1_1 : w1.cell? ⟨B, i * 4 + 1, none⟩ = some _ := hcell 1 _ rfl
        have hcc1_2 : w1.cell? ⟨B, i * 4 + 2, none⟩ = some _ := hcell 2 _ rfl
        have hcc1_3 : w1.cell? ⟨B, i * 4 + 3, none⟩ = some _ := hcell 3 _ rfl
        have HS1 := hide hb
        clear hb hss hcell
        have E2 := hide (E1.out.put HN.out 0 (.string (markT (q))) ({ x with token := markT (q) }) (by decide) (fun hm => by obtain ⟨t3, J3, hl, hF, j3⟩ := box_M hm; simp at hl; obtain rfl := hl; rw [hF]; exact box_M_mk (x := { x with token := markT (q) }) j3))
        have E3 := hide (E2.out.put HN.out 1 (.int .i64 (q + 1)) ({ x with token := markT (q), member := (q + 1) }) (by decide) (fun hm => by obtain ⟨t3, J3, hl, hF, j3⟩ := box_M hm; simp at hl; obtain rfl := hl; rw [hF]; exact box_M_mk (x := { x with token := markT (q), member := (q + 1) }) j3))
        have E4 := hide (E3.out.put HN.out 2 (.int .i64 (q + 1 + 1)) ({ x with token := markT (q), member := (q + 1), missed := (q + 1 + 1) }) (by decide) (fun hm => by obtain ⟨t3, J3, hl, hF, j3⟩ := box_M hm; simp at hl; obtain rfl := hl; rw [hF]; exact box_M_mk (x := { x with token := markT (q), member := (q + 1), missed := (q + 1 + 1) }) j3))
        go_wp2_with fail
        obtain ⟨t3, G3', hl, hGe, g3⟩ := box_M E4.out.M
        simp at hl
        obtain rfl := hl
        have hGn := (E4.out.nodup HN.out).1
        rw [hGe] at hGn
        refine (markParcelS_c _ x.held _ _ _ g3 hGn (by omega) (by omega)).mono ?_
        rintro e w2 ⟨rfl, hMk, hCk⟩
        have HCk := hide hCk
        rw [← hGe] at hCk
        have E5 := hide (E4.out.inner HN.out ({ x with token := markT (q), member := (q + 1), missed := (q + 1 + 1), held := markAll cntParcel mkParcel (q + 1 + 1 + 1) x.held }) hCk (by rw [hGe]; exact box_M_mk (x := { x with token := markT (q), member := (q + 1), missed := (q + 1 + 1), held := markAll cntParcel mkParcel (q + 1 + 1 + 1) x.held }) hMk))
        have HCg := hide hCk
        clear hMk hCk g3 hGn hGe HCk
        go_wp2_with fail
        obtain ⟨cur', css', hrow'⟩ := E5.out.row
        simp only [List.set_set] at hrow'
        have hmk : { x with token := markT (q), member := (q + 1), missed := (q + 1 + 1), held := markAll cntParcel mkParcel (q + 1 + 1 + 1) x.held } = mkBox q x := rfl
        have hmx : (mixed cntBox mkBox k xs i).set i (mkBox q x) = mixed cntBox mkBox k xs (i + 1) := by rw [HQ.out]; exact mixed_set k xs i HX.out
        rw [hmk, hmx] at hrow'
        go_roundg (xs.length - (i + 1))
        case measure => omega
        case rel =>
          refine ⟨i + 1, q + 1 + 1 + 1 + cntAll cntParcel x.held, by omega, by omega, rfl, by go_num, by omega, hide (by have h1 := HQ.out; have h2 := HT.out; have h3 : cntBox x = 3 + cntAll cntParcel x.held := rfl; rw [h2]; omega), hide ⟨cur', css', hrow'⟩, hide ?_⟩
          exact ((((((((((HW.out).then HS1.out)).setCell (.inl (by simp)) _)).setCell (.inl (by simp)) _)).setCell (.inl (by simp)) _)).trans (HCg.out.mono (fun b hb => .inl (List.mem_cons_of_mem _ (E5.out.sub b hb)))))
      · have : i = xs.length := by omega
        subst this
        go_wp2
        go_ret
        obtain ⟨cur, css, hrow⟩ := HR.out
        rw [mixed_all] at hrow
        have hq := HQ.out
        rw [List.take_length] at hq
        refine ⟨by rw [← hq]; rfl, ?_, HW.out⟩
        have hS := hrow.M
        rwa [markAll_len] at hS
set_option maxHeartbeats 4000000 in
set_option maxRecDepth 100000 in
theorem heldBoxS_c (v : Value) (xs : List Box) (k : Int) (w : World) (h : SliceK boxD w v xs) (h0 : 0 ≤ k) (h1 : k + cntAll cntBox xs ≤ 1000000000000) :
    Calls Try.prog 36 #[v, .int .i64 k] w fun e w' => e = .returned (.int .i64 (heldAll cntBox mkBox k xs)) ∧ Below w.heap.size w w' := by
  obtain ⟨A, c, rfl, hl, hm, hra⟩ := h
  have HA := hide hra
  clear hra
  go_enter Try.func36, Try.ntmps36
  go_wp2
  go_loopg [1, 5] xs.length (fun gg s1 s5 wr => ∃ (i : Nat) (q : Int), i ≤ xs.length ∧ xs.length - i ≤ gg ∧ s1 = .int .i64 q ∧ s5 = .int .i64 i ∧ 0 ≤ q ∧ Hid (q = k + cntAll cntBox (xs.take i)) ∧ Hid (xs.take i = (markAll cntBox mkBox k xs).take i) ∧ Hid (Below w.heap.size w wr))
  case atStart => exact ⟨0, k, Nat.zero_le _, by omega, rfl, rfl, h0, hide (by simp [cntAll]), rfl, Below.refl _ _⟩
  case round =>
    obtain ⟨i, q, hi, hg, rfl, rfl, hq0, HQ, HT, HB⟩ := hrel
    by_cases hlt : i < xs.length
    · obtain ⟨x, hx⟩ : ∃ x, xs[i]? = some x := ⟨_, List.getElem?_eq_getElem hlt⟩
      rcases HA.out with rfl | ⟨p, o, rfl, hra⟩
      · simp at hlt
      obtain ⟨v3, h3, p, hc0, hc1, hc2, hc3⟩ := box_at hra HB.out hx
      have hcT := cntAll_take (cnt := cntBox) xs i x hx
      have hcL := cntAll_le (cnt := cntBox) xs (i + 1)
      have hq1 : q + cntBox x ≤ 1000000000000 := by have := HQ.out; omega
      have hq2 : q + (3 + cntAll cntParcel x.held : Nat) ≤ 1000000000000 := hq1
      have HcT := hide hcT
      have HX := hide hx
      have H3 := hide h3
      clear hx hra HA hcT hcL hq1 h3
      go_wp2_with fail
      all_goals try (
         have hB : heldBoxB q x = false := by simp only [heldBoxB, decide_true, decide_false, Bool.not_true, Bool.not_false, Bool.and_false, Bool.false_and, Bool.and_true, Bool.true_and, *]
         have hE : ¬ x = mkBox q x := fun e => by rw [(heldBoxB_iff hq0 x).2 e] at hB; cases hB
         rw [HQ.out] at hE
         go_ret
         exact ⟨by rw [heldAll_neg HX.out hE]; rfl, HB.out⟩)
      go_region_with (go_at_call 62; refine (markText_c _ _ (by omega) (by omega)).mono ?_; rintro e w1 ⟨rfl, hb1⟩; have HN := hide (HB.out.drew.trans (hb1.mono (by simpa using HB.out.size))); have g0 := cell_below hb1 (show wr.drew.cell? _ = _ from hc0); have g1 := cell_below hb1 (show wr.drew.cell? _ = _ from hc1); have g2 := cell_below hb1 (show wr.drew.cell? _ = _ from hc2); have g3 := cell_below hb1 (show wr.drew.cell? _ = _ from hc3); have bw := hide hb1; clear hb1 HB; have HB := HN; clear HN)
      all_goals go_wp2_with (first | (go_at_call 18; refine (heldParcelS_c _ x.held _ _ ((H3.out.below ((Below.refl _ _).drew)).below bw.out) (by omega) (by omega)).mono ?_; rintro e w1 ⟨rfl, hb1⟩; have HN := hide (HB.out.trans (hb1.mono HB.out.size)); clear hb1 HB; have HB := HN; clear HN))
      all_goals first
      | (
         go_roundg (xs.length - (i + 1))
         case measure => omega
         case rel =>
           have hnl := Int.not_lt.mpr (show 0 ≤ heldAll cntParcel mkParcel (q + 1 + 1 + 1) x.held by assumption)
           have hB : heldBoxB q x = true := by simp only [heldBoxB, decide_true, decide_false, Bool.not_true, Bool.not_false, Bool.and_false, Bool.false_and, Bool.and_true, Bool.true_and, *]
           have hE := (heldBoxB_iff hq0 x).1 hB
           have hQ := HQ.out
           exact ⟨i + 1, q + cntBox x, by omega, by omega, (int_congr (by have hsp := heldAll_spec (show heldAll cntParcel mkParcel (q + 1 + 1 + 1) x.held = heldAll cntParcel mkParcel (q + 1 + 1 + 1) x.held from rfl) (by omega); have hx3 : 0 ≤ heldAll cntParcel mkParcel (q + 1 + 1 + 1) x.held := (by assumption); unfold cntBox; rcases hsp with ⟨hsp, _⟩ | ⟨hsp, _⟩ <;> omega)), by go_num, by omega, hide (by rw [HcT.out, hQ]; omega), hide (by rw [List.take_add_one, List.take_add_one, HX.out, HT.out, markAll_get _ _ _ _ HX.out, ← hQ, ← hE]), HB⟩)
      | (
         have hB : heldBoxB q x = false := by simp only [heldBoxB, decide_true, decide_false, Bool.not_true, Bool.not_false, Bool.and_false, Bool.false_and, Bool.and_true, Bool.true_and, *]
         have hE : ¬ x = mkBox q x := fun e => by rw [(heldBoxB_iff hq0 x).2 e] at hB; cases hB
         rw [HQ.out] at hE
         go_ret
         exact ⟨by rw [heldAll_neg HX.out hE]; rfl, HB.out⟩)
    · have : i = xs.length := by omega
      subst this
      go_wp2
      go_ret
      have hq := HQ.out
      rw [List.take_length] at hq
      exact ⟨by rw [heldAll_pos HT.out, ← hq]; rfl, HB.out⟩
/-! ### Post -/
def sizePost (x : Post) : Nat := (x.boxes.length + sizeAll sizeBox x.boxes)
/-- Its strings are no longer than a machine holds. -/
def okPost (x : Post) : Prop := (∀ y ∈ x.boxes, okBox y)
def fewPost (x : Post) : Prop := x.boxes.length ≤ 1048576 ∧ (∀ y ∈ x.boxes, fewBox y)
def eqPostB (a b : Post) : Bool := !(a.limit != b.limit) && !(!(decide (a.boxes = b.boxes)))
theorem eqPostB_iff (a b : Post) : eqPostB a b = true ↔ a = b := by
  cases a; cases b
  simp [eqPostB, bytes_eq, and_assoc]
theorem eqPostB_eq (a b : Post) : eqPostB a b = decide (a = b) := by
  rw [Bool.eq_iff_iff, eqPostB_iff, decide_eq_true_iff]
set_option maxHeartbeats 2000000 in
theorem eqPost_c (x y : Post) (v1 u1 : Value) (w : World) (h1 : SliceK boxD w v1 x.boxes) (g1 : SliceK boxD w u1 y.boxes) :
    Calls Try.prog 11 #[.agg #[.int .i64 x.limit, v1], .agg #[.int .i64 y.limit, u1]] w fun e w' => e = .returned (.bool (eqPostB x y)) ∧ Below w.heap.size w w' := by
  have H1 := hide h1
  have G1 := hide g1
  clear h1 g1
  have HB := hide (((Below.refl w.heap.size w).alloc (Nat.le_refl _) (.cells #[.int .i64 x.limit, v1] 28)).alloc (by simp) (.cells #[.int .i64 y.limit, u1] 28))
  go_enter Try.func11, Try.ntmps11
  go_wp2_with (first | (go_at_call 34; ((with_reducible refine (eqBoxS_c _ _ _ _ _ (H1.out.below HB.out) (G1.out.below HB.out)).mono ?_); rintro e w1 ⟨rfl, hb1⟩; have HN := hide (HB.out.trans (hb1.mono HB.out.size)); obtain ⟨hc, hf, hs⟩ := bcell hb1; have hz : w.heap.size + 1 < w1.heap.size := (by ((try simp only [World.size_alloc] at hs); omega)); have hy : w.heap.size < w1.heap.size := (by omega); clear hs hb1 HB; have HB := HN; clear HN)))
  all_goals
    go_ret
    refine ⟨?_, HB.out⟩
    first
    | (rw [show eqPostB x y = false from by simp only [eqPostB, decide_true, decide_false, Bool.not_true, Bool.not_false, Bool.and_false, Bool.false_and, Bool.and_true, Bool.true_and, *]]; rfl)
    | (rw [show eqPostB x y = true from by simp only [eqPostB, decide_true, decide_false, Bool.not_true, Bool.not_false, Bool.and_false, Bool.false_and, Bool.and_true, Bool.true_and, *]]; rfl)
set_option maxHeartbeats 2000000 in
theorem toPost_c (x : Post) (v1 : Value) (w : World) (h1 : SliceK boxD w v1 x.boxes) (hw : fewPost x) :
    Calls Try.prog 9 #[.agg #[.int .i64 x.limit, v1]] w (RetElem postD w x) := by
  unfold fewPost at hw
  obtain ⟨n1, k1⟩ := hw
  have W1 := hide k1
  clear k1
  have H1 := hide h1
  clear h1
  go_enter Try.func9, Try.ntmps9
  go_wp2_with fail
  refine (toBoxS_c _ x.boxes _ (H1.out.below ?hb0) n1 W1.out).mono ?_
  case hb0 => exact ((((Below.refl _ _).alloc (Nat.le_refl _) _).alloc (by simp) _).alloc (by simp; omega) _)
  rintro e w1 ⟨v, rfl, hM, hb1⟩
  obtain ⟨A1, c1, rfl⟩ := hM.shape
  have HM0 := hide hM
  have HS0 := hide hb1
  have HB0 := hide (((((Below.refl _ _).alloc (Nat.le_refl _) _).alloc (by simp) _).alloc (by simp; omega) _).trans (hb1.mono (by simp; omega)) : Below w.heap.size w w1)
  obtain ⟨hc0, hf0, hs0⟩ := bcell hb1
  simp only [World.size_alloc, World.size_setCell] at hs0
  have hz0 : w.heap.size + 1 + 1 < w1.heap.size := by omega
  have hy0 : w.heap.size < w1.heap.size := by omega
  have hle0 : w.heap.size ≤ w1.heap.size := by omega
  have hx0 : w.heap.size + 1 < w1.heap.size := by omega
  clear hM hb1 hs0
  go_wp2_with fail
  have HZ : Hid (∀ wz, Chg [w.heap.size + 1, w.heap.size + 1 + 1] w1 wz → RetElem postD w x (.returned (.agg #[.int .i64 x.limit, .slice A1 x.boxes.length c1])) wz) := by
    intro wz hch
    have c0_ : Chg [w.heap.size + 1, w.heap.size + 1 + 1] w1 wz := hch
    obtain ⟨F1, hm1, hn1, hF1⟩ := HM0.out
    have hl1 := hm1.lt
    have m1 := hm1.move fun b hb => c0_.block b (hl1 b hb) (by intro hg; have := hF1 b hb; simp at this hg; omega)
    refine ⟨_, F1, rfl, post_M_mk m1, hn1, ?_, ?_⟩
    · intro b hb; have := hF1 b hb; simp at this; omega
    · exact HB0.out.trans (hch.below (by omega) (by intro k hk; simp at hk; omega))
  refine bodyPost_ret (v := .agg #[.int .i64 x.limit, .slice A1 x.boxes.length c1]) (by simp [results, Try.results9, go_sem, hc0, hz0, hy0, hx0]) rfl (HZ.out _ ?_)
  repeat (with_reducible refine Chg.setCell ?_ (.inl (by simp)) _)
  exact Chg.refl _ _
set_option maxHeartbeats 2000000 in
theorem szPost_c (x : Post) (v1 : Value) (left : Int) (w : World) (h1 : SliceK boxD w v1 x.boxes) (b0 : 0 ≤ left) (b1 : left ≤ 1048576) (hok : okPost x) :
    Calls Try.prog 7 #[.agg #[.int .i64 x.limit, v1], .int .i64 left] w fun e w' => RetSz left (sizePost x) e ∧ Below w.heap.size w w' := by
  have H1 := hide h1
  clear h1
  have HK := hide hok
  unfold okPost at hok
  have ho1 := hok
  have O1 := hide ho1
  clear ho1
  clear hok
  have HB := hide ((Below.refl w.heap.size w).alloc (Nat.le_refl _) (.cells #[.int .i64 x.limit, v1] 24))
  go_enter Try.func7, Try.ntmps7
  go_wp2_with (first | (go_at_call 25; ((with_reducible refine (szBoxS_c _ x.boxes _ _ (H1.out.below HB.out) (by omega) (by omega) O1.out).mono ?_); rintro e w1 ⟨⟨r1, rfl, hr1⟩, hb1⟩; have hd1 := szR_bd hr1 (by omega); have R1 := hide hr1; have HN := hide (HB.out.trans (hb1.mono HB.out.size)); obtain ⟨hc, hf, hs⟩ := bcell hb1; have hy : w.heap.size < w1.heap.size := (by ((try simp only [World.size_alloc] at hs); omega)); clear hs hb1 HB hr1; have HB := HN; clear HN)))
  all_goals
    go_ret
    refine ⟨⟨_, rfl, ?_⟩, HB.out⟩
    try have e1 := szR_spec R1.out (by omega)
    unfold szR sizePost
    split <;> omega
def tcntPost (x : Post) : Nat := cntAll cntBox x.boxes
def tmkPost (k : Int) (x : Post) : Post := { x with boxes := markAll cntBox mkBox (k) x.boxes }
theorem tcntPost_mk (k : Int) (x : Post) : tcntPost (tmkPost k x) = tcntPost x := by simp [tcntPost, tmkPost, marks_len, cntAll_mark cntBox_mk, markAll_mark cntBox_mk mkBox_mk, marks_len]
theorem tmkPost_mk (k : Int) (x : Post) : tmkPost k (tmkPost k x) = tmkPost k x := by simp [tmkPost, marks_len, cntAll_mark cntBox_mk, markAll_mark cntBox_mk mkBox_mk, marks_len]
def theldPost (k : Int) (x : Post) : Int := if x = tmkPost k x then k + tcntPost x else -1
theorem theldPost_nn {k : Int} (h : 0 ≤ k) (x : Post) : theldPost k x < 0 ↔ ¬ x = tmkPost k x := by
  unfold theldPost; split
  · rename_i h1; constructor
    · intro h2; omega
    · intro h2; exact absurd h1 h2
  · rename_i h1; exact ⟨fun _ => h1, fun _ => by omega⟩
theorem theldPost_mk (k : Int) (x : Post) : theldPost k (tmkPost k x) = k + tcntPost x := by
  unfold theldPost
  rw [if_pos (tmkPost_mk k x).symm, tcntPost_mk]
set_option maxHeartbeats 4000000 in
theorem markPost_c (x : Post) (cs : List Value) (F : List Nat) (k : Int) (w : World) (h : postD.M w x cs F) (hn : F.Nodup) (h0 : 0 ≤ k) (h1 : k + tcntPost x ≤ 1000000000000) :
    Calls Try.prog 12 #[.agg cs.toArray, .int .i64 k] w (RetMarkT postD w (tcntPost x) (tmkPost k x) cs F k) := by
  unfold tcntPost at h1
  obtain ⟨v1, F1, rfl, rfl, g1⟩ := post_M h
  have hnn := hn
  have HN := hide hn
  have HNN := hide hnn
  clear h hn hnn
  have M1 := hide g1
  clear g1
  have HC := hide ((Chg.refl (F) w).alloc (.cells #[.int .i64 x.limit, v1] 28))
  have HB := hide (Below.refl w.heap.size w |>.alloc (Nat.le_refl _) (.cells #[.int .i64 x.limit, v1] 28))
  have M1 := hide (M1.out.move (fun b hb => HB.out.block b (M1.out.lt b hb)))
  go_enter Try.func12, Try.ntmps12
  go_wp2_with fail
  refine (markBoxS_c _ x.boxes _ _ _ M1.out HN.out (by omega) (by omega)).mono ?_
  rintro e w1 ⟨rfl, hMk, hCk⟩
  have HK1 := hide hCk
  have HC := hide (HC.out.trans (hCk.mono (fun b hb => .inl (by simp [hb]))))
  have N1 := hide hMk
  clear hMk hCk
  go_wp2_with fail
  go_ret
  refine ⟨?_, post_M_mk (x := tmkPost k x) N1.out, HC.out⟩
  simp only [tcntPost]
  exact ret_int (by first | rfl | omega)
theorem tmkPost_iff (k : Int) (x : Post) : x = tmkPost k x ↔ x.boxes = markAll cntBox mkBox (k) x.boxes := by cases x; simp [tmkPost]
theorem theldPost_spec {k r : Int} {x : Post} (h : r = theldPost k x) (h0 : 0 ≤ k) : (r = k + tcntPost x ∧ x = tmkPost k x) ∨ (r = -1 ∧ ¬ x = tmkPost k x) := by
  subst h; unfold theldPost; split
  · rename_i h1; exact .inl ⟨rfl, h1⟩
  · rename_i h1; exact .inr ⟨rfl, h1⟩
set_option maxHeartbeats 4000000 in
theorem heldPost_c (x : Post) (v1 : Value) (k : Int) (w : World) (h1 : SliceK boxD w v1 x.boxes) (b0 : 0 ≤ k) (b1 : k + tcntPost x ≤ 1000000000000) :
    Calls Try.prog 13 #[.agg #[.int .i64 x.limit, v1], .int .i64 k] w fun e w' => e = .returned (.int .i64 (theldPost k x)) ∧ Below w.heap.size w w' := by
  unfold tcntPost at b1
  have H1 := hide h1
  clear h1
  have HB := hide ((Below.refl w.heap.size w).alloc (Nat.le_refl _) (.cells #[.int .i64 x.limit, v1] 28))
  go_enter Try.func13, Try.ntmps13
  go_wp2_with (first | (go_at_call 36; ((with_reducible refine (heldBoxS_c _ x.boxes _ _ (H1.out.below HB.out) (by omega) (by omega)).mono ?_); rintro e w1 ⟨rfl, hb1⟩; have HN := hide (HB.out.trans (hb1.mono HB.out.size)); obtain ⟨hc, hf, hs⟩ := bcell hb1; have hy : w.heap.size < w1.heap.size := (by ((try simp only [World.size_alloc] at hs); omega)); clear hs hb1 HB; have HB := HN; clear HN; obtain ⟨r0, hr0⟩ : ∃ r, r = heldAll cntBox mkBox (k) x.boxes := ⟨_, rfl⟩; rw [← hr0]; have hd0 : -1 ≤ r0 ∧ r0 ≤ k + cntAll cntBox x.boxes := (by rcases heldAll_spec hr0 (by omega) with h | h <;> omega); have R0 := hide hr0; clear hr0)))
  · go_ret
    refine ⟨?_, HB.out⟩
    have s0 := heldAll_spec R0.out (by omega)
    have hne : ¬ x = tmkPost k x := fun hx => by
      have hx2 := (tmkPost_iff k x).1 hx
      rcases s0 with ⟨e0, m0⟩ | ⟨e0, m0⟩
      · omega
      · exact m0 hx2
    rw [show theldPost k x = -1 from if_neg hne]
    rfl
  · go_ret
    refine ⟨?_, HB.out⟩
    have s0 := heldAll_spec R0.out (by omega)
    rcases s0 with ⟨e0, m0⟩ | ⟨e0, _⟩
    case inr => omega
    have hx : x = tmkPost k x := (tmkPost_iff k x).2 m0
    rw [show theldPost k x = r0 from by unfold theldPost tcntPost; rw [if_pos hx]; omega]
    rfl
end Go.Proofs.Ytdmhjfajicclaaa
namespace Go.Proofs.Ytdmhjfajicclaaa
open Go Go.RowKit Go.ChangeShapes Go.WideShapes Go.Deep
set_option linter.unusedVariables false

theorem opens_parcel : Opens Try.prog parcelD (fun _ => True) 73 := by
  intro H enc W held fuel cs y h
  obtain ⟨hl, hf⟩ := open_fields Try.underlying73 (by kernel_rfl) (by kernel_rfl) h
  obtain ⟨v0, n0, z0, c0, t0⟩ := hf 0 _ rfl
  obtain ⟨v1, n1, z1, c1, t1⟩ := hf 1 _ rfl
  obtain ⟨x0, hx0, -, -⟩ := DataW.trod_int Try.underlying2 t0
  obtain ⟨x1, hx1, -, -⟩ := DataW.trod_int Try.underlying2 t1
  simp only [List.cons.injEq, and_true] at hx0 hx1
  subst hx0 hx1
  match cs, hl with
  | [_, _], _ =>
    simp at c0 c1
    subst c0 c1
    exact ⟨⟨x0, x1⟩, rfl, trivial⟩
theorem opens_box : Opens Try.prog boxD okBox 79 := by
  intro H enc W held fuel cs y h
  obtain ⟨hl, hf⟩ := open_fields Try.underlying79 (by kernel_rfl) (by kernel_rfl) h
  obtain ⟨v0, n0, z0, c0, t0⟩ := hf 0 _ rfl
  obtain ⟨v1, n1, z1, c1, t1⟩ := hf 1 _ rfl
  obtain ⟨v2, n2, z2, c2, t2⟩ := hf 2 _ rfl
  obtain ⟨v3, n3, z3, c3, t3⟩ := hf 3 _ rfl
  obtain ⟨x0, hx0, -, hs0⟩ := DataW.trod_string Try.underlying9 t0
  obtain ⟨x1, hx1, -, -⟩ := DataW.trod_int Try.underlying2 t1
  obtain ⟨x2, hx2, -, -⟩ := DataW.trod_int Try.underlying2 t2
  obtain ⟨x3, hx3, -⟩ := opens_slice Try.underlying41 (by kernel_rfl) (by decide) opens_parcel H enc W held n3 v3 _ t3
  simp only [List.cons.injEq, and_true] at hx0 hx1 hx2
  subst hx0 hx1 hx2
  match cs, hl with
  | [_, _, _, _], _ =>
    simp at c0 c1 c2 c3
    subst c0 c1 c2 c3
    exact ⟨⟨x0, x1, x2, x3⟩, box_K_mk hx3, hs0⟩
set_option maxRecDepth 100000 in
theorem open_post {H : Type} {enc : TypeId × Value → H} {W : World} {held : Bool} {b0 : Nat} {v : Value} {d : DataW H} {ps : List MemPlace} (hv : Value.okWide Try.prog W .any b0 24 v)
    (h : DataW.Trod enc Try.prog W 0 (fun _ => true) held 24 v d ps) : ∃ (x : Post) (v1 : Value), v = .agg #[.int .i64 x.limit, v1] ∧ SliceK boxD W v1 x.boxes ∧ okPost x := by
  obtain ⟨cs, rfl, hsz⟩ := okWide_struct Try.underlying24 hv
  obtain ⟨fuel, h⟩ := h
  obtain ⟨hl, hf⟩ := open_fields Try.underlying24 (by kernel_rfl) (by kernel_rfl) h
  obtain ⟨v0, n0, z0, c0, t0⟩ := hf 0 _ rfl
  obtain ⟨v1, n1, z1, c1, t1⟩ := hf 1 _ rfl
  obtain ⟨x0, hx0, -, -⟩ := DataW.trod_int Try.underlying2 t0
  obtain ⟨x1, hx1, hk1⟩ := opens_slice Try.underlying22 (by kernel_rfl) (by decide) opens_box H enc W held n1 v1 _ t1
  simp only [List.cons.injEq, and_true] at hx0
  subst hx0
  obtain ⟨l⟩ := cs
  simp only [Value.cells] at c0 c1 hl
  match l, hl with
  | [_, _], _ =>
    simp at c0 c1
    subst c0 c1
    exact ⟨⟨x0, x1⟩, _, rfl, hx1, hk1⟩
end Go.Proofs.Ytdmhjfajicclaaa
namespace Go.Proofs.Ytdmhjfajicclaaa
open Go Go.RowKit
set_option linter.unusedVariables false

theorem post_MK {w : World} {x : Post} {v1 : Value} {F : List Nat} (h : postD.M w x [.int .i64 x.limit, v1] F) : SliceK boxD w v1 x.boxes := by
  obtain ⟨u1, h1, h2⟩ := post_K (postD.M_K h)
  simp only [List.cons.injEq, and_true, true_and] at h1
  subst h1
  exact h2
end Go.Proofs.Ytdmhjfajicclaaa
