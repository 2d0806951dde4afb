/- The Go structs of the part Log as Lean structures, and how they lie in cells. The laws' own helpers on the structs of the part Log. A log that comes from without, read as plain data. The Go structs of the part Index as Lean structures, and how they lie in cells. The laws' own helpers on the structs of the part Index. -/
import Derived.Test.YticjphaagmnahaaRGround
import Derived.StillTailTactics
import Derived.Deep.RegionWith
namespace Go.Proofs.Yticjphaagmnahaa
open Go Go.RowKit
set_option linter.unusedVariables false
set_option linter.unusedSimpArgs false

/-! ### Message -/
structure Message where
  number : Int
  sender : Int
  at_ : Int
  text : ByteArray
  edits : Int
  gone : Bool
  reply : Int
  likes : List Int
  deriving DecidableEq, Inhabited
def messageD : Dt Message := Dt.cat (Dt.flat 7 (fun x : Message => [.int .i64 x.number, .int .i64 x.sender, .int .i64 x.at_, .string x.text, .int .i64 x.edits, .bool x.gone, .int .i64 x.reply]) (fun _ => rfl) (fun x u hu => by simp at hu; rcases hu with rfl | rfl | rfl | rfl | rfl | rfl | rfl <;> rfl)) ((Dt.slice 2 intD).iso (fun x : Message => x.likes))
theorem message_K {w : World} {x : Message} {cs : List Value} (h : messageD.K w x cs) : ∃ v7, cs = [.int .i64 x.number, .int .i64 x.sender, .int .i64 x.at_, .string x.text, .int .i64 x.edits, .bool x.gone, .int .i64 x.reply, v7] ∧ SliceK intD w v7 x.likes := by
  obtain ⟨_, _, rfl, rfl, ⟨v7, rfl, h7⟩⟩ := h
  exact ⟨v7, rfl, h7⟩
theorem message_K_mk {w : World} {x : Message} {v7 : Value} (h7 : SliceK intD w v7 x.likes) : messageD.K w x [.int .i64 x.number, .int .i64 x.sender, .int .i64 x.at_, .string x.text, .int .i64 x.edits, .bool x.gone, .int .i64 x.reply, v7] := by
  exact ⟨_, _, rfl, rfl, ⟨v7, rfl, h7⟩⟩
theorem message_M {w : World} {x : Message} {cs : List Value} {F : List Nat} (h : messageD.M w x cs F) : ∃ v7 F7, cs = [.int .i64 x.number, .int .i64 x.sender, .int .i64 x.at_, .string x.text, .int .i64 x.edits, .bool x.gone, .int .i64 x.reply, v7] ∧ F = F7 ∧ SliceM intD 2 w v7 x.likes F7 := by
  obtain ⟨_, _, _, F7, rfl, rfl, ⟨rfl, rfl⟩, ⟨v7, rfl, h7⟩⟩ := h
  exact ⟨v7, F7, rfl, by simp, h7⟩
theorem message_M_mk {w : World} {x : Message} {v7 : Value} {F7 : List Nat} (h7 : SliceM intD 2 w v7 x.likes F7) : messageD.M w x [.int .i64 x.number, .int .i64 x.sender, .int .i64 x.at_, .string x.text, .int .i64 x.edits, .bool x.gone, .int .i64 x.reply, v7] (F7) := by
  exact ⟨_, _, [], F7, rfl, by simp, ⟨rfl, rfl⟩, ⟨v7, rfl, h7⟩⟩
theorem message_at {w W : World} {b o j : Nat} {xs : List Message} {x : Message} (h : RowAt messageD w b o xs) (hb : Below w.heap.size w W) (hj : xs[j]? = some x) : ∃ v7, SliceK intD W v7 x.likes ∧ b < W.heap.size ∧ W.cell? ⟨b, o + j * 8, none⟩ = some (.int .i64 x.number) ∧ W.cell? ⟨b, o + j * 8 + 1, none⟩ = some (.int .i64 x.sender) ∧ W.cell? ⟨b, o + j * 8 + 2, none⟩ = some (.int .i64 x.at_) ∧ W.cell? ⟨b, o + j * 8 + 3, none⟩ = some (.string x.text) ∧ W.cell? ⟨b, o + j * 8 + 4, none⟩ = some (.int .i64 x.edits) ∧ W.cell? ⟨b, o + j * 8 + 5, none⟩ = some (.bool x.gone) ∧ W.cell? ⟨b, o + j * 8 + 6, none⟩ = some (.int .i64 x.reply) ∧ W.cell? ⟨b, o + j * 8 + 7, none⟩ = some (v7) := by
  obtain ⟨cs, hk, hc⟩ := (h.below hb) j x hj
  obtain ⟨v7, rfl, h7⟩ := message_K hk
  have hc : ∀ i u, ([.int .i64 x.number, .int .i64 x.sender, .int .i64 x.at_, .string x.text, .int .i64 x.edits, .bool x.gone, .int .i64 x.reply, v7] : List Value)[i]? = some u → W.cell? ⟨b, o + j * 8 + i, none⟩ = some u := hc
  exact ⟨v7, h7, World.block_lt_of_cell? W _ (hc 0 _ rfl), hc 0 _ rfl, hc 1 _ rfl, hc 2 _ rfl, hc 3 _ rfl, hc 4 _ rfl, hc 5 _ rfl, hc 6 _ rfl, hc 7 _ rfl⟩

/-! ### Log -/
structure Log where
  next : Int
  messages : List Message
  deriving DecidableEq, Inhabited
def logD : Dt Log := Dt.cat (Dt.flat 1 (fun x : Log => [.int .i64 x.next]) (fun _ => rfl) (fun x u hu => by simp at hu; subst hu; rfl)) ((Dt.slice 47 messageD).iso (fun x : Log => x.messages))
theorem log_K {w : World} {x : Log} {cs : List Value} (h : logD.K w x cs) : ∃ v1, cs = [.int .i64 x.next, v1] ∧ SliceK messageD w v1 x.messages := by
  obtain ⟨_, _, rfl, rfl, ⟨v1, rfl, h1⟩⟩ := h
  exact ⟨v1, rfl, h1⟩
theorem log_K_mk {w : World} {x : Log} {v1 : Value} (h1 : SliceK messageD w v1 x.messages) : logD.K w x [.int .i64 x.next, v1] := by
  exact ⟨_, _, rfl, rfl, ⟨v1, rfl, h1⟩⟩
theorem log_M {w : World} {x : Log} {cs : List Value} {F : List Nat} (h : logD.M w x cs F) : ∃ v1 F1, cs = [.int .i64 x.next, v1] ∧ F = F1 ∧ SliceM messageD 47 w v1 x.messages F1 := by
  obtain ⟨_, _, _, F1, rfl, rfl, ⟨rfl, rfl⟩, ⟨v1, rfl, h1⟩⟩ := h
  exact ⟨v1, F1, rfl, by simp, h1⟩
theorem log_M_mk {w : World} {x : Log} {v1 : Value} {F1 : List Nat} (h1 : SliceM messageD 47 w v1 x.messages F1) : logD.M w x [.int .i64 x.next, v1] (F1) := by
  exact ⟨_, _, [], F1, rfl, by simp, ⟨rfl, rfl⟩, ⟨v1, rfl, h1⟩⟩
theorem log_at {w W : World} {b o j : Nat} {xs : List Log} {x : Log} (h : RowAt logD w b o xs) (hb : Below w.heap.size w W) (hj : xs[j]? = some x) : ∃ v1, SliceK messageD W v1 x.messages ∧ b < W.heap.size ∧ W.cell? ⟨b, o + j * 2, none⟩ = some (.int .i64 x.next) ∧ W.cell? ⟨b, o + j * 2 + 1, none⟩ = some (v1) := by
  obtain ⟨cs, hk, hc⟩ := (h.below hb) j x hj
  obtain ⟨v1, rfl, h1⟩ := log_K hk
  have hc : ∀ i u, ([.int .i64 x.next, v1] : List Value)[i]? = some u → W.cell? ⟨b, o + j * 2 + i, none⟩ = some u := hc
  exact ⟨v1, h1, World.block_lt_of_cell? W _ (hc 0 _ rfl), hc 0 _ rfl, hc 1 _ rfl⟩
end Go.Proofs.Yticjphaagmnahaa
namespace Go.Proofs.Yticjphaagmnahaa
open Go Go.RowKit
set_option linter.unusedVariables false
set_option linter.unusedSimpArgs false

/-! ### Message -/
def sizeMessage (x : Message) : Nat := x.text.size + x.likes.length
/-- Its strings are no longer than a machine holds. -/
def okMessage (x : Message) : Prop := x.text.size ≤ 9223372036854775807
def fewMessage (x : Message) : Prop := x.likes.length ≤ 1048576
def eqMessageB (a b : Message) : Bool := !(a.number != b.number) && !(a.sender != b.sender) && !(a.at_ != b.at_) && !(!(a.text.toList == b.text.toList)) && !(a.edits != b.edits) && !(!(a.gone == b.gone)) && !(a.reply != b.reply) && !(!(decide (a.likes = b.likes)))
theorem eqMessageB_iff (a b : Message) : eqMessageB a b = true ↔ a = b := by
  cases a; cases b
  simp [eqMessageB, bytes_eq, and_assoc]
theorem eqMessageB_eq (a b : Message) : eqMessageB a b = decide (a = b) := by
  rw [Bool.eq_iff_iff, eqMessageB_iff, decide_eq_true_iff]
set_option maxHeartbeats 2000000 in
theorem eqMessage_c (x y : Message) (v7 u7 : Value) (w : World) (h7 : SliceK intD w v7 x.likes) (g7 : SliceK intD w u7 y.likes) :
    Calls Try.prog 28 #[.agg #[.int .i64 x.number, .int .i64 x.sender, .int .i64 x.at_, .string x.text, .int .i64 x.edits, .bool x.gone, .int .i64 x.reply, v7], .agg #[.int .i64 y.number, .int .i64 y.sender, .int .i64 y.at_, .string y.text, .int .i64 y.edits, .bool y.gone, .int .i64 y.reply, u7]] w fun e w' => e = .returned (.bool (eqMessageB x y)) ∧ Below w.heap.size w w' := by
  have H7 := hide h7
  have G7 := hide g7
  clear h7 g7
  have HB := hide (((Below.refl w.heap.size w).alloc (Nat.le_refl _) (.cells #[.int .i64 x.number, .int .i64 x.sender, .int .i64 x.at_, .string x.text, .int .i64 x.edits, .bool x.gone, .int .i64 x.reply, v7] 47)).alloc (by simp) (.cells #[.int .i64 y.number, .int .i64 y.sender, .int .i64 y.at_, .string y.text, .int .i64 y.edits, .bool y.gone, .int .i64 y.reply, u7] 47))
  go_enter Try.func28, Try.ntmps28
  go_wp2_with (first | (go_at_call 17; ((with_reducible refine (eqInt64S_c _ _ _ _ _ (H7.out.below HB.out) (G7.out.below HB.out)).mono ?_); rintro e w1 ⟨rfl, hb1⟩; have HN := hide (HB.out.trans (hb1.mono HB.out.size)); obtain ⟨hc, hf, hs⟩ := bcell hb1; have hz : w.heap.size + 1 < w1.heap.size := (by ((try simp only [World.size_alloc] at hs); omega)); have hy : w.heap.size < w1.heap.size := (by omega); clear hs hb1 HB; have HB := HN; clear HN)))
  all_goals
    go_ret
    refine ⟨?_, HB.out⟩
    first
    | (rw [show eqMessageB x y = false from by simp only [eqMessageB, decide_true, decide_false, Bool.not_true, Bool.not_false, Bool.and_false, Bool.false_and, Bool.and_true, Bool.true_and, *]]; rfl)
    | (rw [show eqMessageB x y = true from by simp only [eqMessageB, decide_true, decide_false, Bool.not_true, Bool.not_false, Bool.and_false, Bool.false_and, Bool.and_true, Bool.true_and, *]]; rfl)
set_option maxHeartbeats 2000000 in
set_option maxRecDepth 100000 in
theorem eqMessageS_c (va vb : Value) (a b : List Message) (w : World) (ha : SliceK messageD w va a) (hb : SliceK messageD w vb b) :
    Calls Try.prog 82 #[va, vb] w fun e w' => e = .returned (.bool (decide (a = b))) ∧ Below w.heap.size w w' := by
  obtain ⟨A, c, rfl, hl1, hm1, hra⟩ := ha
  obtain ⟨B, c', rfl, hl2, hm2, hrb⟩ := hb
  by_cases hlen : a.length = b.length
  · have hne : (((a.length : Nat) : Int) != ((b.length : Nat) : Int)) = false := by simp [hlen]
    have HL := hide hlen
    have HA := hide hra
    have HB := hide hrb
    clear hlen hra hrb
    go_enter Try.func82, Try.ntmps82
    go_wp2
    go_loopg [5] a.length (fun gg s5 wr => ∃ k : Nat, k ≤ a.length ∧ a.length - k ≤ gg ∧ s5 = .int .i64 k ∧ Hid (a.take k = b.take k) ∧ Hid (Below w.heap.size w wr))
    case atStart => exact ⟨0, Nat.zero_le _, by omega, rfl, rfl, Below.refl _ _⟩
    case round =>
      obtain ⟨k, hk, hg, rfl, HT, HW⟩ := hrel
      by_cases hlt : k < a.length
      · obtain ⟨x, hx⟩ : ∃ x, a[k]? = some x := ⟨_, List.getElem?_eq_getElem hlt⟩
        obtain ⟨y, hy⟩ : ∃ y, b[k]? = some y := ⟨_, List.getElem?_eq_getElem (by have := HL.out; omega)⟩
        have hkb : k < b.length := by have := HL.out; omega
        rcases HA.out with rfl | ⟨p, o, rfl, hra⟩
        · simp at hlt
        rcases HB.out with rfl | ⟨p', o', rfl, hrb⟩
        · simp at hkb
        obtain ⟨v7, h7, p, hc0, hc1, hc2, hc3, hc4, hc5, hc6, hc7⟩ := message_at hra HW.out hx
        obtain ⟨u7, g7, p', gc0, gc1, gc2, gc3, gc4, gc5, gc6, gc7⟩ := message_at hrb HW.out hy
        have HX := hide hx
        have HY := hide hy
        have H7 := hide h7
        have G7 := hide g7
        clear hx hy hra hrb HA HB h7 g7
        go_wp2
        go_still_tail 8, (by kernel_rfl)
        change wpList _ _ _ _ _ wr.drew
        go_wp2_with (go_at_call 28; refine (eqMessage_c x y v7 u7 _ (H7.out.below ((Below.refl _ _).drew)) (G7.out.below ((Below.refl _ _).drew))).mono ?_; rintro e w1 ⟨rfl, hb1⟩; have H1 := hide (HW.out.drew.trans (hb1.mono (by simpa using HW.out.size))); clear hb1)
        · have hq : ¬ x = y := fun e => by rw [(eqMessageB_iff x y).2 e] at *; contradiction
          go_ret
          exact ⟨by rw [eqAll_pre HT.out HX.out HY.out hq]; rfl, H1.out⟩
        · have hq : eqMessageB x y = true := by simpa using ‹(!eqMessageB x y) = false›
          have HQ := hide ((eqMessageB_iff x y).1 hq)
          clear hq
          go_roundg (a.length - (k + 1))
          case measure => omega
          case rel => exact ⟨k + 1, by omega, by omega, by go_num, hide (by rw [List.take_add_one, List.take_add_one, HX.out, HY.out, HT.out, HQ.out]), H1⟩
      · have : k = a.length := by omega
        subst this
        go_wp2
        go_ret
        exact ⟨by rw [show decide (a = b) = true from by rw [decide_eq_true_iff]; have := HT.out; rw [List.take_length] at this; rw [this, HL.out, List.take_length]]; rfl, HW.out⟩
  · have hne : (((a.length : Nat) : Int) != ((b.length : Nat) : Int)) = true := by simp; omega
    have he : decide (a = b) = false := decide_eq_false (by rintro rfl; exact hlen rfl)
    have HE := hide he
    clear he hlen hra hrb
    go_enter Try.func82, Try.ntmps82
    go_wp2
    go_ret
    exact ⟨by rw [HE.out]; rfl, Below.refl _ _⟩
set_option maxHeartbeats 2000000 in
theorem toMessage_c (x : Message) (v7 : Value) (w : World) (h7 : SliceK intD w v7 x.likes) (hw : fewMessage x) :
    Calls Try.prog 26 #[.agg #[.int .i64 x.number, .int .i64 x.sender, .int .i64 x.at_, .string x.text, .int .i64 x.edits, .bool x.gone, .int .i64 x.reply, v7]] w (RetElem messageD w x) := by
  have n7 : _ ≤ 1048576 := hw
  have H7 := hide h7
  clear h7
  go_enter Try.func26, Try.ntmps26
  go_wp2_with fail
  refine (toInt64S_c _ x.likes _ (H7.out.below ?hb0) n7).mono ?_
  case hb0 => exact ((((Below.refl _ _).alloc (Nat.le_refl _) _).alloc (by simp) _).alloc (by simp; omega) _)
  rintro e w1 ⟨v, rfl, hM, hb1⟩
  obtain ⟨A7, c7, rfl⟩ := hM.shape
  have HM0 := hide hM
  have HS0 := hide hb1
  have HB0 := hide (((((Below.refl _ _).alloc (Nat.le_refl _) _).alloc (by simp) _).alloc (by simp; omega) _).trans (hb1.mono (by simp; omega)) : Below w.heap.size w w1)
  obtain ⟨hc0, hf0, hs0⟩ := bcell hb1
  simp only [World.size_alloc, World.size_setCell] at hs0
  have hz0 : w.heap.size + 1 + 1 < w1.heap.size := by omega
  have hy0 : w.heap.size < w1.heap.size := by omega
  have hle0 : w.heap.size ≤ w1.heap.size := by omega
  have hx0 : w.heap.size + 1 < w1.heap.size := by omega
  clear hM hb1 hs0
  go_wp2_with fail
  have HZ : Hid (∀ wz, Chg [w.heap.size + 1, w.heap.size + 1 + 1] w1 wz → RetElem messageD w x (.returned (.agg #[.int .i64 x.number, .int .i64 x.sender, .int .i64 x.at_, .string x.text, .int .i64 x.edits, .bool x.gone, .int .i64 x.reply, .slice A7 x.likes.length c7])) wz) := by
    intro wz hch
    have c0_ : Chg [w.heap.size + 1, w.heap.size + 1 + 1] w1 wz := hch
    obtain ⟨F7, hm7, hn7, hF7⟩ := HM0.out
    have hl7 := hm7.lt
    have m7 := hm7.move fun b hb => c0_.block b (hl7 b hb) (by intro hg; have := hF7 b hb; simp at this hg; omega)
    refine ⟨_, F7, rfl, message_M_mk m7, hn7, ?_, ?_⟩
    · intro b hb; have := hF7 b hb; simp at this; omega
    · exact HB0.out.trans (hch.below (by omega) (by intro k hk; simp at hk; omega))
  refine bodyPost_ret (v := .agg #[.int .i64 x.number, .int .i64 x.sender, .int .i64 x.at_, .string x.text, .int .i64 x.edits, .bool x.gone, .int .i64 x.reply, .slice A7 x.likes.length c7]) (by simp [results, Try.results26, go_sem, hc0, hz0, hy0, hx0]) rfl (HZ.out _ ?_)
  repeat (with_reducible refine Chg.setCell ?_ (.inl (by simp)) _)
  exact Chg.refl _ _
theorem infoMessage : (Try.prog.info? 47).map (fun i => (i.zero, i.size, i.bytes)) = some (some (.agg #[(.int .i64 0), (.int .i64 0), (.int .i64 0), (.string ⟨#[]⟩), (.int .i64 0), (.bool false), (.int .i64 0), (.slice none 0 0)]), 8, 88) := by kernel_rfl
set_option maxHeartbeats 2000000 in
set_option maxRecDepth 100000 in
theorem toMessageS_c (v : Value) (a : List Message) (w : World) (ha : SliceK messageD w v a) (hn : a.length ≤ 1048576) (hw : ∀ x ∈ a, fewMessage x) :
    Calls Try.prog 76 #[v] w (RetMade messageD 47 w a) := by
  obtain ⟨A, c, rfl, hl1, hm1, hra⟩ := ha
  have HA := hide hra
  have HWH := hide hw
  clear hw
  have hmk := run_mk (P := Try.prog) 56 47 (.agg #[(.int .i64 0), (.int .i64 0), (.int .i64 0), (.string ⟨#[]⟩), (.int .i64 0), (.bool false), (.int .i64 0), (.slice none 0 0)]) 8 88 Try.underlying56 infoMessage a.length (by omega) (by omega)
  clear hra
  go_enter Try.func76, Try.ntmps76
  go_wp2_with fail
  obtain ⟨B, hB⟩ : ∃ B, B = w.heap.size := ⟨_, rfl⟩
  have HBs := hide hB
  rw [← hB]
  have H0 : ∃ cur css Fs, Row messageD 47 (w.alloc (Obj.cells (mkRow (.agg #[(.int .i64 0), (.int .i64 0), (.int .i64 0), (.string ⟨#[]⟩), (.int .i64 0), (.bool false), (.int .i64 0), (.slice none 0 0)]) (a.length * 8)) 47)) B a.length cur css Fs (a.take 0) ∧ (B :: Fs.flatten).Nodup ∧ (∀ q ∈ B :: Fs.flatten, w.heap.size ≤ q) :=
    ⟨_, [], [], by rw [hB]; exact Row.start (d := messageD) (by omega), by simp, by intro q hq; simp at hq; omega⟩
  have H0 := hide H0
  clear hB
  go_loopg [4] a.length (fun gg s4 wr => ∃ k : Nat, k ≤ a.length ∧ a.length - k ≤ gg ∧ s4 = .int .i64 k ∧ Hid (∃ cur css Fs, Row messageD 47 wr B a.length cur css Fs (a.take k) ∧ (B :: Fs.flatten).Nodup ∧ (∀ q ∈ B :: Fs.flatten, w.heap.size ≤ q)) ∧ Hid (Below w.heap.size w wr))
  case atStart => exact ⟨0, Nat.zero_le _, by omega, rfl, H0, (Below.refl _ _).alloc (Nat.le_refl _) _⟩
  case round =>
    obtain ⟨k, hk, hg, rfl, HR, HW⟩ := hrel
    clear H0 hmk
    by_cases hlt : k < a.length
    · obtain ⟨x, hx⟩ : ∃ x, a[k]? = some x := ⟨_, List.getElem?_eq_getElem hlt⟩
      rcases HA.out with rfl | ⟨p, o, rfl, hra⟩
      · simp at hlt
      obtain ⟨v7, h7, p, hc0, hc1, hc2, hc3, hc4, hc5, hc6, hc7⟩ := message_at hra HW.out hx
      have hfew := hide (HWH.out x (List.mem_of_getElem? hx))
      have H7 := hide h7
      have HX := hide hx
      clear hx hra HA h7
      go_wp2_with fail
      refine (toMessage_c x _ _ (H7.out) hfew.out).mono ?_
      rintro e w1 ⟨cs, G, rfl, hm, hnd, hG, hb1⟩
      obtain ⟨cur, css, Fs, hrow, hnF, hgF⟩ := HR.out
      have HM := hide hm
      obtain ⟨t7, G7, rfl, hGe, g7⟩ := message_M hm
      obtain ⟨A7, c7, rfl⟩ := g7.toK.shape
      clear g7
      have hsz : cur.size = a.length * 8 := hrow.size
      have hlB : B < wr.heap.size := block_lt hrow.blk
      have hblk1 : w1.heap[B]? = some (.cells cur 47 (0, 0)) := (hb1.block B hlB).trans hrow.blk
      have hfz : ∀ o, w1.frozen? ⟨B, o, none⟩ = false := fun o => frozen_block hblk1
      have hlB1 : B < w1.heap.size := block_lt hblk1
      obtain ⟨z0, hz0⟩ : ∃ z, w1.cell? ⟨B, k * 8, none⟩ = some z := ⟨cur[k * 8]'(by omega), by rw [cell_block hblk1]; exact Array.getElem?_eq_getElem (by omega)⟩
      obtain ⟨z1, hz1⟩ : ∃ z, w1.cell? ⟨B, k * 8 + 1, none⟩ = some z := ⟨cur[k * 8 + 1]'(by omega), by rw [cell_block hblk1]; exact Array.getElem?_eq_getElem (by omega)⟩
      obtain ⟨z2, hz2⟩ : ∃ z, w1.cell? ⟨B, k * 8 + 2, none⟩ = some z := ⟨cur[k * 8 + 2]'(by omega), by rw [cell_block hblk1]; exact Array.getElem?_eq_getElem (by omega)⟩
      obtain ⟨z3, hz3⟩ : ∃ z, w1.cell? ⟨B, k * 8 + 3, none⟩ = some z := ⟨cur[k * 8 + 3]'(by omega), by rw [cell_block hblk1]; exact Array.getElem?_eq_getElem (by omega)⟩
      obtain ⟨z4, hz4⟩ : ∃ z, w1.cell? ⟨B, k * 8 + 4, none⟩ = some z := ⟨cur[k * 8 + 4]'(by omega), by rw [cell_block hblk1]; exact Array.getElem?_eq_getElem (by omega)⟩
      obtain ⟨z5, hz5⟩ : ∃ z, w1.cell? ⟨B, k * 8 + 5, none⟩ = some z := ⟨cur[k * 8 + 5]'(by omega), by rw [cell_block hblk1]; exact Array.getElem?_eq_getElem (by omega)⟩
      obtain ⟨z6, hz6⟩ : ∃ z, w1.cell? ⟨B, k * 8 + 6, none⟩ = some z := ⟨cur[k * 8 + 6]'(by omega), by rw [cell_block hblk1]; exact Array.getElem?_eq_getElem (by omega)⟩
      obtain ⟨z7, hz7⟩ : ∃ z, w1.cell? ⟨B, k * 8 + 7, none⟩ = some z := ⟨cur[k * 8 + 7]'(by omega), by rw [cell_block hblk1]; exact Array.getElem?_eq_getElem (by omega)⟩
      have HC := hide (And.intro hrow (And.intro hnF (And.intro hgF (And.intro hnd (And.intro hG (And.intro hb1 hblk1))))))
      have HSZ := hide hsz
      clear HR hrow hnF hgF hnd hG hb1 hblk1 hlB hsz hm hGe
      go_wp2_with fail
      obtain ⟨hrow, hnF, hgF, hnd, hG, hb1, hblk1⟩ := HC.out
      obtain ⟨cur', hcur', hlist'⟩ := putCells_block [.int .i64 x.number, .int .i64 x.sender, .int .i64 x.at_, .string x.text, .int .i64 x.edits, .bool x.gone, .int .i64 x.reply, .slice A7 x.likes.length c7] w1 B (k * 8) hblk1
      have hBl : ∀ q ∈ B :: Fs.flatten, q < wr.heap.size := hrow.lt
      have htl : (a.take k).length = k := by rw [List.length_take]; omega
      go_roundg (a.length - (k + 1))
      case measure => omega
      case rel =>
        refine ⟨k + 1, by omega, by omega, by go_num, hide ⟨cur', css ++ [[.int .i64 x.number, .int .i64 x.sender, .int .i64 x.at_, .string x.text, .int .i64 x.edits, .bool x.gone, .int .i64 x.reply, .slice A7 x.likes.length c7]], Fs ++ [G], ?_, ?_, ?_⟩, hide ?_⟩
        · rw [List.take_add_one, HX.out]
          refine Row.snoc (w' := putCells w1 B (k * 8) [.int .i64 x.number, .int .i64 x.sender, .int .i64 x.at_, .string x.text, .int .i64 x.edits, .bool x.gone, .int .i64 x.reply, .slice A7 x.likes.length c7]) hrow (by omega) (Dt.M_move _ (fun q hq => putCells_other _ _ _ _ ?_) HM.out) hcur' (by rw [htl]; exact hlist') (fun q hq => (putCells_other _ _ _ _ ?_).trans (hb1.block q (hBl q (List.mem_cons_of_mem _ hq))))
          · have := hG q hq; have := hBl B List.mem_cons_self; omega
          · intro e; subst e; exact (List.nodup_cons.1 hnF).1 hq
        · rw [List.flatten_append, List.flatten_singleton, ← List.cons_append]
          exact nodup_app hnF hnd hBl hG
        · intro q hq
          rw [List.flatten_append, List.flatten_singleton, ← List.cons_append, List.mem_append] at hq
          rcases hq with hq | hq
          · exact hgF q hq
          · exact Nat.le_trans HW.out.size (hG q hq)
        · exact putCells_below [.int .i64 x.number, .int .i64 x.sender, .int .i64 x.at_, .string x.text, .int .i64 x.edits, .bool x.gone, .int .i64 x.reply, .slice A7 x.likes.length c7] B (k * 8) (HW.out.trans (hb1.mono HW.out.size)) (hgF B List.mem_cons_self)
    · have : k = a.length := by omega
      subst this
      go_wp2
      go_ret
      obtain ⟨cur, css, Fs, hrow, hnF, hgF⟩ := HR.out
      rw [List.take_length] at hrow
      exact ⟨_, rfl, ⟨_, hrow.M, hnF, hgF⟩, HW.out⟩
set_option maxHeartbeats 2000000 in
theorem szMessage_c (x : Message) (v7 : Value) (left : Int) (w : World) (h7 : SliceK intD w v7 x.likes) (b0 : 0 ≤ left) (b1 : left ≤ 1048576) (hok : okMessage x) :
    Calls Try.prog 24 #[.agg #[.int .i64 x.number, .int .i64 x.sender, .int .i64 x.at_, .string x.text, .int .i64 x.edits, .bool x.gone, .int .i64 x.reply, v7], .int .i64 left] w fun e w' => RetSz left (sizeMessage x) e ∧ Below w.heap.size w w' := by
  have H7 := hide h7
  clear h7
  have HK := hide hok
  unfold okMessage at hok
  have hs3 := hok
  clear hok
  have HB := hide ((Below.refl w.heap.size w).alloc (Nat.le_refl _) (.cells #[.int .i64 x.number, .int .i64 x.sender, .int .i64 x.at_, .string x.text, .int .i64 x.edits, .bool x.gone, .int .i64 x.reply, v7] 43))
  go_enter Try.func24, Try.ntmps24
  go_wp2_with (first | (go_at_call 64; ((with_reducible refine (szInt64S_c _ x.likes _ _ (H7.out.below HB.out) (by omega) (by omega)).mono ?_); rintro e w1 ⟨⟨r7, rfl, hr7⟩, hb1⟩; have hd7 := szR_bd hr7 (by omega); have R7 := hide hr7; have HN := hide (HB.out.trans (hb1.mono HB.out.size)); obtain ⟨hc, hf, hs⟩ := bcell hb1; have hy : w.heap.size < w1.heap.size := (by ((try simp only [World.size_alloc] at hs); omega)); clear hs hb1 HB hr7; have HB := HN; clear HN)))
  all_goals
    go_ret
    refine ⟨⟨_, rfl, ?_⟩, HB.out⟩
    try have e7 := szR_spec R7.out (by omega)
    unfold szR sizeMessage
    split <;> omega
set_option maxHeartbeats 2000000 in
theorem szMessageS_c (v : Value) (a : List Message) (left : Int) (w : World) (ha : SliceK messageD w v a) (h0 : 0 ≤ left) (h1 : left ≤ 1048576) (hok : ∀ x ∈ a, okMessage x) :
    Calls Try.prog 72 #[v, .int .i64 left] w fun e w' => RetSz left (a.length + sizeAll sizeMessage a) e ∧ Below w.heap.size w w' := by
  obtain ⟨A, c, rfl, hl1, hm1, hra⟩ := ha
  have HA := hide hra
  have HOK := hide hok
  clear hok
  clear hra
  by_cases h : (a.length : Int) ≤ left
  · have h2 : ¬ (left - (a.length : Int) < 0) := by omega
    go_enter Try.func72, Try.ntmps72
    go_wp2
    go_loopg [1, 5] a.length (fun gg s1 s5 wr => ∃ (k : Nat) (q : Int), k ≤ a.length ∧ a.length - k ≤ gg ∧ s1 = .int .i64 q ∧ s5 = .int .i64 k ∧ 0 ≤ q ∧ q ≤ 1048576 ∧ Hid (q = left - a.length - sizeAll sizeMessage (a.take k)) ∧ Hid (Below w.heap.size w wr))
    case atStart => exact ⟨0, left - a.length, Nat.zero_le _, by omega, rfl, rfl, by omega, by omega, hide (by simp [sizeAll]), Below.refl _ _⟩
    case round =>
      obtain ⟨k, q, hk, hg, rfl, rfl, hq0, hq1, HQ, HW⟩ := hrel
      by_cases hlt : k < a.length
      · obtain ⟨x, hx⟩ : ∃ x, a[k]? = some x := ⟨_, List.getElem?_eq_getElem hlt⟩
        rcases HA.out with rfl | ⟨p, o, rfl, hra⟩
        · simp at hlt
        obtain ⟨v7, h7, p, hc0, hc1, hc2, hc3, hc4, hc5, hc6, hc7⟩ := message_at hra HW.out hx
        have HX := hide hx
        have hokx := hide (HOK.out x (List.mem_of_getElem? hx))
        have H7 := hide h7
        clear hx hra HA h7
        go_wp2_with fail
        refine (szMessage_c x _ q _ H7.out hq0 hq1 hokx.out).mono ?_
        rintro e w1 ⟨⟨r, rfl, hr⟩, hb1⟩
        have hd := szR_bd hr hq0
        have R := hide hr
        have H1 := hide (HW.out.trans (hb1.mono HW.out.size))
        clear hr hb1
        go_wp2_with fail
        · have hT := sizeAll_take sizeMessage a k x HX.out
          have hL := sizeAll_le sizeMessage a (k + 1)
          have hsp := szR_spec R.out hq0
          have := HQ.out
          go_ret
          exact ⟨⟨_, rfl, by unfold szR; rw [if_neg (by omega)]⟩, H1.out⟩
        · have hT := sizeAll_take sizeMessage a k x HX.out
          have hsp := szR_spec R.out hq0
          have := HQ.out
          have hrq : r = q - sizeMessage x := by omega
          go_roundg (a.length - (k + 1))
          case measure => omega
          case rel => exact ⟨k + 1, r, by omega, by omega, rfl, by go_num, by omega, by omega, hide (by rw [hT]; omega), H1⟩
      · have : k = a.length := by omega
        subst this
        go_wp2
        go_ret
        have := HQ.out
        rw [List.take_length] at this
        exact ⟨⟨_, rfl, by unfold szR; rw [if_pos (by omega)]; omega⟩, HW.out⟩
  · have hr := hide (show -1 = szR left (a.length + sizeAll sizeMessage a) from (if_neg (by omega)).symm)
    have h2 : (left - (a.length : Int) < 0) := by omega
    go_enter Try.func72, Try.ntmps72
    go_wp2
    go_ret
    exact ⟨⟨_, rfl, hr.out⟩, Below.refl _ _⟩
def cntMessage (x : Message) : Nat := 7 + x.likes.length
def mkMessage (k : Int) (x : Message) : Message := { number := (k), sender := (k + 1), at_ := (k + 1 + 1), text := markT (k + 1 + 1 + 1), edits := (k + 1 + 1 + 1 + 1), gone := ((k + 1 + 1 + 1 + 1 + 1) % 3 == 0), reply := (k + 1 + 1 + 1 + 1 + 1 + 1), likes := marks (k + 1 + 1 + 1 + 1 + 1 + 1 + 1) x.likes.length }
theorem cntMessage_mk (k : Int) (x : Message) : cntMessage (mkMessage k x) = cntMessage x := by simp [cntMessage, mkMessage, marks_len, marks_len]
theorem mkMessage_mk (k : Int) (x : Message) : mkMessage k (mkMessage k x) = mkMessage k x := by simp [mkMessage, marks_len, marks_len]
def heldMessageB (k : Int) (x : Message) : Bool := !(x.number != k) && !(x.sender != k + 1) && !(x.at_ != k + 1 + 1) && !(!(x.text.toList == (markT (k + 1 + 1 + 1)).toList)) && !(x.edits != k + 1 + 1 + 1 + 1) && !(!(x.gone == ((k + 1 + 1 + 1 + 1 + 1) % 3 == 0))) && !(x.reply != k + 1 + 1 + 1 + 1 + 1 + 1) && !(decide (heldI (k + 1 + 1 + 1 + 1 + 1 + 1 + 1) x.likes < 0))
theorem heldMessageB_iff {k : Int} (h : 0 ≤ k) (x : Message) : heldMessageB k x = true ↔ x = mkMessage k x := by
  cases x
  simp only [heldMessageB, mkMessage, Message.mk.injEq, bytes_eq, Bool.and_eq_true, Bool.not_eq_true', bne_eq_false_iff_eq, Bool.not_eq_false', beq_iff_eq, decide_eq_false_iff_not, and_assoc]
  rw [heldI_nn (by omega)]
  simp only [Decidable.not_not]
set_option maxHeartbeats 4000000 in
set_option maxRecDepth 100000 in
theorem markMessageS_c (v : Value) (xs : List Message) (F : List Nat) (k : Int) (w : World) (h : SliceM messageD 47 w v xs F) (hn : F.Nodup) (h0 : 0 ≤ k) (h1 : k + cntAll cntMessage xs ≤ 1000000000000) :
    Calls Try.prog 83 #[v, .int .i64 k] w (RetMarkA messageD 47 cntMessage mkMessage w v xs F k) := by
  rcases h.row with ⟨rfl, rfl, rfl⟩ | ⟨B, cap, cur, css, Fs, rfl, hrow, rfl⟩
  · go_enter Try.func83, Try.ntmps83
    go_wp2
    go_loopg [1, 5] 0 (fun gg s1 s5 wr => s1 = .int .i64 k ∧ s5 = .int .i64 0 ∧ w = wr)
    case atStart => exact ⟨rfl, rfl, rfl⟩
    case round =>
      obtain ⟨rfl, rfl, rfl⟩ := hrel
      go_wp2
      go_ret
      exact ⟨by simp [cntAll], .inl ⟨rfl, rfl, rfl⟩, Chg.refl _ _⟩
  · have H0 := hide (show ∃ cur css, Row messageD 47 w B cap cur css Fs (mixed cntMessage mkMessage k xs 0) from ⟨cur, css, by rw [mixed_zero]; exact hrow⟩)
    have HN := hide hn
    have hlen := hrow.le
    have hmax := hrow.max
    clear h hrow hn
    go_enter Try.func83, Try.ntmps83
    go_wp2
    go_loopg [1, 5] xs.length (fun gg s1 s5 wr => ∃ (i : Nat) (q : Int), i ≤ xs.length ∧ xs.length - i ≤ gg ∧ s1 = .int .i64 q ∧ s5 = .int .i64 i ∧ 0 ≤ q ∧ Hid (q = k + cntAll cntMessage (xs.take i)) ∧
      Hid (∃ cur css, Row messageD 47 wr B cap cur css Fs (mixed cntMessage mkMessage k xs i)) ∧ Hid (Chg (B :: Fs.flatten) w wr))
    case atStart => exact ⟨0, k, Nat.zero_le _, by omega, rfl, rfl, h0, hide (by simp [cntAll]), H0, Chg.refl _ _⟩
    case round =>
      obtain ⟨i, q, hi, hg, rfl, rfl, hq0, HQ, HR, HW⟩ := hrel
      clear H0
      by_cases hlt : i < xs.length
      · obtain ⟨x, hx⟩ : ∃ x, xs[i]? = some x := ⟨_, List.getElem?_eq_getElem hlt⟩
        obtain ⟨cur, css, hrow⟩ := HR.out
        obtain ⟨cs, G, hE⟩ := RowE.ofRow hrow (mixed_get (cnt := cntMessage) (mk := mkMessage) k xs i hx)
        have hcT := cntAll_take (cnt := cntMessage) xs i x hx
        have hcL := cntAll_le (cnt := cntMessage) xs (i + 1)
        have hq1 : q + cntMessage x ≤ 1000000000000 := by have := HQ.out; omega
        have hq2 : q + (7 + x.likes.length : Nat) ≤ 1000000000000 := hq1
        have HT := hide hcT
        have HX := hide hx
        have hlB := hE.blt
        have hfz := hE.frozen
        have hcell := hE.cell
        obtain ⟨v7, G7, rfl, hGe, g7⟩ := message_M hE.M
        have hc0 : wr.cell? ⟨B, i * 8, none⟩ = some (.int .i64 x.number) := hcell 0 _ rfl
        have hc1 : wr.cell? ⟨B, i * 8 + 1, none⟩ = some (.int .i64 x.sender) := hcell 1 _ rfl
        have hc2 : wr.cell? ⟨B, i * 8 + 2, none⟩ = some (.int .i64 x.at_) := hcell 2 _ rfl
        have hc3 : wr.cell? ⟨B, i * 8 + 3, none⟩ = some (.string x.text) := hcell 3 _ rfl
        have hc4 : wr.cell? ⟨B, i * 8 + 4, none⟩ = some (.int .i64 x.edits) := hcell 4 _ rfl
        have hc5 : wr.cell? ⟨B, i * 8 + 5, none⟩ = some (.bool x.gone) := hcell 5 _ rfl
        have hc6 : wr.cell? ⟨B, i * 8 + 6, none⟩ = some (.int .i64 x.reply) := hcell 6 _ rfl
        have hc7 : wr.cell? ⟨B, i * 8 + 7, none⟩ = some (v7) := hcell 7 _ rfl
        have E0 := hide hE
        clear HR hcell hcT hcL hx hrow hE hq1 hGe g7
        have E1 := hide (E0.out.put HN.out 0 (.int .i64 (q)) ({ x with number := (q) }) (by decide) (fun hm => by obtain ⟨t7, J7, hl, hF, j7⟩ := message_M hm; simp at hl; obtain rfl := hl; rw [hF]; exact message_M_mk (x := { x with number := (q) }) j7))
        have E2 := hide (E1.out.put HN.out 1 (.int .i64 (q + 1)) ({ x with number := (q), sender := (q + 1) }) (by decide) (fun hm => by obtain ⟨t7, J7, hl, hF, j7⟩ := message_M hm; simp at hl; obtain rfl := hl; rw [hF]; exact message_M_mk (x := { x with number := (q), sender := (q + 1) }) j7))
        have E3 := hide (E2.out.put HN.out 2 (.int .i64 (q + 1 + 1)) ({ x with number := (q), sender := (q + 1), at_ := (q + 1 + 1) }) (by decide) (fun hm => by obtain ⟨t7, J7, hl, hF, j7⟩ := message_M hm; simp at hl; obtain rfl := hl; rw [hF]; exact message_M_mk (x := { x with number := (q), sender := (q + 1), at_ := (q + 1 + 1) }) j7))
        go_wp2_with fail
        refine (markText_c _ _ (by omega) (by omega)).mono ?_
        rintro e w1 ⟨rfl, hb⟩
        have hss := hb.size
        (try simp only [World.size_setCell] at hss)
        have hlB1 : B < w1.heap.size := by omega
        have hle1 : wr.heap.size ≤ w1.heap.size := by omega
        have E4 := hide (E3.out.below hb)
        have hfz1 := E4.out.frozen
        have hcell := E4.out.cell
        have hcc1_0 : w1.cell? ⟨B, i * 8, none⟩ = some _ := hcell 0 _ rfl
        have hcc1_1 : w1.cell? ⟨B, i * 8 + 1, none⟩ = some _ := hcell 1 _ rfl
        have hcc1_2 : w1.cell? ⟨B, i * 8 + 2, none⟩ = some _ := hcell 2 _ rfl
        have hcc1_3 : w1.cell? ⟨B, i * 8 + 3, none⟩ = some _ := hcell 3 _ rfl
        have hcc1_4 : w1.cell? ⟨B, i * 8 + 4, none⟩ = some _ := hcell 4 _ rfl
        have hcc1_5 : w1.cell? ⟨B, i * 8 + 5, none⟩ = some _ := hcell 5 _ rfl
        have hcc1_6 : w1.cell? ⟨B, i * 8 + 6, none⟩ = some _ := hcell 6 _ rfl
        have hcc1_7 : w1.cell? ⟨B, i * 8 + 7, none⟩ = some _ := hcell 7 _ rfl
        have HS1 := hide hb
        clear hb hss hcell
        have E5 := hide (E4.out.put HN.out 3 (.string (markT (q + 1 + 1 + 1))) ({ x with number := (q), sender := (q + 1), at_ := (q + 1 + 1), text := markT (q + 1 + 1 + 1) }) (by decide) (fun hm => by obtain ⟨t7, J7, hl, hF, j7⟩ := message_M hm; simp at hl; obtain rfl := hl; rw [hF]; exact message_M_mk (x := { x with number := (q), sender := (q + 1), at_ := (q + 1 + 1), text := markT (q + 1 + 1 + 1) }) j7))
        have E6 := hide (E5.out.put HN.out 4 (.int .i64 (q + 1 + 1 + 1 + 1)) ({ x with number := (q), sender := (q + 1), at_ := (q + 1 + 1), text := markT (q + 1 + 1 + 1), edits := (q + 1 + 1 + 1 + 1) }) (by decide) (fun hm => by obtain ⟨t7, J7, hl, hF, j7⟩ := message_M hm; simp at hl; obtain rfl := hl; rw [hF]; exact message_M_mk (x := { x with number := (q), sender := (q + 1), at_ := (q + 1 + 1), text := markT (q + 1 + 1 + 1), edits := (q + 1 + 1 + 1 + 1) }) j7))
        have E7 := hide (E6.out.put HN.out 5 (.bool ((q + 1 + 1 + 1 + 1 + 1) % 3 == 0)) ({ x with number := (q), sender := (q + 1), at_ := (q + 1 + 1), text := markT (q + 1 + 1 + 1), edits := (q + 1 + 1 + 1 + 1), gone := ((q + 1 + 1 + 1 + 1 + 1) % 3 == 0) }) (by decide) (fun hm => by obtain ⟨t7, J7, hl, hF, j7⟩ := message_M hm; simp at hl; obtain rfl := hl; rw [hF]; exact message_M_mk (x := { x with number := (q), sender := (q + 1), at_ := (q + 1 + 1), text := markT (q + 1 + 1 + 1), edits := (q + 1 + 1 + 1 + 1), gone := ((q + 1 + 1 + 1 + 1 + 1) % 3 == 0) }) j7))
        have E8 := hide (E7.out.put HN.out 6 (.int .i64 (q + 1 + 1 + 1 + 1 + 1 + 1)) ({ x with number := (q), sender := (q + 1), at_ := (q + 1 + 1), text := markT (q + 1 + 1 + 1), edits := (q + 1 + 1 + 1 + 1), gone := ((q + 1 + 1 + 1 + 1 + 1) % 3 == 0), reply := (q + 1 + 1 + 1 + 1 + 1 + 1) }) (by decide) (fun hm => by obtain ⟨t7, J7, hl, hF, j7⟩ := message_M hm; simp at hl; obtain rfl := hl; rw [hF]; exact message_M_mk (x := { x with number := (q), sender := (q + 1), at_ := (q + 1 + 1), text := markT (q + 1 + 1 + 1), edits := (q + 1 + 1 + 1 + 1), gone := ((q + 1 + 1 + 1 + 1 + 1) % 3 == 0), reply := (q + 1 + 1 + 1 + 1 + 1 + 1) }) j7))
        go_wp2_with fail
        obtain ⟨t7, G7', hl, hGe, g7⟩ := message_M E8.out.M
        simp at hl
        obtain rfl := hl
        have hGn := (E8.out.nodup HN.out).1
        rw [hGe] at hGn
        refine (markInt64S_c _ x.likes _ _ _ g7 (by omega) (by omega)).mono ?_
        rintro e w2 ⟨rfl, hMk, hCk⟩
        have HCk := hide hCk
        rw [← hGe] at hCk
        have E9 := hide (E8.out.inner HN.out ({ x with number := (q), sender := (q + 1), at_ := (q + 1 + 1), text := markT (q + 1 + 1 + 1), edits := (q + 1 + 1 + 1 + 1), gone := ((q + 1 + 1 + 1 + 1 + 1) % 3 == 0), reply := (q + 1 + 1 + 1 + 1 + 1 + 1), likes := marks (q + 1 + 1 + 1 + 1 + 1 + 1 + 1) x.likes.length }) hCk (by rw [hGe]; exact message_M_mk (x := { x with number := (q), sender := (q + 1), at_ := (q + 1 + 1), text := markT (q + 1 + 1 + 1), edits := (q + 1 + 1 + 1 + 1), gone := ((q + 1 + 1 + 1 + 1 + 1) % 3 == 0), reply := (q + 1 + 1 + 1 + 1 + 1 + 1), likes := marks (q + 1 + 1 + 1 + 1 + 1 + 1 + 1) x.likes.length }) hMk))
        have HCg := hide hCk
        clear hMk hCk g7 hGn hGe HCk
        go_wp2_with fail
        obtain ⟨cur', css', hrow'⟩ := E9.out.row
        simp only [List.set_set] at hrow'
        have hmk : { x with number := (q), sender := (q + 1), at_ := (q + 1 + 1), text := markT (q + 1 + 1 + 1), edits := (q + 1 + 1 + 1 + 1), gone := ((q + 1 + 1 + 1 + 1 + 1) % 3 == 0), reply := (q + 1 + 1 + 1 + 1 + 1 + 1), likes := marks (q + 1 + 1 + 1 + 1 + 1 + 1 + 1) x.likes.length } = mkMessage q x := rfl
        have hmx : (mixed cntMessage mkMessage k xs i).set i (mkMessage q x) = mixed cntMessage mkMessage k xs (i + 1) := by rw [HQ.out]; exact mixed_set k xs i HX.out
        rw [hmk, hmx] at hrow'
        go_roundg (xs.length - (i + 1))
        case measure => omega
        case rel =>
          refine ⟨i + 1, q + 1 + 1 + 1 + 1 + 1 + 1 + 1 + x.likes.length, by omega, by omega, rfl, by go_num, by omega, hide (by have h1 := HQ.out; have h2 := HT.out; have h3 : cntMessage x = 7 + x.likes.length := rfl; rw [h2]; omega), hide ⟨cur', css', hrow'⟩, hide ?_⟩
          exact ((((((((((((((((((HW.out).setCell (.inl (by simp)) _)).setCell (.inl (by simp)) _)).setCell (.inl (by simp)) _)).then HS1.out)).setCell (.inl (by simp)) _)).setCell (.inl (by simp)) _)).setCell (.inl (by simp)) _)).setCell (.inl (by simp)) _)).trans (HCg.out.mono (fun b hb => .inl (List.mem_cons_of_mem _ (E9.out.sub b hb)))))
      · have : i = xs.length := by omega
        subst this
        go_wp2
        go_ret
        obtain ⟨cur, css, hrow⟩ := HR.out
        rw [mixed_all] at hrow
        have hq := HQ.out
        rw [List.take_length] at hq
        refine ⟨by rw [← hq]; rfl, ?_, HW.out⟩
        have hS := hrow.M
        rwa [markAll_len] at hS
def tcntMessage (x : Message) : Nat := x.likes.length
def tmkMessage (k : Int) (x : Message) : Message := { x with likes := marks (k) x.likes.length }
theorem tcntMessage_mk (k : Int) (x : Message) : tcntMessage (tmkMessage k x) = tcntMessage x := by simp [tcntMessage, tmkMessage, marks_len, marks_len]
theorem tmkMessage_mk (k : Int) (x : Message) : tmkMessage k (tmkMessage k x) = tmkMessage k x := by simp [tmkMessage, marks_len, marks_len]
def theldMessage (k : Int) (x : Message) : Int := if x = tmkMessage k x then k + tcntMessage x else -1
theorem theldMessage_nn {k : Int} (h : 0 ≤ k) (x : Message) : theldMessage k x < 0 ↔ ¬ x = tmkMessage k x := by
  unfold theldMessage; split
  · rename_i h1; constructor
    · intro h2; omega
    · intro h2; exact absurd h1 h2
  · rename_i h1; exact ⟨fun _ => h1, fun _ => by omega⟩
theorem theldMessage_mk (k : Int) (x : Message) : theldMessage k (tmkMessage k x) = k + tcntMessage x := by
  unfold theldMessage
  rw [if_pos (tmkMessage_mk k x).symm, tcntMessage_mk]
set_option maxHeartbeats 4000000 in
theorem markMessage_c (x : Message) (cs : List Value) (F : List Nat) (k : Int) (w : World) (h : messageD.M w x cs F) (hn : F.Nodup) (h0 : 0 ≤ k) (h1 : k + tcntMessage x ≤ 1000000000000) :
    Calls Try.prog 45 #[.agg cs.toArray, .int .i64 k] w (RetMarkT messageD w (tcntMessage x) (tmkMessage k x) cs F k) := by
  unfold tcntMessage at h1
  obtain ⟨v7, F7, rfl, rfl, g7⟩ := message_M h
  have hnn := hn
  have HN := hide hn
  have HNN := hide hnn
  clear h hn hnn
  have M7 := hide g7
  clear g7
  have HC := hide ((Chg.refl (F) w).alloc (.cells #[.int .i64 x.number, .int .i64 x.sender, .int .i64 x.at_, .string x.text, .int .i64 x.edits, .bool x.gone, .int .i64 x.reply, v7] 47))
  have HB := hide (Below.refl w.heap.size w |>.alloc (Nat.le_refl _) (.cells #[.int .i64 x.number, .int .i64 x.sender, .int .i64 x.at_, .string x.text, .int .i64 x.edits, .bool x.gone, .int .i64 x.reply, v7] 47))
  have M7 := hide (M7.out.move (fun b hb => HB.out.block b (M7.out.lt b hb)))
  go_enter Try.func45, Try.ntmps45
  go_wp2_with fail
  refine (markInt64S_c _ x.likes _ _ _ M7.out (by omega) (by omega)).mono ?_
  rintro e w1 ⟨rfl, hMk, hCk⟩
  have HK1 := hide hCk
  have HC := hide (HC.out.trans (hCk.mono (fun b hb => .inl (by simp [hb]))))
  have N7 := hide hMk
  clear hMk hCk
  go_wp2_with fail
  go_ret
  refine ⟨?_, message_M_mk (x := tmkMessage k x) N7.out, HC.out⟩
  simp only [tcntMessage]
  exact ret_int (by first | rfl | omega)
/-! ### Log -/
def sizeLog (x : Log) : Nat := (x.messages.length + sizeAll sizeMessage x.messages)
/-- Its strings are no longer than a machine holds. -/
def okLog (x : Log) : Prop := (∀ y ∈ x.messages, okMessage y)
def fewLog (x : Log) : Prop := x.messages.length ≤ 1048576 ∧ (∀ y ∈ x.messages, fewMessage y)
def eqLogB (a b : Log) : Bool := !(a.next != b.next) && !(!(decide (a.messages = b.messages)))
theorem eqLogB_iff (a b : Log) : eqLogB a b = true ↔ a = b := by
  cases a; cases b
  simp [eqLogB, bytes_eq, and_assoc]
theorem eqLogB_eq (a b : Log) : eqLogB a b = decide (a = b) := by
  rw [Bool.eq_iff_iff, eqLogB_iff, decide_eq_true_iff]
set_option maxHeartbeats 2000000 in
theorem eqLog_c (x y : Log) (v1 u1 : Value) (w : World) (h1 : SliceK messageD w v1 x.messages) (g1 : SliceK messageD w u1 y.messages) :
    Calls Try.prog 33 #[.agg #[.int .i64 x.next, v1], .agg #[.int .i64 y.next, u1]] w fun e w' => e = .returned (.bool (eqLogB x y)) ∧ Below w.heap.size w w' := by
  have H1 := hide h1
  have G1 := hide g1
  clear h1 g1
  have HB := hide (((Below.refl w.heap.size w).alloc (Nat.le_refl _) (.cells #[.int .i64 x.next, v1] 58)).alloc (by simp) (.cells #[.int .i64 y.next, u1] 58))
  go_enter Try.func33, Try.ntmps33
  go_wp2_with (first | (go_at_call 82; ((with_reducible refine (eqMessageS_c _ _ _ _ _ (H1.out.below HB.out) (G1.out.below HB.out)).mono ?_); rintro e w1 ⟨rfl, hb1⟩; have HN := hide (HB.out.trans (hb1.mono HB.out.size)); obtain ⟨hc, hf, hs⟩ := bcell hb1; have hz : w.heap.size + 1 < w1.heap.size := (by ((try simp only [World.size_alloc] at hs); omega)); have hy : w.heap.size < w1.heap.size := (by omega); clear hs hb1 HB; have HB := HN; clear HN)))
  all_goals
    go_ret
    refine ⟨?_, HB.out⟩
    first
    | (rw [show eqLogB x y = false from by simp only [eqLogB, decide_true, decide_false, Bool.not_true, Bool.not_false, Bool.and_false, Bool.false_and, Bool.and_true, Bool.true_and, *]]; rfl)
    | (rw [show eqLogB x y = true from by simp only [eqLogB, decide_true, decide_false, Bool.not_true, Bool.not_false, Bool.and_false, Bool.false_and, Bool.and_true, Bool.true_and, *]]; rfl)
set_option maxHeartbeats 2000000 in
theorem toLog_c (x : Log) (v1 : Value) (w : World) (h1 : SliceK messageD w v1 x.messages) (hw : fewLog x) :
    Calls Try.prog 31 #[.agg #[.int .i64 x.next, v1]] w (RetElem logD w x) := by
  unfold fewLog at hw
  obtain ⟨n1, k1⟩ := hw
  have W1 := hide k1
  clear k1
  have H1 := hide h1
  clear h1
  go_enter Try.func31, Try.ntmps31
  go_wp2_with fail
  refine (toMessageS_c _ x.messages _ (H1.out.below ?hb0) n1 W1.out).mono ?_
  case hb0 => exact ((((Below.refl _ _).alloc (Nat.le_refl _) _).alloc (by simp) _).alloc (by simp; omega) _)
  rintro e w1 ⟨v, rfl, hM, hb1⟩
  obtain ⟨A1, c1, rfl⟩ := hM.shape
  have HM0 := hide hM
  have HS0 := hide hb1
  have HB0 := hide (((((Below.refl _ _).alloc (Nat.le_refl _) _).alloc (by simp) _).alloc (by simp; omega) _).trans (hb1.mono (by simp; omega)) : Below w.heap.size w w1)
  obtain ⟨hc0, hf0, hs0⟩ := bcell hb1
  simp only [World.size_alloc, World.size_setCell] at hs0
  have hz0 : w.heap.size + 1 + 1 < w1.heap.size := by omega
  have hy0 : w.heap.size < w1.heap.size := by omega
  have hle0 : w.heap.size ≤ w1.heap.size := by omega
  have hx0 : w.heap.size + 1 < w1.heap.size := by omega
  clear hM hb1 hs0
  go_wp2_with fail
  have HZ : Hid (∀ wz, Chg [w.heap.size + 1, w.heap.size + 1 + 1] w1 wz → RetElem logD w x (.returned (.agg #[.int .i64 x.next, .slice A1 x.messages.length c1])) wz) := by
    intro wz hch
    have c0_ : Chg [w.heap.size + 1, w.heap.size + 1 + 1] w1 wz := hch
    obtain ⟨F1, hm1, hn1, hF1⟩ := HM0.out
    have hl1 := hm1.lt
    have m1 := hm1.move fun b hb => c0_.block b (hl1 b hb) (by intro hg; have := hF1 b hb; simp at this hg; omega)
    refine ⟨_, F1, rfl, log_M_mk m1, hn1, ?_, ?_⟩
    · intro b hb; have := hF1 b hb; simp at this; omega
    · exact HB0.out.trans (hch.below (by omega) (by intro k hk; simp at hk; omega))
  refine bodyPost_ret (v := .agg #[.int .i64 x.next, .slice A1 x.messages.length c1]) (by simp [results, Try.results31, go_sem, hc0, hz0, hy0, hx0]) rfl (HZ.out _ ?_)
  repeat (with_reducible refine Chg.setCell ?_ (.inl (by simp)) _)
  exact Chg.refl _ _
set_option maxHeartbeats 2000000 in
theorem szLog_c (x : Log) (v1 : Value) (left : Int) (w : World) (h1 : SliceK messageD w v1 x.messages) (b0 : 0 ≤ left) (b1 : left ≤ 1048576) (hok : okLog x) :
    Calls Try.prog 29 #[.agg #[.int .i64 x.next, v1], .int .i64 left] w fun e w' => RetSz left (sizeLog x) e ∧ Below w.heap.size w w' := by
  have H1 := hide h1
  clear h1
  have HK := hide hok
  unfold okLog at hok
  have ho1 := hok
  have O1 := hide ho1
  clear ho1
  clear hok
  have HB := hide ((Below.refl w.heap.size w).alloc (Nat.le_refl _) (.cells #[.int .i64 x.next, v1] 53))
  go_enter Try.func29, Try.ntmps29
  go_wp2_with (first | (go_at_call 72; ((with_reducible refine (szMessageS_c _ x.messages _ _ (H1.out.below HB.out) (by omega) (by omega) O1.out).mono ?_); rintro e w1 ⟨⟨r1, rfl, hr1⟩, hb1⟩; have hd1 := szR_bd hr1 (by omega); have R1 := hide hr1; have HN := hide (HB.out.trans (hb1.mono HB.out.size)); obtain ⟨hc, hf, hs⟩ := bcell hb1; have hy : w.heap.size < w1.heap.size := (by ((try simp only [World.size_alloc] at hs); omega)); clear hs hb1 HB hr1; have HB := HN; clear HN)))
  all_goals
    go_ret
    refine ⟨⟨_, rfl, ?_⟩, HB.out⟩
    try have e1 := szR_spec R1.out (by omega)
    unfold szR sizeLog
    split <;> omega
def tcntLog (x : Log) : Nat := cntAll cntMessage x.messages
def tmkLog (k : Int) (x : Log) : Log := { x with messages := markAll cntMessage mkMessage (k) x.messages }
theorem tcntLog_mk (k : Int) (x : Log) : tcntLog (tmkLog k x) = tcntLog x := by simp [tcntLog, tmkLog, marks_len, cntAll_mark cntMessage_mk, markAll_mark cntMessage_mk mkMessage_mk, marks_len]
theorem tmkLog_mk (k : Int) (x : Log) : tmkLog k (tmkLog k x) = tmkLog k x := by simp [tmkLog, marks_len, cntAll_mark cntMessage_mk, markAll_mark cntMessage_mk mkMessage_mk, marks_len]
def theldLog (k : Int) (x : Log) : Int := if x = tmkLog k x then k + tcntLog x else -1
theorem theldLog_nn {k : Int} (h : 0 ≤ k) (x : Log) : theldLog k x < 0 ↔ ¬ x = tmkLog k x := by
  unfold theldLog; split
  · rename_i h1; constructor
    · intro h2; omega
    · intro h2; exact absurd h1 h2
  · rename_i h1; exact ⟨fun _ => h1, fun _ => by omega⟩
theorem theldLog_mk (k : Int) (x : Log) : theldLog k (tmkLog k x) = k + tcntLog x := by
  unfold theldLog
  rw [if_pos (tmkLog_mk k x).symm, tcntLog_mk]
set_option maxHeartbeats 4000000 in
theorem markLog_c (x : Log) (cs : List Value) (F : List Nat) (k : Int) (w : World) (h : logD.M w x cs F) (hn : F.Nodup) (h0 : 0 ≤ k) (h1 : k + tcntLog x ≤ 1000000000000) :
    Calls Try.prog 34 #[.agg cs.toArray, .int .i64 k] w (RetMarkT logD w (tcntLog x) (tmkLog k x) cs F k) := by
  unfold tcntLog at h1
  obtain ⟨v1, F1, rfl, rfl, g1⟩ := log_M h
  have hnn := hn
  have HN := hide hn
  have HNN := hide hnn
  clear h hn hnn
  have M1 := hide g1
  clear g1
  have HC := hide ((Chg.refl (F) w).alloc (.cells #[.int .i64 x.next, v1] 58))
  have HB := hide (Below.refl w.heap.size w |>.alloc (Nat.le_refl _) (.cells #[.int .i64 x.next, v1] 58))
  have M1 := hide (M1.out.move (fun b hb => HB.out.block b (M1.out.lt b hb)))
  go_enter Try.func34, Try.ntmps34
  go_wp2_with fail
  refine (markMessageS_c _ x.messages _ _ _ M1.out HN.out (by omega) (by omega)).mono ?_
  rintro e w1 ⟨rfl, hMk, hCk⟩
  have HK1 := hide hCk
  have HC := hide (HC.out.trans (hCk.mono (fun b hb => .inl (by simp [hb]))))
  have N1 := hide hMk
  clear hMk hCk
  go_wp2_with fail
  go_ret
  refine ⟨?_, log_M_mk (x := tmkLog k x) N1.out, HC.out⟩
  simp only [tcntLog]
  exact ret_int (by first | rfl | omega)
end Go.Proofs.Yticjphaagmnahaa
namespace Go.Proofs.Yticjphaagmnahaa
open Go Go.RowKit Go.ChangeShapes Go.WideShapes Go.Deep
set_option linter.unusedVariables false

theorem opens_message : Opens Try.prog messageD okMessage 43 := by
  intro H enc W held fuel cs y h
  obtain ⟨hl, hf⟩ := open_fields Try.underlying43 (by kernel_rfl) (by kernel_rfl) h
  obtain ⟨v0, n0, z0, c0, t0⟩ := hf 0 _ rfl
  obtain ⟨v1, n1, z1, c1, t1⟩ := hf 1 _ rfl
  obtain ⟨v2, n2, z2, c2, t2⟩ := hf 2 _ rfl
  obtain ⟨v3, n3, z3, c3, t3⟩ := hf 3 _ rfl
  obtain ⟨v4, n4, z4, c4, t4⟩ := hf 4 _ rfl
  obtain ⟨v5, n5, z5, c5, t5⟩ := hf 5 _ rfl
  obtain ⟨v6, n6, z6, c6, t6⟩ := hf 6 _ rfl
  obtain ⟨v7, n7, z7, c7, t7⟩ := hf 7 _ rfl
  obtain ⟨x0, hx0, -, -⟩ := DataW.trod_int Try.underlying2 t0
  obtain ⟨x1, hx1, -, -⟩ := DataW.trod_int Try.underlying2 t1
  obtain ⟨x2, hx2, -, -⟩ := DataW.trod_int Try.underlying2 t2
  obtain ⟨x3, hx3, -, hs3⟩ := DataW.trod_string Try.underlying9 t3
  obtain ⟨x4, hx4, -, -⟩ := DataW.trod_int Try.underlying2 t4
  obtain ⟨x5, hx5, -⟩ := DataW.trod_bool Try.underlying4 t5
  obtain ⟨x6, hx6, -, -⟩ := DataW.trod_int Try.underlying2 t6
  obtain ⟨x7, hx7, -⟩ := opens_slice Try.underlying28 (by kernel_rfl) (by decide) (opens_int Try.underlying2) H enc W held n7 v7 _ t7
  simp only [List.cons.injEq, and_true] at hx0 hx1 hx2 hx3 hx4 hx5 hx6
  subst hx0 hx1 hx2 hx3 hx4 hx5 hx6
  match cs, hl with
  | [_, _, _, _, _, _, _, _], _ =>
    simp at c0 c1 c2 c3 c4 c5 c6 c7
    subst c0 c1 c2 c3 c4 c5 c6 c7
    exact ⟨⟨x0, x1, x2, x3, x4, x5, x6, x7⟩, message_K_mk hx7, hs3⟩
set_option maxRecDepth 100000 in
theorem open_log {H : Type} {enc : TypeId × Value → H} {W : World} {held : Bool} {b0 : Nat} {v : Value} {d : DataW H} {ps : List MemPlace} (hv : Value.okWide Try.prog W .any b0 53 v)
    (h : DataW.Trod enc Try.prog W 0 (fun _ => true) held 53 v d ps) : ∃ (x : Log) (v1 : Value), v = .agg #[.int .i64 x.next, v1] ∧ SliceK messageD W v1 x.messages ∧ okLog x := by
  obtain ⟨cs, rfl, hsz⟩ := okWide_struct Try.underlying53 hv
  obtain ⟨fuel, h⟩ := h
  obtain ⟨hl, hf⟩ := open_fields Try.underlying53 (by kernel_rfl) (by kernel_rfl) h
  obtain ⟨v0, n0, z0, c0, t0⟩ := hf 0 _ rfl
  obtain ⟨v1, n1, z1, c1, t1⟩ := hf 1 _ rfl
  obtain ⟨x0, hx0, -, -⟩ := DataW.trod_int Try.underlying2 t0
  obtain ⟨x1, hx1, hk1⟩ := opens_slice Try.underlying51 (by kernel_rfl) (by decide) opens_message H enc W held n1 v1 _ t1
  simp only [List.cons.injEq, and_true] at hx0
  subst hx0
  obtain ⟨l⟩ := cs
  simp only [Value.cells] at c0 c1 hl
  match l, hl with
  | [_, _], _ =>
    simp at c0 c1
    subst c0 c1
    exact ⟨⟨x0, x1⟩, _, rfl, hx1, hk1⟩
end Go.Proofs.Yticjphaagmnahaa
namespace Go.Proofs.Yticjphaagmnahaa
open Go Go.RowKit
set_option linter.unusedVariables false
set_option linter.unusedSimpArgs false

/-! ### Entry -/
structure Entry where
  word : ByteArray
  numbers : List Int
  deriving DecidableEq, Inhabited
def entryD : Dt Entry := Dt.cat (Dt.flat 1 (fun x : Entry => [.string x.word]) (fun _ => rfl) (fun x u hu => by simp at hu; subst hu; rfl)) ((Dt.slice 2 intD).iso (fun x : Entry => x.numbers))
theorem entry_K {w : World} {x : Entry} {cs : List Value} (h : entryD.K w x cs) : ∃ v1, cs = [.string x.word, v1] ∧ SliceK intD w v1 x.numbers := by
  obtain ⟨_, _, rfl, rfl, ⟨v1, rfl, h1⟩⟩ := h
  exact ⟨v1, rfl, h1⟩
theorem entry_K_mk {w : World} {x : Entry} {v1 : Value} (h1 : SliceK intD w v1 x.numbers) : entryD.K w x [.string x.word, v1] := by
  exact ⟨_, _, rfl, rfl, ⟨v1, rfl, h1⟩⟩
theorem entry_M {w : World} {x : Entry} {cs : List Value} {F : List Nat} (h : entryD.M w x cs F) : ∃ v1 F1, cs = [.string x.word, v1] ∧ F = F1 ∧ SliceM intD 2 w v1 x.numbers F1 := by
  obtain ⟨_, _, _, F1, rfl, rfl, ⟨rfl, rfl⟩, ⟨v1, rfl, h1⟩⟩ := h
  exact ⟨v1, F1, rfl, by simp, h1⟩
theorem entry_M_mk {w : World} {x : Entry} {v1 : Value} {F1 : List Nat} (h1 : SliceM intD 2 w v1 x.numbers F1) : entryD.M w x [.string x.word, v1] (F1) := by
  exact ⟨_, _, [], F1, rfl, by simp, ⟨rfl, rfl⟩, ⟨v1, rfl, h1⟩⟩
theorem entry_at {w W : World} {b o j : Nat} {xs : List Entry} {x : Entry} (h : RowAt entryD w b o xs) (hb : Below w.heap.size w W) (hj : xs[j]? = some x) : ∃ v1, SliceK intD W v1 x.numbers ∧ b < W.heap.size ∧ W.cell? ⟨b, o + j * 2, none⟩ = some (.string x.word) ∧ W.cell? ⟨b, o + j * 2 + 1, none⟩ = some (v1) := by
  obtain ⟨cs, hk, hc⟩ := (h.below hb) j x hj
  obtain ⟨v1, rfl, h1⟩ := entry_K hk
  have hc : ∀ i u, ([.string x.word, v1] : List Value)[i]? = some u → W.cell? ⟨b, o + j * 2 + i, none⟩ = some u := hc
  exact ⟨v1, h1, World.block_lt_of_cell? W _ (hc 0 _ rfl), hc 0 _ rfl, hc 1 _ rfl⟩

/-! ### Index -/
structure Index where
  entries : List Entry
  deriving DecidableEq, Inhabited
def indexD : Dt Index := (Dt.slice 106 entryD).iso (fun x : Index => x.entries)
theorem index_K {w : World} {x : Index} {cs : List Value} (h : indexD.K w x cs) : ∃ v0, cs = [v0] ∧ SliceK entryD w v0 x.entries := by
  obtain ⟨v0, rfl, h0⟩ := h
  exact ⟨v0, rfl, h0⟩
theorem index_K_mk {w : World} {x : Index} {v0 : Value} (h0 : SliceK entryD w v0 x.entries) : indexD.K w x [v0] := by
  exact ⟨v0, rfl, h0⟩
theorem index_M {w : World} {x : Index} {cs : List Value} {F : List Nat} (h : indexD.M w x cs F) : ∃ v0 F0, cs = [v0] ∧ F = F0 ∧ SliceM entryD 106 w v0 x.entries F0 := by
  obtain ⟨v0, rfl, h0⟩ := h
  exact ⟨v0, F, rfl, by simp, h0⟩
theorem index_M_mk {w : World} {x : Index} {v0 : Value} {F0 : List Nat} (h0 : SliceM entryD 106 w v0 x.entries F0) : indexD.M w x [v0] (F0) := by
  exact ⟨v0, rfl, h0⟩
theorem index_at {w W : World} {b o j : Nat} {xs : List Index} {x : Index} (h : RowAt indexD w b o xs) (hb : Below w.heap.size w W) (hj : xs[j]? = some x) : ∃ v0, SliceK entryD W v0 x.entries ∧ b < W.heap.size ∧ W.cell? ⟨b, o + j, none⟩ = some (v0) := by
  obtain ⟨cs, hk, hc⟩ := (h.below hb) j x hj
  obtain ⟨v0, rfl, h0⟩ := index_K hk
  have hc : ∀ i u, ([v0] : List Value)[i]? = some u → W.cell? ⟨b, o + j * 1 + i, none⟩ = some u := hc
  exact ⟨v0, h0, World.block_lt_of_cell? W _ (hc 0 _ rfl), by have := hc 0 _ rfl; rwa [Nat.mul_one, Nat.add_zero] at this⟩
end Go.Proofs.Yticjphaagmnahaa
namespace Go.Proofs.Yticjphaagmnahaa
open Go Go.RowKit
set_option linter.unusedVariables false
set_option linter.unusedSimpArgs false

/-! ### Entry -/
def sizeEntry (x : Entry) : Nat := x.word.size + x.numbers.length
/-- Its strings are no longer than a machine holds. -/
def okEntry (x : Entry) : Prop := x.word.size ≤ 9223372036854775807
def fewEntry (x : Entry) : Prop := x.numbers.length ≤ 1048576
def eqEntryB (a b : Entry) : Bool := !(!(a.word.toList == b.word.toList)) && !(!(decide (a.numbers = b.numbers)))
theorem eqEntryB_iff (a b : Entry) : eqEntryB a b = true ↔ a = b := by
  cases a; cases b
  simp [eqEntryB, bytes_eq, and_assoc]
theorem eqEntryB_eq (a b : Entry) : eqEntryB a b = decide (a = b) := by
  rw [Bool.eq_iff_iff, eqEntryB_iff, decide_eq_true_iff]
set_option maxHeartbeats 2000000 in
theorem eqEntry_c (x y : Entry) (v1 u1 : Value) (w : World) (h1 : SliceK intD w v1 x.numbers) (g1 : SliceK intD w u1 y.numbers) :
    Calls Try.prog 120 #[.agg #[.string x.word, v1], .agg #[.string y.word, u1]] w fun e w' => e = .returned (.bool (eqEntryB x y)) ∧ Below w.heap.size w w' := by
  have H1 := hide h1
  have G1 := hide g1
  clear h1 g1
  have HB := hide (((Below.refl w.heap.size w).alloc (Nat.le_refl _) (.cells #[.string x.word, v1] 106)).alloc (by simp) (.cells #[.string y.word, u1] 106))
  go_enter Try.func120, Try.ntmps120
  go_wp2_with (first | (go_at_call 17; ((with_reducible refine (eqInt64S_c _ _ _ _ _ (H1.out.below HB.out) (G1.out.below HB.out)).mono ?_); rintro e w1 ⟨rfl, hb1⟩; have HN := hide (HB.out.trans (hb1.mono HB.out.size)); obtain ⟨hc, hf, hs⟩ := bcell hb1; have hz : w.heap.size + 1 < w1.heap.size := (by ((try simp only [World.size_alloc] at hs); omega)); have hy : w.heap.size < w1.heap.size := (by omega); clear hs hb1 HB; have HB := HN; clear HN)))
  all_goals
    go_ret
    refine ⟨?_, HB.out⟩
    first
    | (rw [show eqEntryB x y = false from by simp only [eqEntryB, decide_true, decide_false, Bool.not_true, Bool.not_false, Bool.and_false, Bool.false_and, Bool.and_true, Bool.true_and, *]]; rfl)
    | (rw [show eqEntryB x y = true from by simp only [eqEntryB, decide_true, decide_false, Bool.not_true, Bool.not_false, Bool.and_false, Bool.false_and, Bool.and_true, Bool.true_and, *]]; rfl)
set_option maxHeartbeats 2000000 in
set_option maxRecDepth 100000 in
theorem eqEntryS_c (va vb : Value) (a b : List Entry) (w : World) (ha : SliceK entryD w va a) (hb : SliceK entryD w vb b) :
    Calls Try.prog 61 #[va, vb] w fun e w' => e = .returned (.bool (decide (a = b))) ∧ Below w.heap.size w w' := by
  obtain ⟨A, c, rfl, hl1, hm1, hra⟩ := ha
  obtain ⟨B, c', rfl, hl2, hm2, hrb⟩ := hb
  by_cases hlen : a.length = b.length
  · have hne : (((a.length : Nat) : Int) != ((b.length : Nat) : Int)) = false := by simp [hlen]
    have HL := hide hlen
    have HA := hide hra
    have HB := hide hrb
    clear hlen hra hrb
    go_enter Try.func61, Try.ntmps61
    go_wp2
    go_loopg [5] a.length (fun gg s5 wr => ∃ k : Nat, k ≤ a.length ∧ a.length - k ≤ gg ∧ s5 = .int .i64 k ∧ Hid (a.take k = b.take k) ∧ Hid (Below w.heap.size w wr))
    case atStart => exact ⟨0, Nat.zero_le _, by omega, rfl, rfl, Below.refl _ _⟩
    case round =>
      obtain ⟨k, hk, hg, rfl, HT, HW⟩ := hrel
      by_cases hlt : k < a.length
      · obtain ⟨x, hx⟩ : ∃ x, a[k]? = some x := ⟨_, List.getElem?_eq_getElem hlt⟩
        obtain ⟨y, hy⟩ : ∃ y, b[k]? = some y := ⟨_, List.getElem?_eq_getElem (by have := HL.out; omega)⟩
        have hkb : k < b.length := by have := HL.out; omega
        rcases HA.out with rfl | ⟨p, o, rfl, hra⟩
        · simp at hlt
        rcases HB.out with rfl | ⟨p', o', rfl, hrb⟩
        · simp at hkb
        obtain ⟨v1, h1, p, hc0, hc1⟩ := entry_at hra HW.out hx
        obtain ⟨u1, g1, p', gc0, gc1⟩ := entry_at hrb HW.out hy
        have HX := hide hx
        have HY := hide hy
        have H1 := hide h1
        have G1 := hide g1
        clear hx hy hra hrb HA HB h1 g1
        go_wp2
        go_still_tail 8, (by kernel_rfl)
        change wpList _ _ _ _ _ wr.drew
        go_wp2_with (go_at_call 120; refine (eqEntry_c x y v1 u1 _ (H1.out.below ((Below.refl _ _).drew)) (G1.out.below ((Below.refl _ _).drew))).mono ?_; rintro e w1 ⟨rfl, hb1⟩; have H1 := hide (HW.out.drew.trans (hb1.mono (by simpa using HW.out.size))); clear hb1)
        · have hq : ¬ x = y := fun e => by rw [(eqEntryB_iff x y).2 e] at *; contradiction
          go_ret
          exact ⟨by rw [eqAll_pre HT.out HX.out HY.out hq]; rfl, H1.out⟩
        · have hq : eqEntryB x y = true := by simpa using ‹(!eqEntryB x y) = false›
          have HQ := hide ((eqEntryB_iff x y).1 hq)
          clear hq
          go_roundg (a.length - (k + 1))
          case measure => omega
          case rel => exact ⟨k + 1, by omega, by omega, by go_num, hide (by rw [List.take_add_one, List.take_add_one, HX.out, HY.out, HT.out, HQ.out]), H1⟩
      · have : k = a.length := by omega
        subst this
        go_wp2
        go_ret
        exact ⟨by rw [show decide (a = b) = true from by rw [decide_eq_true_iff]; have := HT.out; rw [List.take_length] at this; rw [this, HL.out, List.take_length]]; rfl, HW.out⟩
  · have hne : (((a.length : Nat) : Int) != ((b.length : Nat) : Int)) = true := by simp; omega
    have he : decide (a = b) = false := decide_eq_false (by rintro rfl; exact hlen rfl)
    have HE := hide he
    clear he hlen hra hrb
    go_enter Try.func61, Try.ntmps61
    go_wp2
    go_ret
    exact ⟨by rw [HE.out]; rfl, Below.refl _ _⟩
set_option maxHeartbeats 2000000 in
theorem toEntry_c (x : Entry) (v1 : Value) (w : World) (h1 : SliceK intD w v1 x.numbers) (hw : fewEntry x) :
    Calls Try.prog 111 #[.agg #[.string x.word, v1]] w (RetElem entryD w x) := by
  have n1 : _ ≤ 1048576 := hw
  have H1 := hide h1
  clear h1
  go_enter Try.func111, Try.ntmps111
  go_wp2_with fail
  refine (toInt64S_c _ x.numbers _ (H1.out.below ?hb0) n1).mono ?_
  case hb0 => exact ((((Below.refl _ _).alloc (Nat.le_refl _) _).alloc (by simp) _).alloc (by simp; omega) _)
  rintro e w1 ⟨v, rfl, hM, hb1⟩
  obtain ⟨A1, c1, rfl⟩ := hM.shape
  have HM0 := hide hM
  have HS0 := hide hb1
  have HB0 := hide (((((Below.refl _ _).alloc (Nat.le_refl _) _).alloc (by simp) _).alloc (by simp; omega) _).trans (hb1.mono (by simp; omega)) : Below w.heap.size w w1)
  obtain ⟨hc0, hf0, hs0⟩ := bcell hb1
  simp only [World.size_alloc, World.size_setCell] at hs0
  have hz0 : w.heap.size + 1 + 1 < w1.heap.size := by omega
  have hy0 : w.heap.size < w1.heap.size := by omega
  have hle0 : w.heap.size ≤ w1.heap.size := by omega
  have hx0 : w.heap.size + 1 < w1.heap.size := by omega
  clear hM hb1 hs0
  go_wp2_with fail
  have HZ : Hid (∀ wz, Chg [w.heap.size + 1, w.heap.size + 1 + 1] w1 wz → RetElem entryD w x (.returned (.agg #[.string x.word, .slice A1 x.numbers.length c1])) wz) := by
    intro wz hch
    have c0_ : Chg [w.heap.size + 1, w.heap.size + 1 + 1] w1 wz := hch
    obtain ⟨F1, hm1, hn1, hF1⟩ := HM0.out
    have hl1 := hm1.lt
    have m1 := hm1.move fun b hb => c0_.block b (hl1 b hb) (by intro hg; have := hF1 b hb; simp at this hg; omega)
    refine ⟨_, F1, rfl, entry_M_mk m1, hn1, ?_, ?_⟩
    · intro b hb; have := hF1 b hb; simp at this; omega
    · exact HB0.out.trans (hch.below (by omega) (by intro k hk; simp at hk; omega))
  refine bodyPost_ret (v := .agg #[.string x.word, .slice A1 x.numbers.length c1]) (by simp [results, Try.results111, go_sem, hc0, hz0, hy0, hx0]) rfl (HZ.out _ ?_)
  repeat (with_reducible refine Chg.setCell ?_ (.inl (by simp)) _)
  exact Chg.refl _ _
theorem infoEntry : (Try.prog.info? 106).map (fun i => (i.zero, i.size, i.bytes)) = some (some (.agg #[(.string ⟨#[]⟩), (.slice none 0 0)]), 2, 40) := by kernel_rfl
set_option maxHeartbeats 2000000 in
set_option maxRecDepth 100000 in
theorem toEntryS_c (v : Value) (a : List Entry) (w : World) (ha : SliceK entryD w v a) (hn : a.length ≤ 1048576) (hw : ∀ x ∈ a, fewEntry x) :
    Calls Try.prog 53 #[v] w (RetMade entryD 106 w a) := by
  obtain ⟨A, c, rfl, hl1, hm1, hra⟩ := ha
  have HA := hide hra
  have HWH := hide hw
  clear hw
  have hmk := run_mk (P := Try.prog) 31 106 (.agg #[(.string ⟨#[]⟩), (.slice none 0 0)]) 2 40 Try.underlying31 infoEntry a.length (by omega) (by omega)
  clear hra
  go_enter Try.func53, Try.ntmps53
  go_wp2_with fail
  obtain ⟨B, hB⟩ : ∃ B, B = w.heap.size := ⟨_, rfl⟩
  have HBs := hide hB
  rw [← hB]
  have H0 : ∃ cur css Fs, Row entryD 106 (w.alloc (Obj.cells (mkRow (.agg #[(.string ⟨#[]⟩), (.slice none 0 0)]) (a.length * 2)) 106)) B a.length cur css Fs (a.take 0) ∧ (B :: Fs.flatten).Nodup ∧ (∀ q ∈ B :: Fs.flatten, w.heap.size ≤ q) :=
    ⟨_, [], [], by rw [hB]; exact Row.start (d := entryD) (by omega), by simp, by intro q hq; simp at hq; omega⟩
  have H0 := hide H0
  clear hB
  go_loopg [4] a.length (fun gg s4 wr => ∃ k : Nat, k ≤ a.length ∧ a.length - k ≤ gg ∧ s4 = .int .i64 k ∧ Hid (∃ cur css Fs, Row entryD 106 wr B a.length cur css Fs (a.take k) ∧ (B :: Fs.flatten).Nodup ∧ (∀ q ∈ B :: Fs.flatten, w.heap.size ≤ q)) ∧ Hid (Below w.heap.size w wr))
  case atStart => exact ⟨0, Nat.zero_le _, by omega, rfl, H0, (Below.refl _ _).alloc (Nat.le_refl _) _⟩
  case round =>
    obtain ⟨k, hk, hg, rfl, HR, HW⟩ := hrel
    clear H0 hmk
    by_cases hlt : k < a.length
    · obtain ⟨x, hx⟩ : ∃ x, a[k]? = some x := ⟨_, List.getElem?_eq_getElem hlt⟩
      rcases HA.out with rfl | ⟨p, o, rfl, hra⟩
      · simp at hlt
      obtain ⟨v1, h1, p, hc0, hc1⟩ := entry_at hra HW.out hx
      have hfew := hide (HWH.out x (List.mem_of_getElem? hx))
      have H1 := hide h1
      have HX := hide hx
      clear hx hra HA h1
      go_wp2_with fail
      refine (toEntry_c x _ _ (H1.out) hfew.out).mono ?_
      rintro e w1 ⟨cs, G, rfl, hm, hnd, hG, hb1⟩
      obtain ⟨cur, css, Fs, hrow, hnF, hgF⟩ := HR.out
      have HM := hide hm
      obtain ⟨t1, G1, rfl, hGe, g1⟩ := entry_M hm
      obtain ⟨A1, c1, rfl⟩ := g1.toK.shape
      clear g1
      have hsz : cur.size = a.length * 2 := hrow.size
      have hlB : B < wr.heap.size := block_lt hrow.blk
      have hblk1 : w1.heap[B]? = some (.cells cur 106 (0, 0)) := (hb1.block B hlB).trans hrow.blk
      have hfz : ∀ o, w1.frozen? ⟨B, o, none⟩ = false := fun o => frozen_block hblk1
      have hlB1 : B < w1.heap.size := block_lt hblk1
      obtain ⟨z0, hz0⟩ : ∃ z, w1.cell? ⟨B, k * 2, none⟩ = some z := ⟨cur[k * 2]'(by omega), by rw [cell_block hblk1]; exact Array.getElem?_eq_getElem (by omega)⟩
      obtain ⟨z1, hz1⟩ : ∃ z, w1.cell? ⟨B, k * 2 + 1, none⟩ = some z := ⟨cur[k * 2 + 1]'(by omega), by rw [cell_block hblk1]; exact Array.getElem?_eq_getElem (by omega)⟩
      have HC := hide (And.intro hrow (And.intro hnF (And.intro hgF (And.intro hnd (And.intro hG (And.intro hb1 hblk1))))))
      have HSZ := hide hsz
      clear HR hrow hnF hgF hnd hG hb1 hblk1 hlB hsz hm hGe
      go_wp2_with fail
      obtain ⟨hrow, hnF, hgF, hnd, hG, hb1, hblk1⟩ := HC.out
      obtain ⟨cur', hcur', hlist'⟩ := putCells_block [.string x.word, .slice A1 x.numbers.length c1] w1 B (k * 2) hblk1
      have hBl : ∀ q ∈ B :: Fs.flatten, q < wr.heap.size := hrow.lt
      have htl : (a.take k).length = k := by rw [List.length_take]; omega
      go_roundg (a.length - (k + 1))
      case measure => omega
      case rel =>
        refine ⟨k + 1, by omega, by omega, by go_num, hide ⟨cur', css ++ [[.string x.word, .slice A1 x.numbers.length c1]], Fs ++ [G], ?_, ?_, ?_⟩, hide ?_⟩
        · rw [List.take_add_one, HX.out]
          refine Row.snoc (w' := putCells w1 B (k * 2) [.string x.word, .slice A1 x.numbers.length c1]) hrow (by omega) (Dt.M_move _ (fun q hq => putCells_other _ _ _ _ ?_) HM.out) hcur' (by rw [htl]; exact hlist') (fun q hq => (putCells_other _ _ _ _ ?_).trans (hb1.block q (hBl q (List.mem_cons_of_mem _ hq))))
          · have := hG q hq; have := hBl B List.mem_cons_self; omega
          · intro e; subst e; exact (List.nodup_cons.1 hnF).1 hq
        · rw [List.flatten_append, List.flatten_singleton, ← List.cons_append]
          exact nodup_app hnF hnd hBl hG
        · intro q hq
          rw [List.flatten_append, List.flatten_singleton, ← List.cons_append, List.mem_append] at hq
          rcases hq with hq | hq
          · exact hgF q hq
          · exact Nat.le_trans HW.out.size (hG q hq)
        · exact putCells_below [.string x.word, .slice A1 x.numbers.length c1] B (k * 2) (HW.out.trans (hb1.mono HW.out.size)) (hgF B List.mem_cons_self)
    · have : k = a.length := by omega
      subst this
      go_wp2
      go_ret
      obtain ⟨cur, css, Fs, hrow, hnF, hgF⟩ := HR.out
      rw [List.take_length] at hrow
      exact ⟨_, rfl, ⟨_, hrow.M, hnF, hgF⟩, HW.out⟩
set_option maxHeartbeats 2000000 in
theorem szEntry_c (x : Entry) (v1 : Value) (left : Int) (w : World) (h1 : SliceK intD w v1 x.numbers) (b0 : 0 ≤ left) (b1 : left ≤ 1048576) (hok : okEntry x) :
    Calls Try.prog 107 #[.agg #[.string x.word, v1], .int .i64 left] w fun e w' => RetSz left (sizeEntry x) e ∧ Below w.heap.size w w' := by
  have H1 := hide h1
  clear h1
  have HK := hide hok
  unfold okEntry at hok
  have hs0 := hok
  clear hok
  have HB := hide ((Below.refl w.heap.size w).alloc (Nat.le_refl _) (.cells #[.string x.word, v1] 122))
  go_enter Try.func107, Try.ntmps107
  go_wp2_with (first | (go_at_call 64; ((with_reducible refine (szInt64S_c _ x.numbers _ _ (H1.out.below HB.out) (by omega) (by omega)).mono ?_); rintro e w1 ⟨⟨r1, rfl, hr1⟩, hb1⟩; have hd1 := szR_bd hr1 (by omega); have R1 := hide hr1; have HN := hide (HB.out.trans (hb1.mono HB.out.size)); obtain ⟨hc, hf, hs⟩ := bcell hb1; have hy : w.heap.size < w1.heap.size := (by ((try simp only [World.size_alloc] at hs); omega)); clear hs hb1 HB hr1; have HB := HN; clear HN)))
  all_goals
    go_ret
    refine ⟨⟨_, rfl, ?_⟩, HB.out⟩
    try have e1 := szR_spec R1.out (by omega)
    unfold szR sizeEntry
    split <;> omega
set_option maxHeartbeats 2000000 in
theorem szEntryS_c (v : Value) (a : List Entry) (left : Int) (w : World) (ha : SliceK entryD w v a) (h0 : 0 ≤ left) (h1 : left ≤ 1048576) (hok : ∀ x ∈ a, okEntry x) :
    Calls Try.prog 48 #[v, .int .i64 left] w fun e w' => RetSz left (a.length + sizeAll sizeEntry a) e ∧ Below w.heap.size w w' := by
  obtain ⟨A, c, rfl, hl1, hm1, hra⟩ := ha
  have HA := hide hra
  have HOK := hide hok
  clear hok
  clear hra
  by_cases h : (a.length : Int) ≤ left
  · have h2 : ¬ (left - (a.length : Int) < 0) := by omega
    go_enter Try.func48, Try.ntmps48
    go_wp2
    go_loopg [1, 5] a.length (fun gg s1 s5 wr => ∃ (k : Nat) (q : Int), k ≤ a.length ∧ a.length - k ≤ gg ∧ s1 = .int .i64 q ∧ s5 = .int .i64 k ∧ 0 ≤ q ∧ q ≤ 1048576 ∧ Hid (q = left - a.length - sizeAll sizeEntry (a.take k)) ∧ Hid (Below w.heap.size w wr))
    case atStart => exact ⟨0, left - a.length, Nat.zero_le _, by omega, rfl, rfl, by omega, by omega, hide (by simp [sizeAll]), Below.refl _ _⟩
    case round =>
      obtain ⟨k, q, hk, hg, rfl, rfl, hq0, hq1, HQ, HW⟩ := hrel
      by_cases hlt : k < a.length
      · obtain ⟨x, hx⟩ : ∃ x, a[k]? = some x := ⟨_, List.getElem?_eq_getElem hlt⟩
        rcases HA.out with rfl | ⟨p, o, rfl, hra⟩
        · simp at hlt
        obtain ⟨v1, h1, p, hc0, hc1⟩ := entry_at hra HW.out hx
        have HX := hide hx
        have hokx := hide (HOK.out x (List.mem_of_getElem? hx))
        have H1 := hide h1
        clear hx hra HA h1
        go_wp2_with fail
        refine (szEntry_c x _ q _ H1.out hq0 hq1 hokx.out).mono ?_
        rintro e w1 ⟨⟨r, rfl, hr⟩, hb1⟩
        have hd := szR_bd hr hq0
        have R := hide hr
        have H1 := hide (HW.out.trans (hb1.mono HW.out.size))
        clear hr hb1
        go_wp2_with fail
        · have hT := sizeAll_take sizeEntry a k x HX.out
          have hL := sizeAll_le sizeEntry a (k + 1)
          have hsp := szR_spec R.out hq0
          have := HQ.out
          go_ret
          exact ⟨⟨_, rfl, by unfold szR; rw [if_neg (by omega)]⟩, H1.out⟩
        · have hT := sizeAll_take sizeEntry a k x HX.out
          have hsp := szR_spec R.out hq0
          have := HQ.out
          have hrq : r = q - sizeEntry x := by omega
          go_roundg (a.length - (k + 1))
          case measure => omega
          case rel => exact ⟨k + 1, r, by omega, by omega, rfl, by go_num, by omega, by omega, hide (by rw [hT]; omega), H1⟩
      · have : k = a.length := by omega
        subst this
        go_wp2
        go_ret
        have := HQ.out
        rw [List.take_length] at this
        exact ⟨⟨_, rfl, by unfold szR; rw [if_pos (by omega)]; omega⟩, HW.out⟩
  · have hr := hide (show -1 = szR left (a.length + sizeAll sizeEntry a) from (if_neg (by omega)).symm)
    have h2 : (left - (a.length : Int) < 0) := by omega
    go_enter Try.func48, Try.ntmps48
    go_wp2
    go_ret
    exact ⟨⟨_, rfl, hr.out⟩, Below.refl _ _⟩
def cntEntry (x : Entry) : Nat := 1 + x.numbers.length
def mkEntry (k : Int) (x : Entry) : Entry := { word := markT (k), numbers := marks (k + 1) x.numbers.length }
theorem cntEntry_mk (k : Int) (x : Entry) : cntEntry (mkEntry k x) = cntEntry x := by simp [cntEntry, mkEntry, marks_len, marks_len]
theorem mkEntry_mk (k : Int) (x : Entry) : mkEntry k (mkEntry k x) = mkEntry k x := by simp [mkEntry, marks_len, marks_len]
def heldEntryB (k : Int) (x : Entry) : Bool := !(!(x.word.toList == (markT (k)).toList)) && !(decide (heldI (k + 1) x.numbers < 0))
theorem heldEntryB_iff {k : Int} (h : 0 ≤ k) (x : Entry) : heldEntryB k x = true ↔ x = mkEntry k x := by
  cases x
  simp only [heldEntryB, mkEntry, Entry.mk.injEq, bytes_eq, Bool.and_eq_true, Bool.not_eq_true', bne_eq_false_iff_eq, Bool.not_eq_false', beq_iff_eq, decide_eq_false_iff_not, and_assoc]
  rw [heldI_nn (by omega)]
  simp only [Decidable.not_not]
set_option maxHeartbeats 4000000 in
set_option maxRecDepth 100000 in
theorem markEntryS_c (v : Value) (xs : List Entry) (F : List Nat) (k : Int) (w : World) (h : SliceM entryD 106 w v xs F) (hn : F.Nodup) (h0 : 0 ≤ k) (h1 : k + cntAll cntEntry xs ≤ 1000000000000) :
    Calls Try.prog 62 #[v, .int .i64 k] w (RetMarkA entryD 106 cntEntry mkEntry w v xs F k) := by
  rcases h.row with ⟨rfl, rfl, rfl⟩ | ⟨B, cap, cur, css, Fs, rfl, hrow, rfl⟩
  · go_enter Try.func62, Try.ntmps62
    go_wp2
    go_loopg [1, 5] 0 (fun gg s1 s5 wr => s1 = .int .i64 k ∧ s5 = .int .i64 0 ∧ w = wr)
    case atStart => exact ⟨rfl, rfl, rfl⟩
    case round =>
      obtain ⟨rfl, rfl, rfl⟩ := hrel
      go_wp2
      go_ret
      exact ⟨by simp [cntAll], .inl ⟨rfl, rfl, rfl⟩, Chg.refl _ _⟩
  · have H0 := hide (show ∃ cur css, Row entryD 106 w B cap cur css Fs (mixed cntEntry mkEntry k xs 0) from ⟨cur, css, by rw [mixed_zero]; exact hrow⟩)
    have HN := hide hn
    have hlen := hrow.le
    have hmax := hrow.max
    clear h hrow hn
    go_enter Try.func62, Try.ntmps62
    go_wp2
    go_loopg [1, 5] xs.length (fun gg s1 s5 wr => ∃ (i : Nat) (q : Int), i ≤ xs.length ∧ xs.length - i ≤ gg ∧ s1 = .int .i64 q ∧ s5 = .int .i64 i ∧ 0 ≤ q ∧ Hid (q = k + cntAll cntEntry (xs.take i)) ∧
      Hid (∃ cur css, Row entryD 106 wr B cap cur css Fs (mixed cntEntry mkEntry k xs i)) ∧ Hid (Chg (B :: Fs.flatten) w wr))
    case atStart => exact ⟨0, k, Nat.zero_le _, by omega, rfl, rfl, h0, hide (by simp [cntAll]), H0, Chg.refl _ _⟩
    case round =>
      obtain ⟨i, q, hi, hg, rfl, rfl, hq0, HQ, HR, HW⟩ := hrel
      clear H0
      by_cases hlt : i < xs.length
      · obtain ⟨x, hx⟩ : ∃ x, xs[i]? = some x := ⟨_, List.getElem?_eq_getElem hlt⟩
        obtain ⟨cur, css, hrow⟩ := HR.out
        obtain ⟨cs, G, hE⟩ := RowE.ofRow hrow (mixed_get (cnt := cntEntry) (mk := mkEntry) k xs i hx)
        have hcT := cntAll_take (cnt := cntEntry) xs i x hx
        have hcL := cntAll_le (cnt := cntEntry) xs (i + 1)
        have hq1 : q + cntEntry x ≤ 1000000000000 := by have := HQ.out; omega
        have hq2 : q + (1 + x.numbers.length : Nat) ≤ 1000000000000 := hq1
        have HT := hide hcT
        have HX := hide hx
        have hlB := hE.blt
        have hfz := hE.frozen
        have hcell := hE.cell
        obtain ⟨v1, G1, rfl, hGe, g1⟩ := entry_M hE.M
        have hc0 : wr.cell? ⟨B, i * 2, none⟩ = some (.string x.word) := hcell 0 _ rfl
        have hc1 : wr.cell? ⟨B, i * 2 + 1, none⟩ = some (v1) := hcell 1 _ rfl
        have E0 := hide hE
        clear HR hcell hcT hcL hx hrow hE hq1 hGe g1
        go_wp2_with fail
        refine (markText_c _ _ (by omega) (by omega)).mono ?_
        rintro e w1 ⟨rfl, hb⟩
        have hss := hb.size
        (try simp only [World.size_setCell] at hss)
        have hlB1 : B < w1.heap.size := by omega
        have hle1 : wr.heap.size ≤ w1.heap.size := by omega
        have E1 := hide (E0.out.below hb)
        have hfz1 := E1.out.frozen
        have hcell := E1.out.cell
        have hcc1_0 : w1.cell? ⟨B, i * 2, none⟩ = some _ := hcell 0 _ rfl
        have hcc1_1 : w1.cell? ⟨B, i * 2 + 1, none⟩ = some _ := hcell 1 _ rfl
        have HS1 := hide hb
        clear hb hss hcell
        have E2 := hide (E1.out.put HN.out 0 (.string (markT (q))) ({ x with word := markT (q) }) (by decide) (fun hm => by obtain ⟨t1, J1, hl, hF, j1⟩ := entry_M hm; simp at hl; obtain rfl := hl; rw [hF]; exact entry_M_mk (x := { x with word := markT (q) }) j1))
        go_wp2_with fail
        obtain ⟨t1, G1', hl, hGe, g1⟩ := entry_M E2.out.M
        simp at hl
        obtain rfl := hl
        have hGn := (E2.out.nodup HN.out).1
        rw [hGe] at hGn
        refine (markInt64S_c _ x.numbers _ _ _ g1 (by omega) (by omega)).mono ?_
        rintro e w2 ⟨rfl, hMk, hCk⟩
        have HCk := hide hCk
        rw [← hGe] at hCk
        have E3 := hide (E2.out.inner HN.out ({ x with word := markT (q), numbers := marks (q + 1) x.numbers.length }) hCk (by rw [hGe]; exact entry_M_mk (x := { x with word := markT (q), numbers := marks (q + 1) x.numbers.length }) hMk))
        have HCg := hide hCk
        clear hMk hCk g1 hGn hGe HCk
        go_wp2_with fail
        obtain ⟨cur', css', hrow'⟩ := E3.out.row
        simp only [List.set_set] at hrow'
        have hmk : { x with word := markT (q), numbers := marks (q + 1) x.numbers.length } = mkEntry q x := rfl
        have hmx : (mixed cntEntry mkEntry k xs i).set i (mkEntry q x) = mixed cntEntry mkEntry k xs (i + 1) := by rw [HQ.out]; exact mixed_set k xs i HX.out
        rw [hmk, hmx] at hrow'
        go_roundg (xs.length - (i + 1))
        case measure => omega
        case rel =>
          refine ⟨i + 1, q + 1 + x.numbers.length, by omega, by omega, rfl, by go_num, by omega, hide (by have h1 := HQ.out; have h2 := HT.out; have h3 : cntEntry x = 1 + x.numbers.length := rfl; rw [h2]; omega), hide ⟨cur', css', hrow'⟩, hide ?_⟩
          exact ((((((HW.out).then HS1.out)).setCell (.inl (by simp)) _)).trans (HCg.out.mono (fun b hb => .inl (List.mem_cons_of_mem _ (E3.out.sub b hb)))))
      · have : i = xs.length := by omega
        subst this
        go_wp2
        go_ret
        obtain ⟨cur, css, hrow⟩ := HR.out
        rw [mixed_all] at hrow
        have hq := HQ.out
        rw [List.take_length] at hq
        refine ⟨by rw [← hq]; rfl, ?_, HW.out⟩
        have hS := hrow.M
        rwa [markAll_len] at hS
set_option maxHeartbeats 4000000 in
set_option maxRecDepth 100000 in
theorem heldEntryS_c (v : Value) (xs : List Entry) (k : Int) (w : World) (h : SliceK entryD w v xs) (h0 : 0 ≤ k) (h1 : k + cntAll cntEntry xs ≤ 1000000000000) :
    Calls Try.prog 93 #[v, .int .i64 k] w fun e w' => e = .returned (.int .i64 (heldAll cntEntry mkEntry k xs)) ∧ Below w.heap.size w w' := by
  obtain ⟨A, c, rfl, hl, hm, hra⟩ := h
  have HA := hide hra
  clear hra
  go_enter Try.func93, Try.ntmps93
  go_wp2
  go_loopg [1, 5] xs.length (fun gg s1 s5 wr => ∃ (i : Nat) (q : Int), i ≤ xs.length ∧ xs.length - i ≤ gg ∧ s1 = .int .i64 q ∧ s5 = .int .i64 i ∧ 0 ≤ q ∧ Hid (q = k + cntAll cntEntry (xs.take i)) ∧ Hid (xs.take i = (markAll cntEntry mkEntry k xs).take i) ∧ Hid (Below w.heap.size w wr))
  case atStart => exact ⟨0, k, Nat.zero_le _, by omega, rfl, rfl, h0, hide (by simp [cntAll]), rfl, Below.refl _ _⟩
  case round =>
    obtain ⟨i, q, hi, hg, rfl, rfl, hq0, HQ, HT, HB⟩ := hrel
    by_cases hlt : i < xs.length
    · obtain ⟨x, hx⟩ : ∃ x, xs[i]? = some x := ⟨_, List.getElem?_eq_getElem hlt⟩
      rcases HA.out with rfl | ⟨p, o, rfl, hra⟩
      · simp at hlt
      obtain ⟨v1, h1, p, hc0, hc1⟩ := entry_at hra HB.out hx
      have hcT := cntAll_take (cnt := cntEntry) xs i x hx
      have hcL := cntAll_le (cnt := cntEntry) xs (i + 1)
      have hq1 : q + cntEntry x ≤ 1000000000000 := by have := HQ.out; omega
      have hq2 : q + (1 + x.numbers.length : Nat) ≤ 1000000000000 := hq1
      have HcT := hide hcT
      have HX := hide hx
      have H1 := hide h1
      clear hx hra HA hcT hcL hq1 h1
      go_wp2_with fail
      all_goals try (
         have hB : heldEntryB q x = false := by simp only [heldEntryB, decide_true, decide_false, Bool.not_true, Bool.not_false, Bool.and_false, Bool.false_and, Bool.and_true, Bool.true_and, *]
         have hE : ¬ x = mkEntry q x := fun e => by rw [(heldEntryB_iff hq0 x).2 e] at hB; cases hB
         rw [HQ.out] at hE
         go_ret
         exact ⟨by rw [heldAll_neg HX.out hE]; rfl, HB.out⟩)
      go_region_with (go_at_call 63; refine (markText_c _ _ (by omega) (by omega)).mono ?_; rintro e w1 ⟨rfl, hb1⟩; have HN := hide (HB.out.drew.trans (hb1.mono (by simpa using HB.out.size))); have g0 := cell_below hb1 (show wr.drew.cell? _ = _ from hc0); have g1 := cell_below hb1 (show wr.drew.cell? _ = _ from hc1); have bw := hide hb1; clear hb1 HB; have HB := HN; clear HN)
      all_goals go_wp2_with (first | (go_at_call 23; refine (heldInt64S_c _ x.numbers _ _ ((H1.out.below ((Below.refl _ _).drew)).below bw.out) (by omega) (by omega)).mono ?_; rintro e w1 ⟨rfl, hb1⟩; have HN := hide (HB.out.trans (hb1.mono HB.out.size)); clear hb1 HB; have HB := HN; clear HN))
      all_goals first
      | (
         go_roundg (xs.length - (i + 1))
         case measure => omega
         case rel =>
           have hnl := Int.not_lt.mpr (show 0 ≤ heldI (q + 1) x.numbers by assumption)
           have hB : heldEntryB q x = true := by simp only [heldEntryB, decide_true, decide_false, Bool.not_true, Bool.not_false, Bool.and_false, Bool.false_and, Bool.and_true, Bool.true_and, *]
           have hE := (heldEntryB_iff hq0 x).1 hB
           have hQ := HQ.out
           exact ⟨i + 1, q + cntEntry x, by omega, by omega, (int_congr (by have hsp := heldI_spec (show heldI (q + 1) x.numbers = heldI (q + 1) x.numbers from rfl) (by omega); have hx3 : 0 ≤ heldI (q + 1) x.numbers := (by assumption); unfold cntEntry; rcases hsp with ⟨hsp, _⟩ | ⟨hsp, _⟩ <;> omega)), by go_num, by omega, hide (by rw [HcT.out, hQ]; omega), hide (by rw [List.take_add_one, List.take_add_one, HX.out, HT.out, markAll_get _ _ _ _ HX.out, ← hQ, ← hE]), HB⟩)
      | (
         have hB : heldEntryB q x = false := by simp only [heldEntryB, decide_true, decide_false, Bool.not_true, Bool.not_false, Bool.and_false, Bool.false_and, Bool.and_true, Bool.true_and, *]
         have hE : ¬ x = mkEntry q x := fun e => by rw [(heldEntryB_iff hq0 x).2 e] at hB; cases hB
         rw [HQ.out] at hE
         go_ret
         exact ⟨by rw [heldAll_neg HX.out hE]; rfl, HB.out⟩)
    · have : i = xs.length := by omega
      subst this
      go_wp2
      go_ret
      have hq := HQ.out
      rw [List.take_length] at hq
      exact ⟨by rw [heldAll_pos HT.out, ← hq]; rfl, HB.out⟩
/-! ### Index -/
def sizeIndex (x : Index) : Nat := (x.entries.length + sizeAll sizeEntry x.entries)
/-- Its strings are no longer than a machine holds. -/
def okIndex (x : Index) : Prop := (∀ y ∈ x.entries, okEntry y)
def fewIndex (x : Index) : Prop := x.entries.length ≤ 1048576 ∧ (∀ y ∈ x.entries, fewEntry y)
def eqIndexB (a b : Index) : Bool := !(!(decide (a.entries = b.entries)))
theorem eqIndexB_iff (a b : Index) : eqIndexB a b = true ↔ a = b := by
  cases a; cases b
  simp [eqIndexB, bytes_eq, and_assoc]
theorem eqIndexB_eq (a b : Index) : eqIndexB a b = decide (a = b) := by
  rw [Bool.eq_iff_iff, eqIndexB_iff, decide_eq_true_iff]
set_option maxHeartbeats 2000000 in
theorem eqIndex_c (x y : Index) (v0 u0 : Value) (w : World) (h0 : SliceK entryD w v0 x.entries) (g0 : SliceK entryD w u0 y.entries) :
    Calls Try.prog 18 #[.agg #[v0], .agg #[u0]] w fun e w' => e = .returned (.bool (eqIndexB x y)) ∧ Below w.heap.size w w' := by
  have H0 := hide h0
  have G0 := hide g0
  clear h0 g0
  have HB := hide (((Below.refl w.heap.size w).alloc (Nat.le_refl _) (.cells #[v0] 33)).alloc (by simp) (.cells #[u0] 33))
  go_enter Try.func18, Try.ntmps18
  go_wp2_with (first | (go_at_call 61; ((with_reducible refine (eqEntryS_c _ _ _ _ _ (H0.out.below HB.out) (G0.out.below HB.out)).mono ?_); rintro e w1 ⟨rfl, hb1⟩; have HN := hide (HB.out.trans (hb1.mono HB.out.size)); obtain ⟨hc, hf, hs⟩ := bcell hb1; have hz : w.heap.size + 1 < w1.heap.size := (by ((try simp only [World.size_alloc] at hs); omega)); have hy : w.heap.size < w1.heap.size := (by omega); clear hs hb1 HB; have HB := HN; clear HN)))
  all_goals
    go_ret
    refine ⟨?_, HB.out⟩
    first
    | (rw [show eqIndexB x y = false from by simp only [eqIndexB, decide_true, decide_false, Bool.not_true, Bool.not_false, Bool.and_false, Bool.false_and, Bool.and_true, Bool.true_and, *]]; rfl)
    | (rw [show eqIndexB x y = true from by simp only [eqIndexB, decide_true, decide_false, Bool.not_true, Bool.not_false, Bool.and_false, Bool.false_and, Bool.and_true, Bool.true_and, *]]; rfl)
set_option maxHeartbeats 2000000 in
theorem toIndex_c (x : Index) (v0 : Value) (w : World) (h0 : SliceK entryD w v0 x.entries) (hw : fewIndex x) :
    Calls Try.prog 14 #[.agg #[v0]] w (RetElem indexD w x) := by
  unfold fewIndex at hw
  obtain ⟨n0, k0⟩ := hw
  have W0 := hide k0
  clear k0
  have H0 := hide h0
  clear h0
  go_enter Try.func14, Try.ntmps14
  go_wp2_with fail
  refine (toEntryS_c _ x.entries _ (H0.out.below ?hb0) n0 W0.out).mono ?_
  case hb0 => exact ((((Below.refl _ _).alloc (Nat.le_refl _) _).alloc (by simp) _).alloc (by simp; omega) _)
  rintro e w1 ⟨v, rfl, hM, hb1⟩
  obtain ⟨A0, c0, rfl⟩ := hM.shape
  have HM0 := hide hM
  have HS0 := hide hb1
  have HB0 := hide (((((Below.refl _ _).alloc (Nat.le_refl _) _).alloc (by simp) _).alloc (by simp; omega) _).trans (hb1.mono (by simp; omega)) : Below w.heap.size w w1)
  obtain ⟨hc0, hf0, hs0⟩ := bcell hb1
  simp only [World.size_alloc, World.size_setCell] at hs0
  have hz0 : w.heap.size + 1 + 1 < w1.heap.size := by omega
  have hy0 : w.heap.size < w1.heap.size := by omega
  have hle0 : w.heap.size ≤ w1.heap.size := by omega
  have hx0 : w.heap.size + 1 < w1.heap.size := by omega
  clear hM hb1 hs0
  go_wp2_with fail
  have HZ : Hid (∀ wz, Chg [w.heap.size + 1, w.heap.size + 1 + 1] w1 wz → RetElem indexD w x (.returned (.agg #[.slice A0 x.entries.length c0])) wz) := by
    intro wz hch
    have c0_ : Chg [w.heap.size + 1, w.heap.size + 1 + 1] w1 wz := hch
    obtain ⟨F0, hm0, hn0, hF0⟩ := HM0.out
    have hl0 := hm0.lt
    have m0 := hm0.move fun b hb => c0_.block b (hl0 b hb) (by intro hg; have := hF0 b hb; simp at this hg; omega)
    refine ⟨_, F0, rfl, index_M_mk m0, hn0, ?_, ?_⟩
    · intro b hb; have := hF0 b hb; simp at this; omega
    · exact HB0.out.trans (hch.below (by omega) (by intro k hk; simp at hk; omega))
  refine bodyPost_ret (v := .agg #[.slice A0 x.entries.length c0]) (by simp [results, Try.results14, go_sem, hc0, hz0, hy0, hx0]) rfl (HZ.out _ ?_)
  repeat (with_reducible refine Chg.setCell ?_ (.inl (by simp)) _)
  exact Chg.refl _ _
set_option maxHeartbeats 2000000 in
theorem szIndex_c (x : Index) (v0 : Value) (left : Int) (w : World) (h0 : SliceK entryD w v0 x.entries) (b0 : 0 ≤ left) (b1 : left ≤ 1048576) (hok : okIndex x) :
    Calls Try.prog 11 #[.agg #[v0], .int .i64 left] w fun e w' => RetSz left (sizeIndex x) e ∧ Below w.heap.size w w' := by
  have H0 := hide h0
  clear h0
  have HK := hide hok
  unfold okIndex at hok
  have ho0 := hok
  have O0 := hide ho0
  clear ho0
  clear hok
  have HB := hide ((Below.refl w.heap.size w).alloc (Nat.le_refl _) (.cells #[v0] 24))
  go_enter Try.func11, Try.ntmps11
  go_wp2_with (first | (go_at_call 48; ((with_reducible refine (szEntryS_c _ x.entries _ _ (H0.out.below HB.out) (by omega) (by omega) O0.out).mono ?_); rintro e w1 ⟨⟨r0, rfl, hr0⟩, hb1⟩; have hd0 := szR_bd hr0 (by omega); have R0 := hide hr0; have HN := hide (HB.out.trans (hb1.mono HB.out.size)); obtain ⟨hc, hf, hs⟩ := bcell hb1; have hy : w.heap.size < w1.heap.size := (by ((try simp only [World.size_alloc] at hs); omega)); clear hs hb1 HB hr0; have HB := HN; clear HN)))
  all_goals
    go_ret
    refine ⟨⟨_, rfl, ?_⟩, HB.out⟩
    try have e0 := szR_spec R0.out (by omega)
    unfold szR sizeIndex
    split <;> omega
def tcntIndex (x : Index) : Nat := cntAll cntEntry x.entries
def tmkIndex (k : Int) (x : Index) : Index := { x with entries := markAll cntEntry mkEntry (k) x.entries }
theorem tcntIndex_mk (k : Int) (x : Index) : tcntIndex (tmkIndex k x) = tcntIndex x := by simp [tcntIndex, tmkIndex, marks_len, cntAll_mark cntEntry_mk, markAll_mark cntEntry_mk mkEntry_mk, marks_len]
theorem tmkIndex_mk (k : Int) (x : Index) : tmkIndex k (tmkIndex k x) = tmkIndex k x := by simp [tmkIndex, marks_len, cntAll_mark cntEntry_mk, markAll_mark cntEntry_mk mkEntry_mk, marks_len]
def theldIndex (k : Int) (x : Index) : Int := if x = tmkIndex k x then k + tcntIndex x else -1
theorem theldIndex_nn {k : Int} (h : 0 ≤ k) (x : Index) : theldIndex k x < 0 ↔ ¬ x = tmkIndex k x := by
  unfold theldIndex; split
  · rename_i h1; constructor
    · intro h2; omega
    · intro h2; exact absurd h1 h2
  · rename_i h1; exact ⟨fun _ => h1, fun _ => by omega⟩
theorem theldIndex_mk (k : Int) (x : Index) : theldIndex k (tmkIndex k x) = k + tcntIndex x := by
  unfold theldIndex
  rw [if_pos (tmkIndex_mk k x).symm, tcntIndex_mk]
set_option maxHeartbeats 4000000 in
theorem markIndex_c (x : Index) (cs : List Value) (F : List Nat) (k : Int) (w : World) (h : indexD.M w x cs F) (hn : F.Nodup) (h0 : 0 ≤ k) (h1 : k + tcntIndex x ≤ 1000000000000) :
    Calls Try.prog 20 #[.agg cs.toArray, .int .i64 k] w (RetMarkT indexD w (tcntIndex x) (tmkIndex k x) cs F k) := by
  unfold tcntIndex at h1
  obtain ⟨v0, F0, rfl, rfl, g0⟩ := index_M h
  have hnn := hn
  have HN := hide hn
  have HNN := hide hnn
  clear h hn hnn
  have M0 := hide g0
  clear g0
  have HC := hide ((Chg.refl (F) w).alloc (.cells #[v0] 33))
  have HB := hide (Below.refl w.heap.size w |>.alloc (Nat.le_refl _) (.cells #[v0] 33))
  have M0 := hide (M0.out.move (fun b hb => HB.out.block b (M0.out.lt b hb)))
  go_enter Try.func20, Try.ntmps20
  go_wp2_with fail
  refine (markEntryS_c _ x.entries _ _ _ M0.out HN.out (by omega) (by omega)).mono ?_
  rintro e w1 ⟨rfl, hMk, hCk⟩
  have HK1 := hide hCk
  have HC := hide (HC.out.trans (hCk.mono (fun b hb => .inl (by simp [hb]))))
  have N0 := hide hMk
  clear hMk hCk
  go_wp2_with fail
  go_ret
  refine ⟨?_, index_M_mk (x := tmkIndex k x) N0.out, HC.out⟩
  simp only [tcntIndex]
  exact ret_int (by first | rfl | omega)
theorem tmkIndex_iff (k : Int) (x : Index) : x = tmkIndex k x ↔ x.entries = markAll cntEntry mkEntry (k) x.entries := by cases x; simp [tmkIndex]
theorem theldIndex_spec {k r : Int} {x : Index} (h : r = theldIndex k x) (h0 : 0 ≤ k) : (r = k + tcntIndex x ∧ x = tmkIndex k x) ∨ (r = -1 ∧ ¬ x = tmkIndex k x) := by
  subst h; unfold theldIndex; split
  · rename_i h1; exact .inl ⟨rfl, h1⟩
  · rename_i h1; exact .inr ⟨rfl, h1⟩
set_option maxHeartbeats 4000000 in
theorem heldIndex_c (x : Index) (v0 : Value) (k : Int) (w : World) (h0 : SliceK entryD w v0 x.entries) (b0 : 0 ≤ k) (b1 : k + tcntIndex x ≤ 1000000000000) :
    Calls Try.prog 42 #[.agg #[v0], .int .i64 k] w fun e w' => e = .returned (.int .i64 (theldIndex k x)) ∧ Below w.heap.size w w' := by
  unfold tcntIndex at b1
  have H0 := hide h0
  clear h0
  have HB := hide ((Below.refl w.heap.size w).alloc (Nat.le_refl _) (.cells #[v0] 33))
  go_enter Try.func42, Try.ntmps42
  go_wp2_with (first | (go_at_call 93; ((with_reducible refine (heldEntryS_c _ x.entries _ _ (H0.out.below HB.out) (by omega) (by omega)).mono ?_); rintro e w1 ⟨rfl, hb1⟩; have HN := hide (HB.out.trans (hb1.mono HB.out.size)); obtain ⟨hc, hf, hs⟩ := bcell hb1; have hy : w.heap.size < w1.heap.size := (by ((try simp only [World.size_alloc] at hs); omega)); clear hs hb1 HB; have HB := HN; clear HN; obtain ⟨r0, hr0⟩ : ∃ r, r = heldAll cntEntry mkEntry (k) x.entries := ⟨_, rfl⟩; rw [← hr0]; have hd0 : -1 ≤ r0 ∧ r0 ≤ k + cntAll cntEntry x.entries := (by rcases heldAll_spec hr0 (by omega) with h | h <;> omega); have R0 := hide hr0; clear hr0)))
  · go_ret
    refine ⟨?_, HB.out⟩
    have s0 := heldAll_spec R0.out (by omega)
    have hne : ¬ x = tmkIndex k x := fun hx => by
      have hx2 := (tmkIndex_iff k x).1 hx
      rcases s0 with ⟨e0, m0⟩ | ⟨e0, m0⟩
      · omega
      · exact m0 hx2
    rw [show theldIndex k x = -1 from if_neg hne]
    rfl
  · go_ret
    refine ⟨?_, HB.out⟩
    have s0 := heldAll_spec R0.out (by omega)
    rcases s0 with ⟨e0, m0⟩ | ⟨e0, _⟩
    case inr => omega
    have hx : x = tmkIndex k x := (tmkIndex_iff k x).2 m0
    rw [show theldIndex k x = r0 from by unfold theldIndex tcntIndex; rw [if_pos hx]; omega]
    rfl
end Go.Proofs.Yticjphaagmnahaa
