/- The Go structs of the part Log as Lean structures, and how they lie in cells. The laws' own helpers on the structs of the part Log. A log that comes from without, read as plain data. The Go structs of the part Event as Lean structures, and how they lie in cells. The laws' own helpers on the structs of the part Event. An event that comes from without, read as plain data. A history that comes from without, read as plain data. -/
import Derived.Test.YtodmongmaoeknaaGreatRGround
import Derived.StillTailTactics
import Derived.Deep.RegionWith
namespace Go.Proofs.YtodmongmaoeknaaGreat
open Go Go.RowKit
set_option linter.unusedVariables false
set_option linter.unusedSimpArgs false

/-! ### Message -/
structure Message where
  number : Int
  sender : Int
  at_ : Int
  text : ByteArray
  edits : Int
  gone : Bool
  reply : Int
  likes : List Int
  deriving DecidableEq, Inhabited
def messageD : Dt Message := Dt.cat (Dt.flat 7 (fun x : Message => [.int .i64 x.number, .int .i64 x.sender, .int .i64 x.at_, .string x.text, .int .i64 x.edits, .bool x.gone, .int .i64 x.reply]) (fun _ => rfl) (fun x u hu => by simp at hu; rcases hu with rfl | rfl | rfl | rfl | rfl | rfl | rfl <;> rfl)) ((Dt.slice 2 intD).iso (fun x : Message => x.likes))
theorem message_K {w : World} {x : Message} {cs : List Value} (h : messageD.K w x cs) : ∃ v7, cs = [.int .i64 x.number, .int .i64 x.sender, .int .i64 x.at_, .string x.text, .int .i64 x.edits, .bool x.gone, .int .i64 x.reply, v7] ∧ SliceK intD w v7 x.likes := by
  obtain ⟨_, _, rfl, rfl, ⟨v7, rfl, h7⟩⟩ := h
  exact ⟨v7, rfl, h7⟩
theorem message_K_mk {w : World} {x : Message} {v7 : Value} (h7 : SliceK intD w v7 x.likes) : messageD.K w x [.int .i64 x.number, .int .i64 x.sender, .int .i64 x.at_, .string x.text, .int .i64 x.edits, .bool x.gone, .int .i64 x.reply, v7] := by
  exact ⟨_, _, rfl, rfl, ⟨v7, rfl, h7⟩⟩
theorem message_M {w : World} {x : Message} {cs : List Value} {F : List Nat} (h : messageD.M w x cs F) : ∃ v7 F7, cs = [.int .i64 x.number, .int .i64 x.sender, .int .i64 x.at_, .string x.text, .int .i64 x.edits, .bool x.gone, .int .i64 x.reply, v7] ∧ F = F7 ∧ SliceM intD 2 w v7 x.likes F7 := by
  obtain ⟨_, _, _, F7, rfl, rfl, ⟨rfl, rfl⟩, ⟨v7, rfl, h7⟩⟩ := h
  exact ⟨v7, F7, rfl, by simp, h7⟩
theorem message_M_mk {w : World} {x : Message} {v7 : Value} {F7 : List Nat} (h7 : SliceM intD 2 w v7 x.likes F7) : messageD.M w x [.int .i64 x.number, .int .i64 x.sender, .int .i64 x.at_, .string x.text, .int .i64 x.edits, .bool x.gone, .int .i64 x.reply, v7] (F7) := by
  exact ⟨_, _, [], F7, rfl, by simp, ⟨rfl, rfl⟩, ⟨v7, rfl, h7⟩⟩
theorem message_at {w W : World} {b o j : Nat} {xs : List Message} {x : Message} (h : RowAt messageD w b o xs) (hb : Below w.heap.size w W) (hj : xs[j]? = some x) : ∃ v7, SliceK intD W v7 x.likes ∧ b < W.heap.size ∧ W.cell? ⟨b, o + j * 8, none⟩ = some (.int .i64 x.number) ∧ W.cell? ⟨b, o + j * 8 + 1, none⟩ = some (.int .i64 x.sender) ∧ W.cell? ⟨b, o + j * 8 + 2, none⟩ = some (.int .i64 x.at_) ∧ W.cell? ⟨b, o + j * 8 + 3, none⟩ = some (.string x.text) ∧ W.cell? ⟨b, o + j * 8 + 4, none⟩ = some (.int .i64 x.edits) ∧ W.cell? ⟨b, o + j * 8 + 5, none⟩ = some (.bool x.gone) ∧ W.cell? ⟨b, o + j * 8 + 6, none⟩ = some (.int .i64 x.reply) ∧ W.cell? ⟨b, o + j * 8 + 7, none⟩ = some (v7) := by
  obtain ⟨cs, hk, hc⟩ := (h.below hb) j x hj
  obtain ⟨v7, rfl, h7⟩ := message_K hk
  have hc : ∀ i u, ([.int .i64 x.number, .int .i64 x.sender, .int .i64 x.at_, .string x.text, .int .i64 x.edits, .bool x.gone, .int .i64 x.reply, v7] : List Value)[i]? = some u → W.cell? ⟨b, o + j * 8 + i, none⟩ = some u := hc
  exact ⟨v7, h7, World.block_lt_of_cell? W _ (hc 0 _ rfl), hc 0 _ rfl, hc 1 _ rfl, hc 2 _ rfl, hc 3 _ rfl, hc 4 _ rfl, hc 5 _ rfl, hc 6 _ rfl, hc 7 _ rfl⟩

/-! ### Log -/
structure Log where
  next : Int
  messages : List Message
  deriving DecidableEq, Inhabited
def logD : Dt Log := Dt.cat (Dt.flat 1 (fun x : Log => [.int .i64 x.next]) (fun _ => rfl) (fun x u hu => by simp at hu; subst hu; rfl)) ((Dt.slice 82 messageD).iso (fun x : Log => x.messages))
theorem log_K {w : World} {x : Log} {cs : List Value} (h : logD.K w x cs) : ∃ v1, cs = [.int .i64 x.next, v1] ∧ SliceK messageD w v1 x.messages := by
  obtain ⟨_, _, rfl, rfl, ⟨v1, rfl, h1⟩⟩ := h
  exact ⟨v1, rfl, h1⟩
theorem log_K_mk {w : World} {x : Log} {v1 : Value} (h1 : SliceK messageD w v1 x.messages) : logD.K w x [.int .i64 x.next, v1] := by
  exact ⟨_, _, rfl, rfl, ⟨v1, rfl, h1⟩⟩
theorem log_M {w : World} {x : Log} {cs : List Value} {F : List Nat} (h : logD.M w x cs F) : ∃ v1 F1, cs = [.int .i64 x.next, v1] ∧ F = F1 ∧ SliceM messageD 82 w v1 x.messages F1 := by
  obtain ⟨_, _, _, F1, rfl, rfl, ⟨rfl, rfl⟩, ⟨v1, rfl, h1⟩⟩ := h
  exact ⟨v1, F1, rfl, by simp, h1⟩
theorem log_M_mk {w : World} {x : Log} {v1 : Value} {F1 : List Nat} (h1 : SliceM messageD 82 w v1 x.messages F1) : logD.M w x [.int .i64 x.next, v1] (F1) := by
  exact ⟨_, _, [], F1, rfl, by simp, ⟨rfl, rfl⟩, ⟨v1, rfl, h1⟩⟩
theorem log_at {w W : World} {b o j : Nat} {xs : List Log} {x : Log} (h : RowAt logD w b o xs) (hb : Below w.heap.size w W) (hj : xs[j]? = some x) : ∃ v1, SliceK messageD W v1 x.messages ∧ b < W.heap.size ∧ W.cell? ⟨b, o + j * 2, none⟩ = some (.int .i64 x.next) ∧ W.cell? ⟨b, o + j * 2 + 1, none⟩ = some (v1) := by
  obtain ⟨cs, hk, hc⟩ := (h.below hb) j x hj
  obtain ⟨v1, rfl, h1⟩ := log_K hk
  have hc : ∀ i u, ([.int .i64 x.next, v1] : List Value)[i]? = some u → W.cell? ⟨b, o + j * 2 + i, none⟩ = some u := hc
  exact ⟨v1, h1, World.block_lt_of_cell? W _ (hc 0 _ rfl), hc 0 _ rfl, hc 1 _ rfl⟩
end Go.Proofs.YtodmongmaoeknaaGreat
namespace Go.Proofs.YtodmongmaoeknaaGreat
open Go Go.RowKit
set_option linter.unusedVariables false
set_option linter.unusedSimpArgs false

/-! ### Message -/
def sizeMessage (x : Message) : Nat := x.text.size + x.likes.length
/-- Its strings are no longer than a machine holds. -/
def okMessage (x : Message) : Prop := x.text.size ≤ 9223372036854775807
def fewMessage (x : Message) : Prop := x.likes.length ≤ 1048576
def eqMessageB (a b : Message) : Bool := !(a.number != b.number) && !(a.sender != b.sender) && !(a.at_ != b.at_) && !(!(a.text.toList == b.text.toList)) && !(a.edits != b.edits) && !(!(a.gone == b.gone)) && !(a.reply != b.reply) && !(!(decide (a.likes = b.likes)))
theorem eqMessageB_iff (a b : Message) : eqMessageB a b = true ↔ a = b := by
  cases a; cases b
  simp [eqMessageB, bytes_eq, and_assoc]
theorem eqMessageB_eq (a b : Message) : eqMessageB a b = decide (a = b) := by
  rw [Bool.eq_iff_iff, eqMessageB_iff, decide_eq_true_iff]
set_option maxHeartbeats 2000000 in
theorem eqMessage_c (x y : Message) (v7 u7 : Value) (w : World) (h7 : SliceK intD w v7 x.likes) (g7 : SliceK intD w u7 y.likes) :
    Calls Tryz.prog 64 #[.agg #[.int .i64 x.number, .int .i64 x.sender, .int .i64 x.at_, .string x.text, .int .i64 x.edits, .bool x.gone, .int .i64 x.reply, v7], .agg #[.int .i64 y.number, .int .i64 y.sender, .int .i64 y.at_, .string y.text, .int .i64 y.edits, .bool y.gone, .int .i64 y.reply, u7]] w fun e w' => e = .returned (.bool (eqMessageB x y)) ∧ Below w.heap.size w w' := by
  have H7 := hide h7
  have G7 := hide g7
  clear h7 g7
  have HB := hide (((Below.refl w.heap.size w).alloc (Nat.le_refl _) (.cells #[.int .i64 x.number, .int .i64 x.sender, .int .i64 x.at_, .string x.text, .int .i64 x.edits, .bool x.gone, .int .i64 x.reply, v7] 82)).alloc (by simp) (.cells #[.int .i64 y.number, .int .i64 y.sender, .int .i64 y.at_, .string y.text, .int .i64 y.edits, .bool y.gone, .int .i64 y.reply, u7] 82))
  go_enter Tryz.func64, Tryz.ntmps64
  go_wp2_with (first | (go_at_call 94; ((with_reducible refine (eqInt64S_c _ _ _ _ _ (H7.out.below HB.out) (G7.out.below HB.out)).mono ?_); rintro e w1 ⟨rfl, hb1⟩; have HN := hide (HB.out.trans (hb1.mono HB.out.size)); obtain ⟨hc, hf, hs⟩ := bcell hb1; have hz : w.heap.size + 1 < w1.heap.size := (by ((try simp only [World.size_alloc] at hs); omega)); have hy : w.heap.size < w1.heap.size := (by omega); clear hs hb1 HB; have HB := HN; clear HN)))
  all_goals
    go_ret
    refine ⟨?_, HB.out⟩
    first
    | (rw [show eqMessageB x y = false from by simp only [eqMessageB, decide_true, decide_false, Bool.not_true, Bool.not_false, Bool.and_false, Bool.false_and, Bool.and_true, Bool.true_and, *]]; rfl)
    | (rw [show eqMessageB x y = true from by simp only [eqMessageB, decide_true, decide_false, Bool.not_true, Bool.not_false, Bool.and_false, Bool.false_and, Bool.and_true, Bool.true_and, *]]; rfl)
set_option maxHeartbeats 2000000 in
set_option maxRecDepth 100000 in
theorem eqMessageS_c (va vb : Value) (a b : List Message) (w : World) (ha : SliceK messageD w va a) (hb : SliceK messageD w vb b) :
    Calls Tryz.prog 40 #[va, vb] w fun e w' => e = .returned (.bool (decide (a = b))) ∧ Below w.heap.size w w' := by
  obtain ⟨A, c, rfl, hl1, hm1, hra⟩ := ha
  obtain ⟨B, c', rfl, hl2, hm2, hrb⟩ := hb
  by_cases hlen : a.length = b.length
  · have hne : (((a.length : Nat) : Int) != ((b.length : Nat) : Int)) = false := by simp [hlen]
    have HL := hide hlen
    have HA := hide hra
    have HB := hide hrb
    clear hlen hra hrb
    go_enter Tryz.func40, Tryz.ntmps40
    go_wp2
    go_loopg [5] a.length (fun gg s5 wr => ∃ k : Nat, k ≤ a.length ∧ a.length - k ≤ gg ∧ s5 = .int .i64 k ∧ Hid (a.take k = b.take k) ∧ Hid (Below w.heap.size w wr))
    case atStart => exact ⟨0, Nat.zero_le _, by omega, rfl, rfl, Below.refl _ _⟩
    case round =>
      obtain ⟨k, hk, hg, rfl, HT, HW⟩ := hrel
      by_cases hlt : k < a.length
      · obtain ⟨x, hx⟩ : ∃ x, a[k]? = some x := ⟨_, List.getElem?_eq_getElem hlt⟩
        obtain ⟨y, hy⟩ : ∃ y, b[k]? = some y := ⟨_, List.getElem?_eq_getElem (by have := HL.out; omega)⟩
        have hkb : k < b.length := by have := HL.out; omega
        rcases HA.out with rfl | ⟨p, o, rfl, hra⟩
        · simp at hlt
        rcases HB.out with rfl | ⟨p', o', rfl, hrb⟩
        · simp at hkb
        obtain ⟨v7, h7, p, hc0, hc1, hc2, hc3, hc4, hc5, hc6, hc7⟩ := message_at hra HW.out hx
        obtain ⟨u7, g7, p', gc0, gc1, gc2, gc3, gc4, gc5, gc6, gc7⟩ := message_at hrb HW.out hy
        have HX := hide hx
        have HY := hide hy
        have H7 := hide h7
        have G7 := hide g7
        clear hx hy hra hrb HA HB h7 g7
        go_wp2
        go_still_tail 8, (by kernel_rfl)
        change wpList _ _ _ _ _ wr.drew
        go_wp2_with (go_at_call 64; refine (eqMessage_c x y v7 u7 _ (H7.out.below ((Below.refl _ _).drew)) (G7.out.below ((Below.refl _ _).drew))).mono ?_; rintro e w1 ⟨rfl, hb1⟩; have H1 := hide (HW.out.drew.trans (hb1.mono (by simpa using HW.out.size))); clear hb1)
        · have hq : ¬ x = y := fun e => by rw [(eqMessageB_iff x y).2 e] at *; contradiction
          go_ret
          exact ⟨by rw [eqAll_pre HT.out HX.out HY.out hq]; rfl, H1.out⟩
        · have hq : eqMessageB x y = true := by simpa using ‹(!eqMessageB x y) = false›
          have HQ := hide ((eqMessageB_iff x y).1 hq)
          clear hq
          go_roundg (a.length - (k + 1))
          case measure => omega
          case rel => exact ⟨k + 1, by omega, by omega, by go_num, hide (by rw [List.take_add_one, List.take_add_one, HX.out, HY.out, HT.out, HQ.out]), H1⟩
      · have : k = a.length := by omega
        subst this
        go_wp2
        go_ret
        exact ⟨by rw [show decide (a = b) = true from by rw [decide_eq_true_iff]; have := HT.out; rw [List.take_length] at this; rw [this, HL.out, List.take_length]]; rfl, HW.out⟩
  · have hne : (((a.length : Nat) : Int) != ((b.length : Nat) : Int)) = true := by simp; omega
    have he : decide (a = b) = false := decide_eq_false (by rintro rfl; exact hlen rfl)
    have HE := hide he
    clear he hlen hra hrb
    go_enter Tryz.func40, Tryz.ntmps40
    go_wp2
    go_ret
    exact ⟨by rw [HE.out]; rfl, Below.refl _ _⟩
set_option maxHeartbeats 2000000 in
theorem toMessage_c (x : Message) (v7 : Value) (w : World) (h7 : SliceK intD w v7 x.likes) (hw : fewMessage x) :
    Calls Tryz.prog 53 #[.agg #[.int .i64 x.number, .int .i64 x.sender, .int .i64 x.at_, .string x.text, .int .i64 x.edits, .bool x.gone, .int .i64 x.reply, v7]] w (RetElem messageD w x) := by
  have n7 : _ ≤ 1048576 := hw
  have H7 := hide h7
  clear h7
  go_enter Tryz.func53, Tryz.ntmps53
  go_wp2_with fail
  refine (toInt64S_c _ x.likes _ (H7.out.below ?hb0) n7).mono ?_
  case hb0 => exact ((((Below.refl _ _).alloc (Nat.le_refl _) _).alloc (by simp) _).alloc (by simp; omega) _)
  rintro e w1 ⟨v, rfl, hM, hb1⟩
  obtain ⟨A7, c7, rfl⟩ := hM.shape
  have HM0 := hide hM
  have HS0 := hide hb1
  have HB0 := hide (((((Below.refl _ _).alloc (Nat.le_refl _) _).alloc (by simp) _).alloc (by simp; omega) _).trans (hb1.mono (by simp; omega)) : Below w.heap.size w w1)
  obtain ⟨hc0, hf0, hs0⟩ := bcell hb1
  simp only [World.size_alloc, World.size_setCell] at hs0
  have hz0 : w.heap.size + 1 + 1 < w1.heap.size := by omega
  have hy0 : w.heap.size < w1.heap.size := by omega
  have hle0 : w.heap.size ≤ w1.heap.size := by omega
  have hx0 : w.heap.size + 1 < w1.heap.size := by omega
  clear hM hb1 hs0
  go_wp2_with fail
  have HZ : Hid (∀ wz, Chg [w.heap.size + 1, w.heap.size + 1 + 1] w1 wz → RetElem messageD w x (.returned (.agg #[.int .i64 x.number, .int .i64 x.sender, .int .i64 x.at_, .string x.text, .int .i64 x.edits, .bool x.gone, .int .i64 x.reply, .slice A7 x.likes.length c7])) wz) := by
    intro wz hch
    have c0_ : Chg [w.heap.size + 1, w.heap.size + 1 + 1] w1 wz := hch
    obtain ⟨F7, hm7, hn7, hF7⟩ := HM0.out
    have hl7 := hm7.lt
    have m7 := hm7.move fun b hb => c0_.block b (hl7 b hb) (by intro hg; have := hF7 b hb; simp at this hg; omega)
    refine ⟨_, F7, rfl, message_M_mk m7, hn7, ?_, ?_⟩
    · intro b hb; have := hF7 b hb; simp at this; omega
    · exact HB0.out.trans (hch.below (by omega) (by intro k hk; simp at hk; omega))
  refine bodyPost_ret (v := .agg #[.int .i64 x.number, .int .i64 x.sender, .int .i64 x.at_, .string x.text, .int .i64 x.edits, .bool x.gone, .int .i64 x.reply, .slice A7 x.likes.length c7]) (by simp [results, Tryz.results53, go_sem, hc0, hz0, hy0, hx0]) rfl (HZ.out _ ?_)
  repeat (with_reducible refine Chg.setCell ?_ (.inl (by simp)) _)
  exact Chg.refl _ _
theorem infoMessage : (Tryz.prog.info? 82).map (fun i => (i.zero, i.size, i.bytes)) = some (some (.agg #[(.int .i64 0), (.int .i64 0), (.int .i64 0), (.string ⟨#[]⟩), (.int .i64 0), (.bool false), (.int .i64 0), (.slice none 0 0)]), 8, 88) := by kernel_rfl
set_option maxHeartbeats 2000000 in
set_option maxRecDepth 100000 in
theorem toMessageS_c (v : Value) (a : List Message) (w : World) (ha : SliceK messageD w v a) (hn : a.length ≤ 1048576) (hw : ∀ x ∈ a, fewMessage x) :
    Calls Tryz.prog 34 #[v] w (RetMade messageD 82 w a) := by
  obtain ⟨A, c, rfl, hl1, hm1, hra⟩ := ha
  have HA := hide hra
  have HWH := hide hw
  clear hw
  have hmk := run_mk (P := Tryz.prog) 29 82 (.agg #[(.int .i64 0), (.int .i64 0), (.int .i64 0), (.string ⟨#[]⟩), (.int .i64 0), (.bool false), (.int .i64 0), (.slice none 0 0)]) 8 88 Tryz.underlying29 infoMessage a.length (by omega) (by omega)
  clear hra
  go_enter Tryz.func34, Tryz.ntmps34
  go_wp2_with fail
  obtain ⟨B, hB⟩ : ∃ B, B = w.heap.size := ⟨_, rfl⟩
  have HBs := hide hB
  rw [← hB]
  have H0 : ∃ cur css Fs, Row messageD 82 (w.alloc (Obj.cells (mkRow (.agg #[(.int .i64 0), (.int .i64 0), (.int .i64 0), (.string ⟨#[]⟩), (.int .i64 0), (.bool false), (.int .i64 0), (.slice none 0 0)]) (a.length * 8)) 82)) B a.length cur css Fs (a.take 0) ∧ (B :: Fs.flatten).Nodup ∧ (∀ q ∈ B :: Fs.flatten, w.heap.size ≤ q) :=
    ⟨_, [], [], by rw [hB]; exact Row.start (d := messageD) (by omega), by simp, by intro q hq; simp at hq; omega⟩
  have H0 := hide H0
  clear hB
  go_loopg [4] a.length (fun gg s4 wr => ∃ k : Nat, k ≤ a.length ∧ a.length - k ≤ gg ∧ s4 = .int .i64 k ∧ Hid (∃ cur css Fs, Row messageD 82 wr B a.length cur css Fs (a.take k) ∧ (B :: Fs.flatten).Nodup ∧ (∀ q ∈ B :: Fs.flatten, w.heap.size ≤ q)) ∧ Hid (Below w.heap.size w wr))
  case atStart => exact ⟨0, Nat.zero_le _, by omega, rfl, H0, (Below.refl _ _).alloc (Nat.le_refl _) _⟩
  case round =>
    obtain ⟨k, hk, hg, rfl, HR, HW⟩ := hrel
    clear H0 hmk
    by_cases hlt : k < a.length
    · obtain ⟨x, hx⟩ : ∃ x, a[k]? = some x := ⟨_, List.getElem?_eq_getElem hlt⟩
      rcases HA.out with rfl | ⟨p, o, rfl, hra⟩
      · simp at hlt
      obtain ⟨v7, h7, p, hc0, hc1, hc2, hc3, hc4, hc5, hc6, hc7⟩ := message_at hra HW.out hx
      have hfew := hide (HWH.out x (List.mem_of_getElem? hx))
      have H7 := hide h7
      have HX := hide hx
      clear hx hra HA h7
      go_wp2_with fail
      refine (toMessage_c x _ _ (H7.out) hfew.out).mono ?_
      rintro e w1 ⟨cs, G, rfl, hm, hnd, hG, hb1⟩
      obtain ⟨cur, css, Fs, hrow, hnF, hgF⟩ := HR.out
      have HM := hide hm
      obtain ⟨t7, G7, rfl, hGe, g7⟩ := message_M hm
      obtain ⟨A7, c7, rfl⟩ := g7.toK.shape
      clear g7
      have hsz : cur.size = a.length * 8 := hrow.size
      have hlB : B < wr.heap.size := block_lt hrow.blk
      have hblk1 : w1.heap[B]? = some (.cells cur 82 (0, 0)) := (hb1.block B hlB).trans hrow.blk
      have hfz : ∀ o, w1.frozen? ⟨B, o, none⟩ = false := fun o => frozen_block hblk1
      have hlB1 : B < w1.heap.size := block_lt hblk1
      obtain ⟨z0, hz0⟩ : ∃ z, w1.cell? ⟨B, k * 8, none⟩ = some z := ⟨cur[k * 8]'(by omega), by rw [cell_block hblk1]; exact Array.getElem?_eq_getElem (by omega)⟩
      obtain ⟨z1, hz1⟩ : ∃ z, w1.cell? ⟨B, k * 8 + 1, none⟩ = some z := ⟨cur[k * 8 + 1]'(by omega), by rw [cell_block hblk1]; exact Array.getElem?_eq_getElem (by omega)⟩
      obtain ⟨z2, hz2⟩ : ∃ z, w1.cell? ⟨B, k * 8 + 2, none⟩ = some z := ⟨cur[k * 8 + 2]'(by omega), by rw [cell_block hblk1]; exact Array.getElem?_eq_getElem (by omega)⟩
      obtain ⟨z3, hz3⟩ : ∃ z, w1.cell? ⟨B, k * 8 + 3, none⟩ = some z := ⟨cur[k * 8 + 3]'(by omega), by rw [cell_block hblk1]; exact Array.getElem?_eq_getElem (by omega)⟩
      obtain ⟨z4, hz4⟩ : ∃ z, w1.cell? ⟨B, k * 8 + 4, none⟩ = some z := ⟨cur[k * 8 + 4]'(by omega), by rw [cell_block hblk1]; exact Array.getElem?_eq_getElem (by omega)⟩
      obtain ⟨z5, hz5⟩ : ∃ z, w1.cell? ⟨B, k * 8 + 5, none⟩ = some z := ⟨cur[k * 8 + 5]'(by omega), by rw [cell_block hblk1]; exact Array.getElem?_eq_getElem (by omega)⟩
      obtain ⟨z6, hz6⟩ : ∃ z, w1.cell? ⟨B, k * 8 + 6, none⟩ = some z := ⟨cur[k * 8 + 6]'(by omega), by rw [cell_block hblk1]; exact Array.getElem?_eq_getElem (by omega)⟩
      obtain ⟨z7, hz7⟩ : ∃ z, w1.cell? ⟨B, k * 8 + 7, none⟩ = some z := ⟨cur[k * 8 + 7]'(by omega), by rw [cell_block hblk1]; exact Array.getElem?_eq_getElem (by omega)⟩
      have HC := hide (And.intro hrow (And.intro hnF (And.intro hgF (And.intro hnd (And.intro hG (And.intro hb1 hblk1))))))
      have HSZ := hide hsz
      clear HR hrow hnF hgF hnd hG hb1 hblk1 hlB hsz hm hGe
      go_wp2_with fail
      obtain ⟨hrow, hnF, hgF, hnd, hG, hb1, hblk1⟩ := HC.out
      obtain ⟨cur', hcur', hlist'⟩ := putCells_block [.int .i64 x.number, .int .i64 x.sender, .int .i64 x.at_, .string x.text, .int .i64 x.edits, .bool x.gone, .int .i64 x.reply, .slice A7 x.likes.length c7] w1 B (k * 8) hblk1
      have hBl : ∀ q ∈ B :: Fs.flatten, q < wr.heap.size := hrow.lt
      have htl : (a.take k).length = k := by rw [List.length_take]; omega
      go_roundg (a.length - (k + 1))
      case measure => omega
      case rel =>
        refine ⟨k + 1, by omega, by omega, by go_num, hide ⟨cur', css ++ [[.int .i64 x.number, .int .i64 x.sender, .int .i64 x.at_, .string x.text, .int .i64 x.edits, .bool x.gone, .int .i64 x.reply, .slice A7 x.likes.length c7]], Fs ++ [G], ?_, ?_, ?_⟩, hide ?_⟩
        · rw [List.take_add_one, HX.out]
          refine Row.snoc (w' := putCells w1 B (k * 8) [.int .i64 x.number, .int .i64 x.sender, .int .i64 x.at_, .string x.text, .int .i64 x.edits, .bool x.gone, .int .i64 x.reply, .slice A7 x.likes.length c7]) hrow (by omega) (Dt.M_move _ (fun q hq => putCells_other _ _ _ _ ?_) HM.out) hcur' (by rw [htl]; exact hlist') (fun q hq => (putCells_other _ _ _ _ ?_).trans (hb1.block q (hBl q (List.mem_cons_of_mem _ hq))))
          · have := hG q hq; have := hBl B List.mem_cons_self; omega
          · intro e; subst e; exact (List.nodup_cons.1 hnF).1 hq
        · rw [List.flatten_append, List.flatten_singleton, ← List.cons_append]
          exact nodup_app hnF hnd hBl hG
        · intro q hq
          rw [List.flatten_append, List.flatten_singleton, ← List.cons_append, List.mem_append] at hq
          rcases hq with hq | hq
          · exact hgF q hq
          · exact Nat.le_trans HW.out.size (hG q hq)
        · exact putCells_below [.int .i64 x.number, .int .i64 x.sender, .int .i64 x.at_, .string x.text, .int .i64 x.edits, .bool x.gone, .int .i64 x.reply, .slice A7 x.likes.length c7] B (k * 8) (HW.out.trans (hb1.mono HW.out.size)) (hgF B List.mem_cons_self)
    · have : k = a.length := by omega
      subst this
      go_wp2
      go_ret
      obtain ⟨cur, css, Fs, hrow, hnF, hgF⟩ := HR.out
      rw [List.take_length] at hrow
      exact ⟨_, rfl, ⟨_, hrow.M, hnF, hgF⟩, HW.out⟩
set_option maxHeartbeats 2000000 in
theorem szMessage_c (x : Message) (v7 : Value) (left : Int) (w : World) (h7 : SliceK intD w v7 x.likes) (b0 : 0 ≤ left) (b1 : left ≤ 1048576) (hok : okMessage x) :
    Calls Tryz.prog 45 #[.agg #[.int .i64 x.number, .int .i64 x.sender, .int .i64 x.at_, .string x.text, .int .i64 x.edits, .bool x.gone, .int .i64 x.reply, v7], .int .i64 left] w fun e w' => RetSz left (sizeMessage x) e ∧ Below w.heap.size w w' := by
  have H7 := hide h7
  clear h7
  have HK := hide hok
  unfold okMessage at hok
  have hs3 := hok
  clear hok
  have HB := hide ((Below.refl w.heap.size w).alloc (Nat.le_refl _) (.cells #[.int .i64 x.number, .int .i64 x.sender, .int .i64 x.at_, .string x.text, .int .i64 x.edits, .bool x.gone, .int .i64 x.reply, v7] 80))
  go_enter Tryz.func45, Tryz.ntmps45
  go_wp2_with (first | (go_at_call 67; ((with_reducible refine (szInt64S_c _ x.likes _ _ (H7.out.below HB.out) (by omega) (by omega)).mono ?_); rintro e w1 ⟨⟨r7, rfl, hr7⟩, hb1⟩; have hd7 := szR_bd hr7 (by omega); have R7 := hide hr7; have HN := hide (HB.out.trans (hb1.mono HB.out.size)); obtain ⟨hc, hf, hs⟩ := bcell hb1; have hy : w.heap.size < w1.heap.size := (by ((try simp only [World.size_alloc] at hs); omega)); clear hs hb1 HB hr7; have HB := HN; clear HN)))
  all_goals
    go_ret
    refine ⟨⟨_, rfl, ?_⟩, HB.out⟩
    try have e7 := szR_spec R7.out (by omega)
    unfold szR sizeMessage
    split <;> omega
set_option maxHeartbeats 2000000 in
theorem szMessageS_c (v : Value) (a : List Message) (left : Int) (w : World) (ha : SliceK messageD w v a) (h0 : 0 ≤ left) (h1 : left ≤ 1048576) (hok : ∀ x ∈ a, okMessage x) :
    Calls Tryz.prog 28 #[v, .int .i64 left] w fun e w' => RetSz left (a.length + sizeAll sizeMessage a) e ∧ Below w.heap.size w w' := by
  obtain ⟨A, c, rfl, hl1, hm1, hra⟩ := ha
  have HA := hide hra
  have HOK := hide hok
  clear hok
  clear hra
  by_cases h : (a.length : Int) ≤ left
  · have h2 : ¬ (left - (a.length : Int) < 0) := by omega
    go_enter Tryz.func28, Tryz.ntmps28
    go_wp2
    go_loopg [1, 5] a.length (fun gg s1 s5 wr => ∃ (k : Nat) (q : Int), k ≤ a.length ∧ a.length - k ≤ gg ∧ s1 = .int .i64 q ∧ s5 = .int .i64 k ∧ 0 ≤ q ∧ q ≤ 1048576 ∧ Hid (q = left - a.length - sizeAll sizeMessage (a.take k)) ∧ Hid (Below w.heap.size w wr))
    case atStart => exact ⟨0, left - a.length, Nat.zero_le _, by omega, rfl, rfl, by omega, by omega, hide (by simp [sizeAll]), Below.refl _ _⟩
    case round =>
      obtain ⟨k, q, hk, hg, rfl, rfl, hq0, hq1, HQ, HW⟩ := hrel
      by_cases hlt : k < a.length
      · obtain ⟨x, hx⟩ : ∃ x, a[k]? = some x := ⟨_, List.getElem?_eq_getElem hlt⟩
        rcases HA.out with rfl | ⟨p, o, rfl, hra⟩
        · simp at hlt
        obtain ⟨v7, h7, p, hc0, hc1, hc2, hc3, hc4, hc5, hc6, hc7⟩ := message_at hra HW.out hx
        have HX := hide hx
        have hokx := hide (HOK.out x (List.mem_of_getElem? hx))
        have H7 := hide h7
        clear hx hra HA h7
        go_wp2_with fail
        refine (szMessage_c x _ q _ H7.out hq0 hq1 hokx.out).mono ?_
        rintro e w1 ⟨⟨r, rfl, hr⟩, hb1⟩
        have hd := szR_bd hr hq0
        have R := hide hr
        have H1 := hide (HW.out.trans (hb1.mono HW.out.size))
        clear hr hb1
        go_wp2_with fail
        · have hT := sizeAll_take sizeMessage a k x HX.out
          have hL := sizeAll_le sizeMessage a (k + 1)
          have hsp := szR_spec R.out hq0
          have := HQ.out
          go_ret
          exact ⟨⟨_, rfl, by unfold szR; rw [if_neg (by omega)]⟩, H1.out⟩
        · have hT := sizeAll_take sizeMessage a k x HX.out
          have hsp := szR_spec R.out hq0
          have := HQ.out
          have hrq : r = q - sizeMessage x := by omega
          go_roundg (a.length - (k + 1))
          case measure => omega
          case rel => exact ⟨k + 1, r, by omega, by omega, rfl, by go_num, by omega, by omega, hide (by rw [hT]; omega), H1⟩
      · have : k = a.length := by omega
        subst this
        go_wp2
        go_ret
        have := HQ.out
        rw [List.take_length] at this
        exact ⟨⟨_, rfl, by unfold szR; rw [if_pos (by omega)]; omega⟩, HW.out⟩
  · have hr := hide (show -1 = szR left (a.length + sizeAll sizeMessage a) from (if_neg (by omega)).symm)
    have h2 : (left - (a.length : Int) < 0) := by omega
    go_enter Tryz.func28, Tryz.ntmps28
    go_wp2
    go_ret
    exact ⟨⟨_, rfl, hr.out⟩, Below.refl _ _⟩
def cntMessage (x : Message) : Nat := 7 + x.likes.length
def mkMessage (k : Int) (x : Message) : Message := { number := (k), sender := (k + 1), at_ := (k + 1 + 1), text := markT (k + 1 + 1 + 1), edits := (k + 1 + 1 + 1 + 1), gone := ((k + 1 + 1 + 1 + 1 + 1) % 3 == 0), reply := (k + 1 + 1 + 1 + 1 + 1 + 1), likes := marks (k + 1 + 1 + 1 + 1 + 1 + 1 + 1) x.likes.length }
theorem cntMessage_mk (k : Int) (x : Message) : cntMessage (mkMessage k x) = cntMessage x := by simp [cntMessage, mkMessage, marks_len, marks_len]
theorem mkMessage_mk (k : Int) (x : Message) : mkMessage k (mkMessage k x) = mkMessage k x := by simp [mkMessage, marks_len, marks_len]
def heldMessageB (k : Int) (x : Message) : Bool := !(x.number != k) && !(x.sender != k + 1) && !(x.at_ != k + 1 + 1) && !(!(x.text.toList == (markT (k + 1 + 1 + 1)).toList)) && !(x.edits != k + 1 + 1 + 1 + 1) && !(!(x.gone == ((k + 1 + 1 + 1 + 1 + 1) % 3 == 0))) && !(x.reply != k + 1 + 1 + 1 + 1 + 1 + 1) && !(decide (heldI (k + 1 + 1 + 1 + 1 + 1 + 1 + 1) x.likes < 0))
theorem heldMessageB_iff {k : Int} (h : 0 ≤ k) (x : Message) : heldMessageB k x = true ↔ x = mkMessage k x := by
  cases x
  simp only [heldMessageB, mkMessage, Message.mk.injEq, bytes_eq, Bool.and_eq_true, Bool.not_eq_true', bne_eq_false_iff_eq, Bool.not_eq_false', beq_iff_eq, decide_eq_false_iff_not, and_assoc]
  rw [heldI_nn (by omega)]
  simp only [Decidable.not_not]
set_option maxHeartbeats 4000000 in
set_option maxRecDepth 100000 in
theorem markMessageS_c (v : Value) (xs : List Message) (F : List Nat) (k : Int) (w : World) (h : SliceM messageD 82 w v xs F) (hn : F.Nodup) (h0 : 0 ≤ k) (h1 : k + cntAll cntMessage xs ≤ 1000000000000) :
    Calls Tryz.prog 42 #[v, .int .i64 k] w (RetMarkA messageD 82 cntMessage mkMessage w v xs F k) := by
  rcases h.row with ⟨rfl, rfl, rfl⟩ | ⟨B, cap, cur, css, Fs, rfl, hrow, rfl⟩
  · go_enter Tryz.func42, Tryz.ntmps42
    go_wp2
    go_loopg [1, 5] 0 (fun gg s1 s5 wr => s1 = .int .i64 k ∧ s5 = .int .i64 0 ∧ w = wr)
    case atStart => exact ⟨rfl, rfl, rfl⟩
    case round =>
      obtain ⟨rfl, rfl, rfl⟩ := hrel
      go_wp2
      go_ret
      exact ⟨by simp [cntAll], .inl ⟨rfl, rfl, rfl⟩, Chg.refl _ _⟩
  · have H0 := hide (show ∃ cur css, Row messageD 82 w B cap cur css Fs (mixed cntMessage mkMessage k xs 0) from ⟨cur, css, by rw [mixed_zero]; exact hrow⟩)
    have HN := hide hn
    have hlen := hrow.le
    have hmax := hrow.max
    clear h hrow hn
    go_enter Tryz.func42, Tryz.ntmps42
    go_wp2
    go_loopg [1, 5] xs.length (fun gg s1 s5 wr => ∃ (i : Nat) (q : Int), i ≤ xs.length ∧ xs.length - i ≤ gg ∧ s1 = .int .i64 q ∧ s5 = .int .i64 i ∧ 0 ≤ q ∧ Hid (q = k + cntAll cntMessage (xs.take i)) ∧
      Hid (∃ cur css, Row messageD 82 wr B cap cur css Fs (mixed cntMessage mkMessage k xs i)) ∧ Hid (Chg (B :: Fs.flatten) w wr))
    case atStart => exact ⟨0, k, Nat.zero_le _, by omega, rfl, rfl, h0, hide (by simp [cntAll]), H0, Chg.refl _ _⟩
    case round =>
      obtain ⟨i, q, hi, hg, rfl, rfl, hq0, HQ, HR, HW⟩ := hrel
      clear H0
      by_cases hlt : i < xs.length
      · obtain ⟨x, hx⟩ : ∃ x, xs[i]? = some x := ⟨_, List.getElem?_eq_getElem hlt⟩
        obtain ⟨cur, css, hrow⟩ := HR.out
        obtain ⟨cs, G, hE⟩ := RowE.ofRow hrow (mixed_get (cnt := cntMessage) (mk := mkMessage) k xs i hx)
        have hcT := cntAll_take (cnt := cntMessage) xs i x hx
        have hcL := cntAll_le (cnt := cntMessage) xs (i + 1)
        have hq1 : q + cntMessage x ≤ 1000000000000 := by have := HQ.out; omega
        have hq2 : q + (7 + x.likes.length : Nat) ≤ 1000000000000 := hq1
        have HT := hide hcT
        have HX := hide hx
        have hlB := hE.blt
        have hfz := hE.frozen
        have hcell := hE.cell
        obtain ⟨v7, G7, rfl, hGe, g7⟩ := message_M hE.M
        have hc0 : wr.cell? ⟨B, i * 8, none⟩ = some (.int .i64 x.number) := hcell 0 _ rfl
        have hc1 : wr.cell? ⟨B, i * 8 + 1, none⟩ = some (.int .i64 x.sender) := hcell 1 _ rfl
        have hc2 : wr.cell? ⟨B, i * 8 + 2, none⟩ = some (.int .i64 x.at_) := hcell 2 _ rfl
        have hc3 : wr.cell? ⟨B, i * 8 + 3, none⟩ = some (.string x.text) := hcell 3 _ rfl
        have hc4 : wr.cell? ⟨B, i * 8 + 4, none⟩ = some (.int .i64 x.edits) := hcell 4 _ rfl
        have hc5 : wr.cell? ⟨B, i * 8 + 5, none⟩ = some (.bool x.gone) := hcell 5 _ rfl
        have hc6 : wr.cell? ⟨B, i * 8 + 6, none⟩ = some (.int .i64 x.reply) := hcell 6 _ rfl
        have hc7 : wr.cell? ⟨B, i * 8 + 7, none⟩ = some (v7) := hcell 7 _ rfl
        have E0 := hide hE
        clear HR hcell hcT hcL hx hrow hE hq1 hGe g7
        have E1 := hide (E0.out.put HN.out 0 (.int .i64 (q)) ({ x with number := (q) }) (by decide) (fun hm => by obtain ⟨t7, J7, hl, hF, j7⟩ := message_M hm; simp at hl; obtain rfl := hl; rw [hF]; exact message_M_mk (x := { x with number := (q) }) j7))
        have E2 := hide (E1.out.put HN.out 1 (.int .i64 (q + 1)) ({ x with number := (q), sender := (q + 1) }) (by decide) (fun hm => by obtain ⟨t7, J7, hl, hF, j7⟩ := message_M hm; simp at hl; obtain rfl := hl; rw [hF]; exact message_M_mk (x := { x with number := (q), sender := (q + 1) }) j7))
        have E3 := hide (E2.out.put HN.out 2 (.int .i64 (q + 1 + 1)) ({ x with number := (q), sender := (q + 1), at_ := (q + 1 + 1) }) (by decide) (fun hm => by obtain ⟨t7, J7, hl, hF, j7⟩ := message_M hm; simp at hl; obtain rfl := hl; rw [hF]; exact message_M_mk (x := { x with number := (q), sender := (q + 1), at_ := (q + 1 + 1) }) j7))
        go_wp2_with fail
        refine (markText_c _ _ (by omega) (by omega)).mono ?_
        rintro e w1 ⟨rfl, hb⟩
        have hss := hb.size
        (try simp only [World.size_setCell] at hss)
        have hlB1 : B < w1.heap.size := by omega
        have hle1 : wr.heap.size ≤ w1.heap.size := by omega
        have E4 := hide (E3.out.below hb)
        have hfz1 := E4.out.frozen
        have hcell := E4.out.cell
        have hcc1_0 : w1.cell? ⟨B, i * 8, none⟩ = some _ := hcell 0 _ rfl
        have hcc1_1 : w1.cell? ⟨B, i * 8 + 1, none⟩ = some _ := hcell 1 _ rfl
        have hcc1_2 : w1.cell? ⟨B, i * 8 + 2, none⟩ = some _ := hcell 2 _ rfl
        have hcc1_3 : w1.cell? ⟨B, i * 8 + 3, none⟩ = some _ := hcell 3 _ rfl
        have hcc1_4 : w1.cell? ⟨B, i * 8 + 4, none⟩ = some _ := hcell 4 _ rfl
        have hcc1_5 : w1.cell? ⟨B, i * 8 + 5, none⟩ = some _ := hcell 5 _ rfl
        have hcc1_6 : w1.cell? ⟨B, i * 8 + 6, none⟩ = some _ := hcell 6 _ rfl
        have hcc1_7 : w1.cell? ⟨B, i * 8 + 7, none⟩ = some _ := hcell 7 _ rfl
        have HS1 := hide hb
        clear hb hss hcell
        have E5 := hide (E4.out.put HN.out 3 (.string (markT (q + 1 + 1 + 1))) ({ x with number := (q), sender := (q + 1), at_ := (q + 1 + 1), text := markT (q + 1 + 1 + 1) }) (by decide) (fun hm => by obtain ⟨t7, J7, hl, hF, j7⟩ := message_M hm; simp at hl; obtain rfl := hl; rw [hF]; exact message_M_mk (x := { x with number := (q), sender := (q + 1), at_ := (q + 1 + 1), text := markT (q + 1 + 1 + 1) }) j7))
        have E6 := hide (E5.out.put HN.out 4 (.int .i64 (q + 1 + 1 + 1 + 1)) ({ x with number := (q), sender := (q + 1), at_ := (q + 1 + 1), text := markT (q + 1 + 1 + 1), edits := (q + 1 + 1 + 1 + 1) }) (by decide) (fun hm => by obtain ⟨t7, J7, hl, hF, j7⟩ := message_M hm; simp at hl; obtain rfl := hl; rw [hF]; exact message_M_mk (x := { x with number := (q), sender := (q + 1), at_ := (q + 1 + 1), text := markT (q + 1 + 1 + 1), edits := (q + 1 + 1 + 1 + 1) }) j7))
        have E7 := hide (E6.out.put HN.out 5 (.bool ((q + 1 + 1 + 1 + 1 + 1) % 3 == 0)) ({ x with number := (q), sender := (q + 1), at_ := (q + 1 + 1), text := markT (q + 1 + 1 + 1), edits := (q + 1 + 1 + 1 + 1), gone := ((q + 1 + 1 + 1 + 1 + 1) % 3 == 0) }) (by decide) (fun hm => by obtain ⟨t7, J7, hl, hF, j7⟩ := message_M hm; simp at hl; obtain rfl := hl; rw [hF]; exact message_M_mk (x := { x with number := (q), sender := (q + 1), at_ := (q + 1 + 1), text := markT (q + 1 + 1 + 1), edits := (q + 1 + 1 + 1 + 1), gone := ((q + 1 + 1 + 1 + 1 + 1) % 3 == 0) }) j7))
        have E8 := hide (E7.out.put HN.out 6 (.int .i64 (q + 1 + 1 + 1 + 1 + 1 + 1)) ({ x with number := (q), sender := (q + 1), at_ := (q + 1 + 1), text := markT (q + 1 + 1 + 1), edits := (q + 1 + 1 + 1 + 1), gone := ((q + 1 + 1 + 1 + 1 + 1) % 3 == 0), reply := (q + 1 + 1 + 1 + 1 + 1 + 1) }) (by decide) (fun hm => by obtain ⟨t7, J7, hl, hF, j7⟩ := message_M hm; simp at hl; obtain rfl := hl; rw [hF]; exact message_M_mk (x := { x with number := (q), sender := (q + 1), at_ := (q + 1 + 1), text := markT (q + 1 + 1 + 1), edits := (q + 1 + 1 + 1 + 1), gone := ((q + 1 + 1 + 1 + 1 + 1) % 3 == 0), reply := (q + 1 + 1 + 1 + 1 + 1 + 1) }) j7))
        go_wp2_with fail
        obtain ⟨t7, G7', hl, hGe, g7⟩ := message_M E8.out.M
        simp at hl
        obtain rfl := hl
        have hGn := (E8.out.nodup HN.out).1
        rw [hGe] at hGn
        refine (markInt64S_c _ x.likes _ _ _ g7 (by omega) (by omega)).mono ?_
        rintro e w2 ⟨rfl, hMk, hCk⟩
        have HCk := hide hCk
        rw [← hGe] at hCk
        have E9 := hide (E8.out.inner HN.out ({ x with number := (q), sender := (q + 1), at_ := (q + 1 + 1), text := markT (q + 1 + 1 + 1), edits := (q + 1 + 1 + 1 + 1), gone := ((q + 1 + 1 + 1 + 1 + 1) % 3 == 0), reply := (q + 1 + 1 + 1 + 1 + 1 + 1), likes := marks (q + 1 + 1 + 1 + 1 + 1 + 1 + 1) x.likes.length }) hCk (by rw [hGe]; exact message_M_mk (x := { x with number := (q), sender := (q + 1), at_ := (q + 1 + 1), text := markT (q + 1 + 1 + 1), edits := (q + 1 + 1 + 1 + 1), gone := ((q + 1 + 1 + 1 + 1 + 1) % 3 == 0), reply := (q + 1 + 1 + 1 + 1 + 1 + 1), likes := marks (q + 1 + 1 + 1 + 1 + 1 + 1 + 1) x.likes.length }) hMk))
        have HCg := hide hCk
        clear hMk hCk g7 hGn hGe HCk
        go_wp2_with fail
        obtain ⟨cur', css', hrow'⟩ := E9.out.row
        simp only [List.set_set] at hrow'
        have hmk : { x with number := (q), sender := (q + 1), at_ := (q + 1 + 1), text := markT (q + 1 + 1 + 1), edits := (q + 1 + 1 + 1 + 1), gone := ((q + 1 + 1 + 1 + 1 + 1) % 3 == 0), reply := (q + 1 + 1 + 1 + 1 + 1 + 1), likes := marks (q + 1 + 1 + 1 + 1 + 1 + 1 + 1) x.likes.length } = mkMessage q x := rfl
        have hmx : (mixed cntMessage mkMessage k xs i).set i (mkMessage q x) = mixed cntMessage mkMessage k xs (i + 1) := by rw [HQ.out]; exact mixed_set k xs i HX.out
        rw [hmk, hmx] at hrow'
        go_roundg (xs.length - (i + 1))
        case measure => omega
        case rel =>
          refine ⟨i + 1, q + 1 + 1 + 1 + 1 + 1 + 1 + 1 + x.likes.length, by omega, by omega, rfl, by go_num, by omega, hide (by have h1 := HQ.out; have h2 := HT.out; have h3 : cntMessage x = 7 + x.likes.length := rfl; rw [h2]; omega), hide ⟨cur', css', hrow'⟩, hide ?_⟩
          exact ((((((((((((((((((HW.out).setCell (.inl (by simp)) _)).setCell (.inl (by simp)) _)).setCell (.inl (by simp)) _)).then HS1.out)).setCell (.inl (by simp)) _)).setCell (.inl (by simp)) _)).setCell (.inl (by simp)) _)).setCell (.inl (by simp)) _)).trans (HCg.out.mono (fun b hb => .inl (List.mem_cons_of_mem _ (E9.out.sub b hb)))))
      · have : i = xs.length := by omega
        subst this
        go_wp2
        go_ret
        obtain ⟨cur, css, hrow⟩ := HR.out
        rw [mixed_all] at hrow
        have hq := HQ.out
        rw [List.take_length] at hq
        refine ⟨by rw [← hq]; rfl, ?_, HW.out⟩
        have hS := hrow.M
        rwa [markAll_len] at hS
set_option maxHeartbeats 4000000 in
set_option maxRecDepth 100000 in
theorem heldMessageS_c (v : Value) (xs : List Message) (k : Int) (w : World) (h : SliceK messageD w v xs) (h0 : 0 ≤ k) (h1 : k + cntAll cntMessage xs ≤ 1000000000000) :
    Calls Tryz.prog 44 #[v, .int .i64 k] w fun e w' => e = .returned (.int .i64 (heldAll cntMessage mkMessage k xs)) ∧ Below w.heap.size w w' := by
  obtain ⟨A, c, rfl, hl, hm, hra⟩ := h
  have HA := hide hra
  clear hra
  go_enter Tryz.func44, Tryz.ntmps44
  go_wp2
  go_loopg [1, 5] xs.length (fun gg s1 s5 wr => ∃ (i : Nat) (q : Int), i ≤ xs.length ∧ xs.length - i ≤ gg ∧ s1 = .int .i64 q ∧ s5 = .int .i64 i ∧ 0 ≤ q ∧ Hid (q = k + cntAll cntMessage (xs.take i)) ∧ Hid (xs.take i = (markAll cntMessage mkMessage k xs).take i) ∧ Hid (Below w.heap.size w wr))
  case atStart => exact ⟨0, k, Nat.zero_le _, by omega, rfl, rfl, h0, hide (by simp [cntAll]), rfl, Below.refl _ _⟩
  case round =>
    obtain ⟨i, q, hi, hg, rfl, rfl, hq0, HQ, HT, HB⟩ := hrel
    by_cases hlt : i < xs.length
    · obtain ⟨x, hx⟩ : ∃ x, xs[i]? = some x := ⟨_, List.getElem?_eq_getElem hlt⟩
      rcases HA.out with rfl | ⟨p, o, rfl, hra⟩
      · simp at hlt
      obtain ⟨v7, h7, p, hc0, hc1, hc2, hc3, hc4, hc5, hc6, hc7⟩ := message_at hra HB.out hx
      have hcT := cntAll_take (cnt := cntMessage) xs i x hx
      have hcL := cntAll_le (cnt := cntMessage) xs (i + 1)
      have hq1 : q + cntMessage x ≤ 1000000000000 := by have := HQ.out; omega
      have hq2 : q + (7 + x.likes.length : Nat) ≤ 1000000000000 := hq1
      have HcT := hide hcT
      have HX := hide hx
      have H7 := hide h7
      clear hx hra HA hcT hcL hq1 h7
      go_wp2_with fail
      all_goals try (
         have hB : heldMessageB q x = false := by simp only [heldMessageB, decide_true, decide_false, Bool.not_true, Bool.not_false, Bool.and_false, Bool.false_and, Bool.and_true, Bool.true_and, *]
         have hE : ¬ x = mkMessage q x := fun e => by rw [(heldMessageB_iff hq0 x).2 e] at hB; cases hB
         rw [HQ.out] at hE
         go_ret
         exact ⟨by rw [heldAll_neg HX.out hE]; rfl, HB.out⟩)
      go_region_with (go_at_call 43; refine (markText_c _ _ (by omega) (by omega)).mono ?_; rintro e w1 ⟨rfl, hb1⟩; have HN := hide (HB.out.drew.trans (hb1.mono (by simpa using HB.out.size))); have g3 := cell_below hb1 (show wr.drew.cell? _ = _ from hc3); have g4 := cell_below hb1 (show wr.drew.cell? _ = _ from hc4); have g5 := cell_below hb1 (show wr.drew.cell? _ = _ from hc5); have g6 := cell_below hb1 (show wr.drew.cell? _ = _ from hc6); have g7 := cell_below hb1 (show wr.drew.cell? _ = _ from hc7); have bw := hide hb1; clear hb1 HB; have HB := HN; clear HN)
      all_goals go_wp2_with (first | (go_at_call 66; refine (heldInt64S_c _ x.likes _ _ ((H7.out.below ((Below.refl _ _).drew)).below bw.out) (by omega) (by omega)).mono ?_; rintro e w1 ⟨rfl, hb1⟩; have HN := hide (HB.out.trans (hb1.mono HB.out.size)); clear hb1 HB; have HB := HN; clear HN))
      all_goals first
      | (
         go_roundg (xs.length - (i + 1))
         case measure => omega
         case rel =>
           have hnl := Int.not_lt.mpr (show 0 ≤ heldI (q + 1 + 1 + 1 + 1 + 1 + 1 + 1) x.likes by assumption)
           have hB : heldMessageB q x = true := by simp only [heldMessageB, decide_true, decide_false, Bool.not_true, Bool.not_false, Bool.and_false, Bool.false_and, Bool.and_true, Bool.true_and, *]
           have hE := (heldMessageB_iff hq0 x).1 hB
           have hQ := HQ.out
           exact ⟨i + 1, q + cntMessage x, by omega, by omega, (int_congr (by have hsp := heldI_spec (show heldI (q + 1 + 1 + 1 + 1 + 1 + 1 + 1) x.likes = heldI (q + 1 + 1 + 1 + 1 + 1 + 1 + 1) x.likes from rfl) (by omega); have hx3 : 0 ≤ heldI (q + 1 + 1 + 1 + 1 + 1 + 1 + 1) x.likes := (by assumption); unfold cntMessage; rcases hsp with ⟨hsp, _⟩ | ⟨hsp, _⟩ <;> omega)), by go_num, by omega, hide (by rw [HcT.out, hQ]; omega), hide (by rw [List.take_add_one, List.take_add_one, HX.out, HT.out, markAll_get _ _ _ _ HX.out, ← hQ, ← hE]), HB⟩)
      | (
         have hB : heldMessageB q x = false := by simp only [heldMessageB, decide_true, decide_false, Bool.not_true, Bool.not_false, Bool.and_false, Bool.false_and, Bool.and_true, Bool.true_and, *]
         have hE : ¬ x = mkMessage q x := fun e => by rw [(heldMessageB_iff hq0 x).2 e] at hB; cases hB
         rw [HQ.out] at hE
         go_ret
         exact ⟨by rw [heldAll_neg HX.out hE]; rfl, HB.out⟩)
    · have : i = xs.length := by omega
      subst this
      go_wp2
      go_ret
      have hq := HQ.out
      rw [List.take_length] at hq
      exact ⟨by rw [heldAll_pos HT.out, ← hq]; rfl, HB.out⟩
/-! ### Log -/
def sizeLog (x : Log) : Nat := (x.messages.length + sizeAll sizeMessage x.messages)
/-- Its strings are no longer than a machine holds. -/
def okLog (x : Log) : Prop := (∀ y ∈ x.messages, okMessage y)
def fewLog (x : Log) : Prop := x.messages.length ≤ 1048576 ∧ (∀ y ∈ x.messages, fewMessage y)
def eqLogB (a b : Log) : Bool := !(a.next != b.next) && !(!(decide (a.messages = b.messages)))
theorem eqLogB_iff (a b : Log) : eqLogB a b = true ↔ a = b := by
  cases a; cases b
  simp [eqLogB, bytes_eq, and_assoc]
theorem eqLogB_eq (a b : Log) : eqLogB a b = decide (a = b) := by
  rw [Bool.eq_iff_iff, eqLogB_iff, decide_eq_true_iff]
set_option maxHeartbeats 2000000 in
theorem eqLog_c (x y : Log) (v1 u1 : Value) (w : World) (h1 : SliceK messageD w v1 x.messages) (g1 : SliceK messageD w u1 y.messages) :
    Calls Tryz.prog 22 #[.agg #[.int .i64 x.next, v1], .agg #[.int .i64 y.next, u1]] w fun e w' => e = .returned (.bool (eqLogB x y)) ∧ Below w.heap.size w w' := by
  have H1 := hide h1
  have G1 := hide g1
  clear h1 g1
  have HB := hide (((Below.refl w.heap.size w).alloc (Nat.le_refl _) (.cells #[.int .i64 x.next, v1] 31)).alloc (by simp) (.cells #[.int .i64 y.next, u1] 31))
  go_enter Tryz.func22, Tryz.ntmps22
  go_wp2_with (first | (go_at_call 40; ((with_reducible refine (eqMessageS_c _ _ _ _ _ (H1.out.below HB.out) (G1.out.below HB.out)).mono ?_); rintro e w1 ⟨rfl, hb1⟩; have HN := hide (HB.out.trans (hb1.mono HB.out.size)); obtain ⟨hc, hf, hs⟩ := bcell hb1; have hz : w.heap.size + 1 < w1.heap.size := (by ((try simp only [World.size_alloc] at hs); omega)); have hy : w.heap.size < w1.heap.size := (by omega); clear hs hb1 HB; have HB := HN; clear HN)))
  all_goals
    go_ret
    refine ⟨?_, HB.out⟩
    first
    | (rw [show eqLogB x y = false from by simp only [eqLogB, decide_true, decide_false, Bool.not_true, Bool.not_false, Bool.and_false, Bool.false_and, Bool.and_true, Bool.true_and, *]]; rfl)
    | (rw [show eqLogB x y = true from by simp only [eqLogB, decide_true, decide_false, Bool.not_true, Bool.not_false, Bool.and_false, Bool.false_and, Bool.and_true, Bool.true_and, *]]; rfl)
set_option maxHeartbeats 2000000 in
theorem toLog_c (x : Log) (v1 : Value) (w : World) (h1 : SliceK messageD w v1 x.messages) (hw : fewLog x) :
    Calls Tryz.prog 16 #[.agg #[.int .i64 x.next, v1]] w (RetElem logD w x) := by
  unfold fewLog at hw
  obtain ⟨n1, k1⟩ := hw
  have W1 := hide k1
  clear k1
  have H1 := hide h1
  clear h1
  go_enter Tryz.func16, Tryz.ntmps16
  go_wp2_with fail
  refine (toMessageS_c _ x.messages _ (H1.out.below ?hb0) n1 W1.out).mono ?_
  case hb0 => exact ((((Below.refl _ _).alloc (Nat.le_refl _) _).alloc (by simp) _).alloc (by simp; omega) _)
  rintro e w1 ⟨v, rfl, hM, hb1⟩
  obtain ⟨A1, c1, rfl⟩ := hM.shape
  have HM0 := hide hM
  have HS0 := hide hb1
  have HB0 := hide (((((Below.refl _ _).alloc (Nat.le_refl _) _).alloc (by simp) _).alloc (by simp; omega) _).trans (hb1.mono (by simp; omega)) : Below w.heap.size w w1)
  obtain ⟨hc0, hf0, hs0⟩ := bcell hb1
  simp only [World.size_alloc, World.size_setCell] at hs0
  have hz0 : w.heap.size + 1 + 1 < w1.heap.size := by omega
  have hy0 : w.heap.size < w1.heap.size := by omega
  have hle0 : w.heap.size ≤ w1.heap.size := by omega
  have hx0 : w.heap.size + 1 < w1.heap.size := by omega
  clear hM hb1 hs0
  go_wp2_with fail
  have HZ : Hid (∀ wz, Chg [w.heap.size + 1, w.heap.size + 1 + 1] w1 wz → RetElem logD w x (.returned (.agg #[.int .i64 x.next, .slice A1 x.messages.length c1])) wz) := by
    intro wz hch
    have c0_ : Chg [w.heap.size + 1, w.heap.size + 1 + 1] w1 wz := hch
    obtain ⟨F1, hm1, hn1, hF1⟩ := HM0.out
    have hl1 := hm1.lt
    have m1 := hm1.move fun b hb => c0_.block b (hl1 b hb) (by intro hg; have := hF1 b hb; simp at this hg; omega)
    refine ⟨_, F1, rfl, log_M_mk m1, hn1, ?_, ?_⟩
    · intro b hb; have := hF1 b hb; simp at this; omega
    · exact HB0.out.trans (hch.below (by omega) (by intro k hk; simp at hk; omega))
  refine bodyPost_ret (v := .agg #[.int .i64 x.next, .slice A1 x.messages.length c1]) (by simp [results, Tryz.results16, go_sem, hc0, hz0, hy0, hx0]) rfl (HZ.out _ ?_)
  repeat (with_reducible refine Chg.setCell ?_ (.inl (by simp)) _)
  exact Chg.refl _ _
set_option maxHeartbeats 2000000 in
theorem szLog_c (x : Log) (v1 : Value) (left : Int) (w : World) (h1 : SliceK messageD w v1 x.messages) (b0 : 0 ≤ left) (b1 : left ≤ 1048576) (hok : okLog x) :
    Calls Tryz.prog 11 #[.agg #[.int .i64 x.next, v1], .int .i64 left] w fun e w' => RetSz left (sizeLog x) e ∧ Below w.heap.size w w' := by
  have H1 := hide h1
  clear h1
  have HK := hide hok
  unfold okLog at hok
  have ho1 := hok
  have O1 := hide ho1
  clear ho1
  clear hok
  have HB := hide ((Below.refl w.heap.size w).alloc (Nat.le_refl _) (.cells #[.int .i64 x.next, v1] 24))
  go_enter Tryz.func11, Tryz.ntmps11
  go_wp2_with (first | (go_at_call 28; ((with_reducible refine (szMessageS_c _ x.messages _ _ (H1.out.below HB.out) (by omega) (by omega) O1.out).mono ?_); rintro e w1 ⟨⟨r1, rfl, hr1⟩, hb1⟩; have hd1 := szR_bd hr1 (by omega); have R1 := hide hr1; have HN := hide (HB.out.trans (hb1.mono HB.out.size)); obtain ⟨hc, hf, hs⟩ := bcell hb1; have hy : w.heap.size < w1.heap.size := (by ((try simp only [World.size_alloc] at hs); omega)); clear hs hb1 HB hr1; have HB := HN; clear HN)))
  all_goals
    go_ret
    refine ⟨⟨_, rfl, ?_⟩, HB.out⟩
    try have e1 := szR_spec R1.out (by omega)
    unfold szR sizeLog
    split <;> omega
def tcntLog (x : Log) : Nat := cntAll cntMessage x.messages
def tmkLog (k : Int) (x : Log) : Log := { x with messages := markAll cntMessage mkMessage (k) x.messages }
theorem tcntLog_mk (k : Int) (x : Log) : tcntLog (tmkLog k x) = tcntLog x := by simp [tcntLog, tmkLog, marks_len, cntAll_mark cntMessage_mk, markAll_mark cntMessage_mk mkMessage_mk, marks_len]
theorem tmkLog_mk (k : Int) (x : Log) : tmkLog k (tmkLog k x) = tmkLog k x := by simp [tmkLog, marks_len, cntAll_mark cntMessage_mk, markAll_mark cntMessage_mk mkMessage_mk, marks_len]
def theldLog (k : Int) (x : Log) : Int := if x = tmkLog k x then k + tcntLog x else -1
theorem theldLog_nn {k : Int} (h : 0 ≤ k) (x : Log) : theldLog k x < 0 ↔ ¬ x = tmkLog k x := by
  unfold theldLog; split
  · rename_i h1; constructor
    · intro h2; omega
    · intro h2; exact absurd h1 h2
  · rename_i h1; exact ⟨fun _ => h1, fun _ => by omega⟩
theorem theldLog_mk (k : Int) (x : Log) : theldLog k (tmkLog k x) = k + tcntLog x := by
  unfold theldLog
  rw [if_pos (tmkLog_mk k x).symm, tcntLog_mk]
set_option maxHeartbeats 4000000 in
theorem markLog_c (x : Log) (cs : List Value) (F : List Nat) (k : Int) (w : World) (h : logD.M w x cs F) (hn : F.Nodup) (h0 : 0 ≤ k) (h1 : k + tcntLog x ≤ 1000000000000) :
    Calls Tryz.prog 24 #[.agg cs.toArray, .int .i64 k] w (RetMarkT logD w (tcntLog x) (tmkLog k x) cs F k) := by
  unfold tcntLog at h1
  obtain ⟨v1, F1, rfl, rfl, g1⟩ := log_M h
  have hnn := hn
  have HN := hide hn
  have HNN := hide hnn
  clear h hn hnn
  have M1 := hide g1
  clear g1
  have HC := hide ((Chg.refl (F) w).alloc (.cells #[.int .i64 x.next, v1] 31))
  have HB := hide (Below.refl w.heap.size w |>.alloc (Nat.le_refl _) (.cells #[.int .i64 x.next, v1] 31))
  have M1 := hide (M1.out.move (fun b hb => HB.out.block b (M1.out.lt b hb)))
  go_enter Tryz.func24, Tryz.ntmps24
  go_wp2_with fail
  refine (markMessageS_c _ x.messages _ _ _ M1.out HN.out (by omega) (by omega)).mono ?_
  rintro e w1 ⟨rfl, hMk, hCk⟩
  have HK1 := hide hCk
  have HC := hide (HC.out.trans (hCk.mono (fun b hb => .inl (by simp [hb]))))
  have N1 := hide hMk
  clear hMk hCk
  go_wp2_with fail
  go_ret
  refine ⟨?_, log_M_mk (x := tmkLog k x) N1.out, HC.out⟩
  simp only [tcntLog]
  exact ret_int (by first | rfl | omega)
theorem tmkLog_iff (k : Int) (x : Log) : x = tmkLog k x ↔ x.messages = markAll cntMessage mkMessage (k) x.messages := by cases x; simp [tmkLog]
theorem theldLog_spec {k r : Int} {x : Log} (h : r = theldLog k x) (h0 : 0 ≤ k) : (r = k + tcntLog x ∧ x = tmkLog k x) ∨ (r = -1 ∧ ¬ x = tmkLog k x) := by
  subst h; unfold theldLog; split
  · rename_i h1; exact .inl ⟨rfl, h1⟩
  · rename_i h1; exact .inr ⟨rfl, h1⟩
set_option maxHeartbeats 4000000 in
theorem heldLog_c (x : Log) (v1 : Value) (k : Int) (w : World) (h1 : SliceK messageD w v1 x.messages) (b0 : 0 ≤ k) (b1 : k + tcntLog x ≤ 1000000000000) :
    Calls Tryz.prog 26 #[.agg #[.int .i64 x.next, v1], .int .i64 k] w fun e w' => e = .returned (.int .i64 (theldLog k x)) ∧ Below w.heap.size w w' := by
  unfold tcntLog at b1
  have H1 := hide h1
  clear h1
  have HB := hide ((Below.refl w.heap.size w).alloc (Nat.le_refl _) (.cells #[.int .i64 x.next, v1] 31))
  go_enter Tryz.func26, Tryz.ntmps26
  go_wp2_with (first | (go_at_call 44; ((with_reducible refine (heldMessageS_c _ x.messages _ _ (H1.out.below HB.out) (by omega) (by omega)).mono ?_); rintro e w1 ⟨rfl, hb1⟩; have HN := hide (HB.out.trans (hb1.mono HB.out.size)); obtain ⟨hc, hf, hs⟩ := bcell hb1; have hy : w.heap.size < w1.heap.size := (by ((try simp only [World.size_alloc] at hs); omega)); clear hs hb1 HB; have HB := HN; clear HN; obtain ⟨r0, hr0⟩ : ∃ r, r = heldAll cntMessage mkMessage (k) x.messages := ⟨_, rfl⟩; rw [← hr0]; have hd0 : -1 ≤ r0 ∧ r0 ≤ k + cntAll cntMessage x.messages := (by rcases heldAll_spec hr0 (by omega) with h | h <;> omega); have R0 := hide hr0; clear hr0)))
  · go_ret
    refine ⟨?_, HB.out⟩
    have s0 := heldAll_spec R0.out (by omega)
    have hne : ¬ x = tmkLog k x := fun hx => by
      have hx2 := (tmkLog_iff k x).1 hx
      rcases s0 with ⟨e0, m0⟩ | ⟨e0, m0⟩
      · omega
      · exact m0 hx2
    rw [show theldLog k x = -1 from if_neg hne]
    rfl
  · go_ret
    refine ⟨?_, HB.out⟩
    have s0 := heldAll_spec R0.out (by omega)
    rcases s0 with ⟨e0, m0⟩ | ⟨e0, _⟩
    case inr => omega
    have hx : x = tmkLog k x := (tmkLog_iff k x).2 m0
    rw [show theldLog k x = r0 from by unfold theldLog tcntLog; rw [if_pos hx]; omega]
    rfl
end Go.Proofs.YtodmongmaoeknaaGreat
namespace Go.Proofs.YtodmongmaoeknaaGreat
open Go Go.RowKit Go.ChangeShapes Go.WideShapes Go.Deep
set_option linter.unusedVariables false

theorem opens_message : Opens Tryz.prog messageD okMessage 80 := by
  intro H enc W held fuel cs y h
  obtain ⟨hl, hf⟩ := open_fields Tryz.underlying80 (by kernel_rfl) (by kernel_rfl) h
  obtain ⟨v0, n0, z0, c0, t0⟩ := hf 0 _ rfl
  obtain ⟨v1, n1, z1, c1, t1⟩ := hf 1 _ rfl
  obtain ⟨v2, n2, z2, c2, t2⟩ := hf 2 _ rfl
  obtain ⟨v3, n3, z3, c3, t3⟩ := hf 3 _ rfl
  obtain ⟨v4, n4, z4, c4, t4⟩ := hf 4 _ rfl
  obtain ⟨v5, n5, z5, c5, t5⟩ := hf 5 _ rfl
  obtain ⟨v6, n6, z6, c6, t6⟩ := hf 6 _ rfl
  obtain ⟨v7, n7, z7, c7, t7⟩ := hf 7 _ rfl
  obtain ⟨x0, hx0, -, -⟩ := DataW.trod_int Tryz.underlying2 t0
  obtain ⟨x1, hx1, -, -⟩ := DataW.trod_int Tryz.underlying2 t1
  obtain ⟨x2, hx2, -, -⟩ := DataW.trod_int Tryz.underlying2 t2
  obtain ⟨x3, hx3, -, hs3⟩ := DataW.trod_string Tryz.underlying9 t3
  obtain ⟨x4, hx4, -, -⟩ := DataW.trod_int Tryz.underlying2 t4
  obtain ⟨x5, hx5, -⟩ := DataW.trod_bool Tryz.underlying4 t5
  obtain ⟨x6, hx6, -, -⟩ := DataW.trod_int Tryz.underlying2 t6
  obtain ⟨x7, hx7, -⟩ := opens_slice Tryz.underlying78 (by kernel_rfl) (by decide) (opens_int Tryz.underlying2) H enc W held n7 v7 _ t7
  simp only [List.cons.injEq, and_true] at hx0 hx1 hx2 hx3 hx4 hx5 hx6
  subst hx0 hx1 hx2 hx3 hx4 hx5 hx6
  match cs, hl with
  | [_, _, _, _, _, _, _, _], _ =>
    simp at c0 c1 c2 c3 c4 c5 c6 c7
    subst c0 c1 c2 c3 c4 c5 c6 c7
    exact ⟨⟨x0, x1, x2, x3, x4, x5, x6, x7⟩, message_K_mk hx7, hs3⟩
set_option maxRecDepth 100000 in
theorem open_log {H : Type} {enc : TypeId × Value → H} {W : World} {held : Bool} {b0 : Nat} {v : Value} {d : DataW H} {ps : List MemPlace} (hv : Value.okWide Tryz.prog W .any b0 24 v)
    (h : DataW.Trod enc Tryz.prog W 0 (fun _ => true) held 24 v d ps) : ∃ (x : Log) (v1 : Value), v = .agg #[.int .i64 x.next, v1] ∧ SliceK messageD W v1 x.messages ∧ okLog x := by
  obtain ⟨cs, rfl, hsz⟩ := okWide_struct Tryz.underlying24 hv
  obtain ⟨fuel, h⟩ := h
  obtain ⟨hl, hf⟩ := open_fields Tryz.underlying24 (by kernel_rfl) (by kernel_rfl) h
  obtain ⟨v0, n0, z0, c0, t0⟩ := hf 0 _ rfl
  obtain ⟨v1, n1, z1, c1, t1⟩ := hf 1 _ rfl
  obtain ⟨x0, hx0, -, -⟩ := DataW.trod_int Tryz.underlying2 t0
  obtain ⟨x1, hx1, hk1⟩ := opens_slice Tryz.underlying22 (by kernel_rfl) (by decide) opens_message H enc W held n1 v1 _ t1
  simp only [List.cons.injEq, and_true] at hx0
  subst hx0
  obtain ⟨l⟩ := cs
  simp only [Value.cells] at c0 c1 hl
  match l, hl with
  | [_, _], _ =>
    simp at c0 c1
    subst c0 c1
    exact ⟨⟨x0, x1⟩, _, rfl, hx1, hk1⟩
end Go.Proofs.YtodmongmaoeknaaGreat
namespace Go.Proofs.YtodmongmaoeknaaGreat
open Go Go.RowKit
set_option linter.unusedVariables false
set_option linter.unusedSimpArgs false

/-! ### Event -/
structure Event where
  kind : Int
  number : Int
  member : Int
  at_ : Int
  text : ByteArray
  reply : Int
  deriving DecidableEq, Inhabited
def eventD : Dt Event := Dt.flat 6 (fun x : Event => [.int .i64 x.kind, .int .i64 x.number, .int .i64 x.member, .int .i64 x.at_, .string x.text, .int .i64 x.reply]) (fun _ => rfl) (fun x u hu => by simp at hu; rcases hu with rfl | rfl | rfl | rfl | rfl | rfl <;> rfl)
theorem event_at {w W : World} {b o j : Nat} {xs : List Event} {x : Event} (h : RowAt eventD w b o xs) (hb : Below w.heap.size w W) (hj : xs[j]? = some x) : b < W.heap.size ∧ W.cell? ⟨b, o + j * 6, none⟩ = some (.int .i64 x.kind) ∧ W.cell? ⟨b, o + j * 6 + 1, none⟩ = some (.int .i64 x.number) ∧ W.cell? ⟨b, o + j * 6 + 2, none⟩ = some (.int .i64 x.member) ∧ W.cell? ⟨b, o + j * 6 + 3, none⟩ = some (.int .i64 x.at_) ∧ W.cell? ⟨b, o + j * 6 + 4, none⟩ = some (.string x.text) ∧ W.cell? ⟨b, o + j * 6 + 5, none⟩ = some (.int .i64 x.reply) := by
  obtain ⟨cs, hk, hc⟩ := (h.below hb) j x hj
  obtain rfl : cs = [.int .i64 x.kind, .int .i64 x.number, .int .i64 x.member, .int .i64 x.at_, .string x.text, .int .i64 x.reply] := hk
  have hc : ∀ i u, ([.int .i64 x.kind, .int .i64 x.number, .int .i64 x.member, .int .i64 x.at_, .string x.text, .int .i64 x.reply] : List Value)[i]? = some u → W.cell? ⟨b, o + j * 6 + i, none⟩ = some u := hc
  exact ⟨World.block_lt_of_cell? W _ (hc 0 _ rfl), hc 0 _ rfl, hc 1 _ rfl, hc 2 _ rfl, hc 3 _ rfl, hc 4 _ rfl, hc 5 _ rfl⟩

/-! ### History -/
structure History where
  base : Log
  events : List Event
  deriving DecidableEq, Inhabited
def historyD : Dt History := Dt.cat (Dt.flat 1 (fun x : History => [.int .i64 x.base.next]) (fun _ => rfl) (fun x u hu => by simp at hu; subst hu; rfl)) (Dt.cat ((Dt.slice 82 messageD).iso (fun x : History => x.base.messages)) ((Dt.slice 55 eventD).iso (fun x : History => x.events)))
theorem history_K {w : World} {x : History} {cs : List Value} (h : historyD.K w x cs) : ∃ v1 v2, cs = [.int .i64 x.base.next, v1, v2] ∧ SliceK messageD w v1 x.base.messages ∧ SliceK eventD w v2 x.events := by
  obtain ⟨_, _, rfl, rfl, ⟨_, _, rfl, ⟨v1, rfl, h1⟩, ⟨v2, rfl, h2⟩⟩⟩ := h
  exact ⟨v1, v2, rfl, h1, h2⟩
theorem history_K_mk {w : World} {x : History} {v1 v2 : Value} (h1 : SliceK messageD w v1 x.base.messages) (h2 : SliceK eventD w v2 x.events) : historyD.K w x [.int .i64 x.base.next, v1, v2] := by
  exact ⟨_, _, rfl, rfl, ⟨_, _, rfl, ⟨v1, rfl, h1⟩, ⟨v2, rfl, h2⟩⟩⟩
theorem history_M {w : World} {x : History} {cs : List Value} {F : List Nat} (h : historyD.M w x cs F) : ∃ v1 v2 F1 F2, cs = [.int .i64 x.base.next, v1, v2] ∧ F = F1 ++ F2 ∧ SliceM messageD 82 w v1 x.base.messages F1 ∧ SliceM eventD 55 w v2 x.events F2 := by
  obtain ⟨_, _, _, _, rfl, rfl, ⟨rfl, rfl⟩, ⟨_, _, F1, F2, rfl, rfl, ⟨v1, rfl, h1⟩, ⟨v2, rfl, h2⟩⟩⟩ := h
  exact ⟨v1, v2, F1, F2, rfl, by simp, h1, h2⟩
theorem history_M_mk {w : World} {x : History} {v1 v2 : Value} {F1 F2 : List Nat} (h1 : SliceM messageD 82 w v1 x.base.messages F1) (h2 : SliceM eventD 55 w v2 x.events F2) : historyD.M w x [.int .i64 x.base.next, v1, v2] (F1 ++ F2) := by
  exact ⟨_, _, [], (F1 ++ F2), rfl, by simp, ⟨rfl, rfl⟩, ⟨_, _, F1, F2, rfl, by simp, ⟨v1, rfl, h1⟩, ⟨v2, rfl, h2⟩⟩⟩
theorem history_at {w W : World} {b o j : Nat} {xs : List History} {x : History} (h : RowAt historyD w b o xs) (hb : Below w.heap.size w W) (hj : xs[j]? = some x) : ∃ v1 v2, SliceK messageD W v1 x.base.messages ∧ SliceK eventD W v2 x.events ∧ b < W.heap.size ∧ W.cell? ⟨b, o + j * 3, none⟩ = some (.int .i64 x.base.next) ∧ W.cell? ⟨b, o + j * 3 + 1, none⟩ = some (v1) ∧ W.cell? ⟨b, o + j * 3 + 2, none⟩ = some (v2) := by
  obtain ⟨cs, hk, hc⟩ := (h.below hb) j x hj
  obtain ⟨v1, v2, rfl, h1, h2⟩ := history_K hk
  have hc : ∀ i u, ([.int .i64 x.base.next, v1, v2] : List Value)[i]? = some u → W.cell? ⟨b, o + j * 3 + i, none⟩ = some u := hc
  exact ⟨v1, v2, h1, h2, World.block_lt_of_cell? W _ (hc 0 _ rfl), hc 0 _ rfl, hc 1 _ rfl, hc 2 _ rfl⟩

/-! ### Sync -/
structure Sync where
  kind : Int
  events : List Event
  whole : Log
  deriving DecidableEq, Inhabited
def syncD : Dt Sync := Dt.cat (Dt.flat 1 (fun x : Sync => [.int .i64 x.kind]) (fun _ => rfl) (fun x u hu => by simp at hu; subst hu; rfl)) (Dt.cat ((Dt.slice 55 eventD).iso (fun x : Sync => x.events)) (Dt.cat (Dt.flat 1 (fun x : Sync => [.int .i64 x.whole.next]) (fun _ => rfl) (fun x u hu => by simp at hu; subst hu; rfl)) ((Dt.slice 82 messageD).iso (fun x : Sync => x.whole.messages))))
theorem sync_K {w : World} {x : Sync} {cs : List Value} (h : syncD.K w x cs) : ∃ v1 v3, cs = [.int .i64 x.kind, v1, .int .i64 x.whole.next, v3] ∧ SliceK eventD w v1 x.events ∧ SliceK messageD w v3 x.whole.messages := by
  obtain ⟨_, _, rfl, rfl, ⟨_, _, rfl, ⟨v1, rfl, h1⟩, ⟨_, _, rfl, rfl, ⟨v3, rfl, h3⟩⟩⟩⟩ := h
  exact ⟨v1, v3, rfl, h1, h3⟩
theorem sync_K_mk {w : World} {x : Sync} {v1 v3 : Value} (h1 : SliceK eventD w v1 x.events) (h3 : SliceK messageD w v3 x.whole.messages) : syncD.K w x [.int .i64 x.kind, v1, .int .i64 x.whole.next, v3] := by
  exact ⟨_, _, rfl, rfl, ⟨_, _, rfl, ⟨v1, rfl, h1⟩, ⟨_, _, rfl, rfl, ⟨v3, rfl, h3⟩⟩⟩⟩
theorem sync_M {w : World} {x : Sync} {cs : List Value} {F : List Nat} (h : syncD.M w x cs F) : ∃ v1 v3 F1 F3, cs = [.int .i64 x.kind, v1, .int .i64 x.whole.next, v3] ∧ F = F1 ++ F3 ∧ SliceM eventD 55 w v1 x.events F1 ∧ SliceM messageD 82 w v3 x.whole.messages F3 := by
  obtain ⟨_, _, _, _, rfl, rfl, ⟨rfl, rfl⟩, ⟨_, _, F1, _, rfl, rfl, ⟨v1, rfl, h1⟩, ⟨_, _, _, F3, rfl, rfl, ⟨rfl, rfl⟩, ⟨v3, rfl, h3⟩⟩⟩⟩ := h
  exact ⟨v1, v3, F1, F3, rfl, by simp, h1, h3⟩
theorem sync_M_mk {w : World} {x : Sync} {v1 v3 : Value} {F1 F3 : List Nat} (h1 : SliceM eventD 55 w v1 x.events F1) (h3 : SliceM messageD 82 w v3 x.whole.messages F3) : syncD.M w x [.int .i64 x.kind, v1, .int .i64 x.whole.next, v3] (F1 ++ F3) := by
  exact ⟨_, _, [], (F1 ++ F3), rfl, by simp, ⟨rfl, rfl⟩, ⟨_, _, F1, F3, rfl, by simp, ⟨v1, rfl, h1⟩, ⟨_, _, [], F3, rfl, by simp, ⟨rfl, rfl⟩, ⟨v3, rfl, h3⟩⟩⟩⟩
theorem sync_at {w W : World} {b o j : Nat} {xs : List Sync} {x : Sync} (h : RowAt syncD w b o xs) (hb : Below w.heap.size w W) (hj : xs[j]? = some x) : ∃ v1 v3, SliceK eventD W v1 x.events ∧ SliceK messageD W v3 x.whole.messages ∧ b < W.heap.size ∧ W.cell? ⟨b, o + j * 4, none⟩ = some (.int .i64 x.kind) ∧ W.cell? ⟨b, o + j * 4 + 1, none⟩ = some (v1) ∧ W.cell? ⟨b, o + j * 4 + 2, none⟩ = some (.int .i64 x.whole.next) ∧ W.cell? ⟨b, o + j * 4 + 3, none⟩ = some (v3) := by
  obtain ⟨cs, hk, hc⟩ := (h.below hb) j x hj
  obtain ⟨v1, v3, rfl, h1, h3⟩ := sync_K hk
  have hc : ∀ i u, ([.int .i64 x.kind, v1, .int .i64 x.whole.next, v3] : List Value)[i]? = some u → W.cell? ⟨b, o + j * 4 + i, none⟩ = some u := hc
  exact ⟨v1, v3, h1, h3, World.block_lt_of_cell? W _ (hc 0 _ rfl), hc 0 _ rfl, hc 1 _ rfl, hc 2 _ rfl, hc 3 _ rfl⟩
end Go.Proofs.YtodmongmaoeknaaGreat
namespace Go.Proofs.YtodmongmaoeknaaGreat
open Go Go.RowKit
set_option linter.unusedVariables false
set_option linter.unusedSimpArgs false

/-! ### Event -/
def sizeEvent (x : Event) : Nat := x.text.size
/-- Its strings are no longer than a machine holds. -/
def okEvent (x : Event) : Prop := x.text.size ≤ 9223372036854775807
def eqEventB (a b : Event) : Bool := !(a.kind != b.kind) && !(a.number != b.number) && !(a.member != b.member) && !(a.at_ != b.at_) && !(!(a.text.toList == b.text.toList)) && !(a.reply != b.reply)
theorem eqEventB_iff (a b : Event) : eqEventB a b = true ↔ a = b := by
  cases a; cases b
  simp [eqEventB, bytes_eq, and_assoc]
theorem eqEventB_eq (a b : Event) : eqEventB a b = decide (a = b) := by
  rw [Bool.eq_iff_iff, eqEventB_iff, decide_eq_true_iff]
set_option maxHeartbeats 2000000 in
theorem eqEvent_c (x y : Event) (w : World) :
    Calls Tryz.prog 41 #[.agg #[.int .i64 x.kind, .int .i64 x.number, .int .i64 x.member, .int .i64 x.at_, .string x.text, .int .i64 x.reply], .agg #[.int .i64 y.kind, .int .i64 y.number, .int .i64 y.member, .int .i64 y.at_, .string y.text, .int .i64 y.reply]] w fun e w' => e = .returned (.bool (eqEventB x y)) ∧ Below w.heap.size w w' := by
  have HB := hide (((Below.refl w.heap.size w).alloc (Nat.le_refl _) (.cells #[.int .i64 x.kind, .int .i64 x.number, .int .i64 x.member, .int .i64 x.at_, .string x.text, .int .i64 x.reply] 55)).alloc (by simp) (.cells #[.int .i64 y.kind, .int .i64 y.number, .int .i64 y.member, .int .i64 y.at_, .string y.text, .int .i64 y.reply] 55))
  go_enter Tryz.func41, Tryz.ntmps41
  go_wp2
  all_goals
    go_ret
    refine ⟨?_, HB.out⟩
    first
    | (rw [show eqEventB x y = false from by simp only [eqEventB, decide_true, decide_false, Bool.not_true, Bool.not_false, Bool.and_false, Bool.false_and, Bool.and_true, Bool.true_and, *]]; rfl)
    | (rw [show eqEventB x y = true from by simp only [eqEventB, decide_true, decide_false, Bool.not_true, Bool.not_false, Bool.and_false, Bool.false_and, Bool.and_true, Bool.true_and, *]]; rfl)
set_option maxHeartbeats 2000000 in
set_option maxRecDepth 100000 in
theorem eqEventS_c (va vb : Value) (a b : List Event) (w : World) (ha : SliceK eventD w va a) (hb : SliceK eventD w vb b) :
    Calls Tryz.prog 23 #[va, vb] w fun e w' => e = .returned (.bool (decide (a = b))) ∧ Below w.heap.size w w' := by
  obtain ⟨A, c, rfl, hl1, hm1, hra⟩ := ha
  obtain ⟨B, c', rfl, hl2, hm2, hrb⟩ := hb
  by_cases hlen : a.length = b.length
  · have hne : (((a.length : Nat) : Int) != ((b.length : Nat) : Int)) = false := by simp [hlen]
    have HL := hide hlen
    have HA := hide hra
    have HB := hide hrb
    clear hlen hra hrb
    go_enter Tryz.func23, Tryz.ntmps23
    go_wp2
    go_loopg [5] a.length (fun gg s5 wr => ∃ k : Nat, k ≤ a.length ∧ a.length - k ≤ gg ∧ s5 = .int .i64 k ∧ Hid (a.take k = b.take k) ∧ Hid (Below w.heap.size w wr))
    case atStart => exact ⟨0, Nat.zero_le _, by omega, rfl, rfl, Below.refl _ _⟩
    case round =>
      obtain ⟨k, hk, hg, rfl, HT, HW⟩ := hrel
      by_cases hlt : k < a.length
      · obtain ⟨x, hx⟩ : ∃ x, a[k]? = some x := ⟨_, List.getElem?_eq_getElem hlt⟩
        obtain ⟨y, hy⟩ : ∃ y, b[k]? = some y := ⟨_, List.getElem?_eq_getElem (by have := HL.out; omega)⟩
        have hkb : k < b.length := by have := HL.out; omega
        rcases HA.out with rfl | ⟨p, o, rfl, hra⟩
        · simp at hlt
        rcases HB.out with rfl | ⟨p', o', rfl, hrb⟩
        · simp at hkb
        obtain ⟨p, hc0, hc1, hc2, hc3, hc4, hc5⟩ := event_at hra HW.out hx
        obtain ⟨p', gc0, gc1, gc2, gc3, gc4, gc5⟩ := event_at hrb HW.out hy
        have HX := hide hx
        have HY := hide hy
        clear hx hy hra hrb HA HB 
        go_wp2
        go_still_tail 8, (by kernel_rfl)
        change wpList _ _ _ _ _ wr.drew
        go_wp2_with (go_at_call 41; refine (eqEvent_c x y  _  ).mono ?_; rintro e w1 ⟨rfl, hb1⟩; have H1 := hide (HW.out.drew.trans (hb1.mono (by simpa using HW.out.size))); clear hb1)
        · have hq : ¬ x = y := fun e => by rw [(eqEventB_iff x y).2 e] at *; contradiction
          go_ret
          exact ⟨by rw [eqAll_pre HT.out HX.out HY.out hq]; rfl, H1.out⟩
        · have hq : eqEventB x y = true := by simpa using ‹(!eqEventB x y) = false›
          have HQ := hide ((eqEventB_iff x y).1 hq)
          clear hq
          go_roundg (a.length - (k + 1))
          case measure => omega
          case rel => exact ⟨k + 1, by omega, by omega, by go_num, hide (by rw [List.take_add_one, List.take_add_one, HX.out, HY.out, HT.out, HQ.out]), H1⟩
      · have : k = a.length := by omega
        subst this
        go_wp2
        go_ret
        exact ⟨by rw [show decide (a = b) = true from by rw [decide_eq_true_iff]; have := HT.out; rw [List.take_length] at this; rw [this, HL.out, List.take_length]]; rfl, HW.out⟩
  · have hne : (((a.length : Nat) : Int) != ((b.length : Nat) : Int)) = true := by simp; omega
    have he : decide (a = b) = false := decide_eq_false (by rintro rfl; exact hlen rfl)
    have HE := hide he
    clear he hlen hra hrb
    go_enter Tryz.func23, Tryz.ntmps23
    go_wp2
    go_ret
    exact ⟨by rw [HE.out]; rfl, Below.refl _ _⟩
set_option maxHeartbeats 2000000 in
theorem toEvent_c (x : Event) (w : World) :
    Calls Tryz.prog 35 #[.agg #[.int .i64 x.kind, .int .i64 x.number, .int .i64 x.member, .int .i64 x.at_, .string x.text, .int .i64 x.reply]] w (RetElem eventD w x) := by
  go_enter Tryz.func35, Tryz.ntmps35
  go_wp2_with fail
  refine bodyPost_ret (v := .agg #[.int .i64 x.kind, .int .i64 x.number, .int .i64 x.member, .int .i64 x.at_, .string x.text, .int .i64 x.reply]) (by simp [results, Tryz.results35, go_sem]) rfl ⟨_, [], rfl, ⟨rfl, rfl⟩, List.nodup_nil, by simp, ?_⟩
  repeat (first | exact Below.refl _ _ | refine Below.setCell ?_ (by simp <;> omega) _ | refine Below.alloc ?_ (by simp <;> omega) _)
theorem infoEvent : (Tryz.prog.info? 55).map (fun i => (i.zero, i.size, i.bytes)) = some (some (.agg #[(.int .i64 0), (.int .i64 0), (.int .i64 0), (.int .i64 0), (.string ⟨#[]⟩), (.int .i64 0)]), 6, 56) := by kernel_rfl
set_option maxHeartbeats 2000000 in
set_option maxRecDepth 100000 in
theorem toEventS_c (v : Value) (a : List Event) (w : World) (ha : SliceK eventD w v a) (hn : a.length ≤ 1048576) :
    Calls Tryz.prog 17 #[v] w (RetMade eventD 55 w a) := by
  obtain ⟨A, c, rfl, hl1, hm1, hra⟩ := ha
  have HA := hide hra
  have hmk := run_mk (P := Tryz.prog) 32 55 (.agg #[(.int .i64 0), (.int .i64 0), (.int .i64 0), (.int .i64 0), (.string ⟨#[]⟩), (.int .i64 0)]) 6 56 Tryz.underlying32 infoEvent a.length (by omega) (by omega)
  clear hra
  go_enter Tryz.func17, Tryz.ntmps17
  go_wp2_with fail
  obtain ⟨B, hB⟩ : ∃ B, B = w.heap.size := ⟨_, rfl⟩
  have HBs := hide hB
  rw [← hB]
  have H0 : ∃ cur css Fs, Row eventD 55 (w.alloc (Obj.cells (mkRow (.agg #[(.int .i64 0), (.int .i64 0), (.int .i64 0), (.int .i64 0), (.string ⟨#[]⟩), (.int .i64 0)]) (a.length * 6)) 55)) B a.length cur css Fs (a.take 0) ∧ (B :: Fs.flatten).Nodup ∧ (∀ q ∈ B :: Fs.flatten, w.heap.size ≤ q) :=
    ⟨_, [], [], by rw [hB]; exact Row.start (d := eventD) (by omega), by simp, by intro q hq; simp at hq; omega⟩
  have H0 := hide H0
  clear hB
  go_loopg [4] a.length (fun gg s4 wr => ∃ k : Nat, k ≤ a.length ∧ a.length - k ≤ gg ∧ s4 = .int .i64 k ∧ Hid (∃ cur css Fs, Row eventD 55 wr B a.length cur css Fs (a.take k) ∧ (B :: Fs.flatten).Nodup ∧ (∀ q ∈ B :: Fs.flatten, w.heap.size ≤ q)) ∧ Hid (Below w.heap.size w wr))
  case atStart => exact ⟨0, Nat.zero_le _, by omega, rfl, H0, (Below.refl _ _).alloc (Nat.le_refl _) _⟩
  case round =>
    obtain ⟨k, hk, hg, rfl, HR, HW⟩ := hrel
    clear H0 hmk
    by_cases hlt : k < a.length
    · obtain ⟨x, hx⟩ : ∃ x, a[k]? = some x := ⟨_, List.getElem?_eq_getElem hlt⟩
      rcases HA.out with rfl | ⟨p, o, rfl, hra⟩
      · simp at hlt
      obtain ⟨p, hc0, hc1, hc2, hc3, hc4, hc5⟩ := event_at hra HW.out hx
      have HX := hide hx
      clear hx hra HA 
      go_wp2_with fail
      refine (toEvent_c x  _ ).mono ?_
      rintro e w1 ⟨cs, G, rfl, hm, hnd, hG, hb1⟩
      obtain ⟨cur, css, Fs, hrow, hnF, hgF⟩ := HR.out
      have HM := hide hm
      obtain ⟨rfl, rfl⟩ := hm
      have hsz : cur.size = a.length * 6 := hrow.size
      have hlB : B < wr.heap.size := block_lt hrow.blk
      have hblk1 : w1.heap[B]? = some (.cells cur 55 (0, 0)) := (hb1.block B hlB).trans hrow.blk
      have hfz : ∀ o, w1.frozen? ⟨B, o, none⟩ = false := fun o => frozen_block hblk1
      have hlB1 : B < w1.heap.size := block_lt hblk1
      obtain ⟨z0, hz0⟩ : ∃ z, w1.cell? ⟨B, k * 6, none⟩ = some z := ⟨cur[k * 6]'(by omega), by rw [cell_block hblk1]; exact Array.getElem?_eq_getElem (by omega)⟩
      obtain ⟨z1, hz1⟩ : ∃ z, w1.cell? ⟨B, k * 6 + 1, none⟩ = some z := ⟨cur[k * 6 + 1]'(by omega), by rw [cell_block hblk1]; exact Array.getElem?_eq_getElem (by omega)⟩
      obtain ⟨z2, hz2⟩ : ∃ z, w1.cell? ⟨B, k * 6 + 2, none⟩ = some z := ⟨cur[k * 6 + 2]'(by omega), by rw [cell_block hblk1]; exact Array.getElem?_eq_getElem (by omega)⟩
      obtain ⟨z3, hz3⟩ : ∃ z, w1.cell? ⟨B, k * 6 + 3, none⟩ = some z := ⟨cur[k * 6 + 3]'(by omega), by rw [cell_block hblk1]; exact Array.getElem?_eq_getElem (by omega)⟩
      obtain ⟨z4, hz4⟩ : ∃ z, w1.cell? ⟨B, k * 6 + 4, none⟩ = some z := ⟨cur[k * 6 + 4]'(by omega), by rw [cell_block hblk1]; exact Array.getElem?_eq_getElem (by omega)⟩
      obtain ⟨z5, hz5⟩ : ∃ z, w1.cell? ⟨B, k * 6 + 5, none⟩ = some z := ⟨cur[k * 6 + 5]'(by omega), by rw [cell_block hblk1]; exact Array.getElem?_eq_getElem (by omega)⟩
      have HC := hide (And.intro hrow (And.intro hnF (And.intro hgF (And.intro hnd (And.intro hG (And.intro hb1 hblk1))))))
      have HSZ := hide hsz
      clear HR hrow hnF hgF hnd hG hb1 hblk1 hlB hsz
      go_wp2_with fail
      obtain ⟨hrow, hnF, hgF, hnd, hG, hb1, hblk1⟩ := HC.out
      obtain ⟨cur', hcur', hlist'⟩ := putCells_block [.int .i64 x.kind, .int .i64 x.number, .int .i64 x.member, .int .i64 x.at_, .string x.text, .int .i64 x.reply] w1 B (k * 6) hblk1
      have hBl : ∀ q ∈ B :: Fs.flatten, q < wr.heap.size := hrow.lt
      have htl : (a.take k).length = k := by rw [List.length_take]; omega
      go_roundg (a.length - (k + 1))
      case measure => omega
      case rel =>
        refine ⟨k + 1, by omega, by omega, by go_num, hide ⟨cur', css ++ [[.int .i64 x.kind, .int .i64 x.number, .int .i64 x.member, .int .i64 x.at_, .string x.text, .int .i64 x.reply]], Fs ++ [([] : List Nat)], ?_, ?_, ?_⟩, hide ?_⟩
        · rw [List.take_add_one, HX.out]
          refine Row.snoc (w' := putCells w1 B (k * 6) [.int .i64 x.kind, .int .i64 x.number, .int .i64 x.member, .int .i64 x.at_, .string x.text, .int .i64 x.reply]) hrow (by omega) (Dt.M_move _ (fun q hq => putCells_other _ _ _ _ ?_) HM.out) hcur' (by rw [htl]; exact hlist') (fun q hq => (putCells_other _ _ _ _ ?_).trans (hb1.block q (hBl q (List.mem_cons_of_mem _ hq))))
          · have := hG q hq; have := hBl B List.mem_cons_self; omega
          · intro e; subst e; exact (List.nodup_cons.1 hnF).1 hq
        · rw [List.flatten_append, List.flatten_singleton, ← List.cons_append]
          exact nodup_app hnF hnd hBl hG
        · intro q hq
          rw [List.flatten_append, List.flatten_singleton, ← List.cons_append, List.mem_append] at hq
          rcases hq with hq | hq
          · exact hgF q hq
          · exact Nat.le_trans HW.out.size (hG q hq)
        · exact putCells_below [.int .i64 x.kind, .int .i64 x.number, .int .i64 x.member, .int .i64 x.at_, .string x.text, .int .i64 x.reply] B (k * 6) (HW.out.trans (hb1.mono HW.out.size)) (hgF B List.mem_cons_self)
    · have : k = a.length := by omega
      subst this
      go_wp2
      go_ret
      obtain ⟨cur, css, Fs, hrow, hnF, hgF⟩ := HR.out
      rw [List.take_length] at hrow
      exact ⟨_, rfl, ⟨_, hrow.M, hnF, hgF⟩, HW.out⟩
set_option maxHeartbeats 2000000 in
theorem szEvent_c (x : Event) (left : Int) (w : World) (b0 : 0 ≤ left) (b1 : left ≤ 1048576) (hok : okEvent x) :
    Calls Tryz.prog 29 #[.agg #[.int .i64 x.kind, .int .i64 x.number, .int .i64 x.member, .int .i64 x.at_, .string x.text, .int .i64 x.reply], .int .i64 left] w fun e w' => RetSz left (sizeEvent x) e ∧ Below w.heap.size w w' := by
  have HK := hide hok
  unfold okEvent at hok
  have hs4 := hok
  clear hok
  have HB := hide ((Below.refl w.heap.size w).alloc (Nat.le_refl _) (.cells #[.int .i64 x.kind, .int .i64 x.number, .int .i64 x.member, .int .i64 x.at_, .string x.text, .int .i64 x.reply] 62))
  go_enter Tryz.func29, Tryz.ntmps29
  go_wp2
  all_goals
    go_ret
    refine ⟨⟨_, rfl, ?_⟩, HB.out⟩
    unfold szR sizeEvent
    split <;> omega
set_option maxHeartbeats 2000000 in
theorem szEventS_c (v : Value) (a : List Event) (left : Int) (w : World) (ha : SliceK eventD w v a) (h0 : 0 ≤ left) (h1 : left ≤ 1048576) (hok : ∀ x ∈ a, okEvent x) :
    Calls Tryz.prog 12 #[v, .int .i64 left] w fun e w' => RetSz left (a.length + sizeAll sizeEvent a) e ∧ Below w.heap.size w w' := by
  obtain ⟨A, c, rfl, hl1, hm1, hra⟩ := ha
  have HA := hide hra
  have HOK := hide hok
  clear hok
  clear hra
  by_cases h : (a.length : Int) ≤ left
  · have h2 : ¬ (left - (a.length : Int) < 0) := by omega
    go_enter Tryz.func12, Tryz.ntmps12
    go_wp2
    go_loopg [1, 5] a.length (fun gg s1 s5 wr => ∃ (k : Nat) (q : Int), k ≤ a.length ∧ a.length - k ≤ gg ∧ s1 = .int .i64 q ∧ s5 = .int .i64 k ∧ 0 ≤ q ∧ q ≤ 1048576 ∧ Hid (q = left - a.length - sizeAll sizeEvent (a.take k)) ∧ Hid (Below w.heap.size w wr))
    case atStart => exact ⟨0, left - a.length, Nat.zero_le _, by omega, rfl, rfl, by omega, by omega, hide (by simp [sizeAll]), Below.refl _ _⟩
    case round =>
      obtain ⟨k, q, hk, hg, rfl, rfl, hq0, hq1, HQ, HW⟩ := hrel
      by_cases hlt : k < a.length
      · obtain ⟨x, hx⟩ : ∃ x, a[k]? = some x := ⟨_, List.getElem?_eq_getElem hlt⟩
        rcases HA.out with rfl | ⟨p, o, rfl, hra⟩
        · simp at hlt
        obtain ⟨p, hc0, hc1, hc2, hc3, hc4, hc5⟩ := event_at hra HW.out hx
        have HX := hide hx
        have hokx := hide (HOK.out x (List.mem_of_getElem? hx))
        clear hx hra HA 
        go_wp2_with fail
        refine (szEvent_c x  q _  hq0 hq1 hokx.out).mono ?_
        rintro e w1 ⟨⟨r, rfl, hr⟩, hb1⟩
        have hd := szR_bd hr hq0
        have R := hide hr
        have H1 := hide (HW.out.trans (hb1.mono HW.out.size))
        clear hr hb1
        go_wp2_with fail
        · have hT := sizeAll_take sizeEvent a k x HX.out
          have hL := sizeAll_le sizeEvent a (k + 1)
          have hsp := szR_spec R.out hq0
          have := HQ.out
          go_ret
          exact ⟨⟨_, rfl, by unfold szR; rw [if_neg (by omega)]⟩, H1.out⟩
        · have hT := sizeAll_take sizeEvent a k x HX.out
          have hsp := szR_spec R.out hq0
          have := HQ.out
          have hrq : r = q - sizeEvent x := by omega
          go_roundg (a.length - (k + 1))
          case measure => omega
          case rel => exact ⟨k + 1, r, by omega, by omega, rfl, by go_num, by omega, by omega, hide (by rw [hT]; omega), H1⟩
      · have : k = a.length := by omega
        subst this
        go_wp2
        go_ret
        have := HQ.out
        rw [List.take_length] at this
        exact ⟨⟨_, rfl, by unfold szR; rw [if_pos (by omega)]; omega⟩, HW.out⟩
  · have hr := hide (show -1 = szR left (a.length + sizeAll sizeEvent a) from (if_neg (by omega)).symm)
    have h2 : (left - (a.length : Int) < 0) := by omega
    go_enter Tryz.func12, Tryz.ntmps12
    go_wp2
    go_ret
    exact ⟨⟨_, rfl, hr.out⟩, Below.refl _ _⟩
def cntEvent (x : Event) : Nat := 6
def mkEvent (k : Int) (x : Event) : Event := { kind := (k), number := (k + 1), member := (k + 1 + 1), at_ := (k + 1 + 1 + 1), text := markT (k + 1 + 1 + 1 + 1), reply := (k + 1 + 1 + 1 + 1 + 1) }
theorem cntEvent_mk (k : Int) (x : Event) : cntEvent (mkEvent k x) = cntEvent x := by simp [cntEvent, mkEvent, marks_len, marks_len]
theorem mkEvent_mk (k : Int) (x : Event) : mkEvent k (mkEvent k x) = mkEvent k x := by simp [mkEvent, marks_len, marks_len]
def heldEventB (k : Int) (x : Event) : Bool := !(x.kind != k) && !(x.number != k + 1) && !(x.member != k + 1 + 1) && !(x.at_ != k + 1 + 1 + 1) && !(!(x.text.toList == (markT (k + 1 + 1 + 1 + 1)).toList)) && !(x.reply != k + 1 + 1 + 1 + 1 + 1)
theorem heldEventB_iff {k : Int} (h : 0 ≤ k) (x : Event) : heldEventB k x = true ↔ x = mkEvent k x := by
  cases x
  simp only [heldEventB, mkEvent, Event.mk.injEq, bytes_eq, Bool.and_eq_true, Bool.not_eq_true', bne_eq_false_iff_eq, Bool.not_eq_false', beq_iff_eq, decide_eq_false_iff_not, and_assoc]
set_option maxHeartbeats 4000000 in
set_option maxRecDepth 100000 in
theorem markEventS_c (v : Value) (xs : List Event) (F : List Nat) (k : Int) (w : World) (h : SliceM eventD 55 w v xs F) (hn : F.Nodup) (h0 : 0 ≤ k) (h1 : k + cntAll cntEvent xs ≤ 1000000000000) :
    Calls Tryz.prog 25 #[v, .int .i64 k] w (RetMarkA eventD 55 cntEvent mkEvent w v xs F k) := by
  rcases h.row with ⟨rfl, rfl, rfl⟩ | ⟨B, cap, cur, css, Fs, rfl, hrow, rfl⟩
  · go_enter Tryz.func25, Tryz.ntmps25
    go_wp2
    go_loopg [1, 5] 0 (fun gg s1 s5 wr => s1 = .int .i64 k ∧ s5 = .int .i64 0 ∧ w = wr)
    case atStart => exact ⟨rfl, rfl, rfl⟩
    case round =>
      obtain ⟨rfl, rfl, rfl⟩ := hrel
      go_wp2
      go_ret
      exact ⟨by simp [cntAll], .inl ⟨rfl, rfl, rfl⟩, Chg.refl _ _⟩
  · have H0 := hide (show ∃ cur css, Row eventD 55 w B cap cur css Fs (mixed cntEvent mkEvent k xs 0) from ⟨cur, css, by rw [mixed_zero]; exact hrow⟩)
    have HN := hide hn
    have hlen := hrow.le
    have hmax := hrow.max
    clear h hrow hn
    go_enter Tryz.func25, Tryz.ntmps25
    go_wp2
    go_loopg [1, 5] xs.length (fun gg s1 s5 wr => ∃ (i : Nat) (q : Int), i ≤ xs.length ∧ xs.length - i ≤ gg ∧ s1 = .int .i64 q ∧ s5 = .int .i64 i ∧ 0 ≤ q ∧ Hid (q = k + cntAll cntEvent (xs.take i)) ∧
      Hid (∃ cur css, Row eventD 55 wr B cap cur css Fs (mixed cntEvent mkEvent k xs i)) ∧ Hid (Chg (B :: Fs.flatten) w wr))
    case atStart => exact ⟨0, k, Nat.zero_le _, by omega, rfl, rfl, h0, hide (by simp [cntAll]), H0, Chg.refl _ _⟩
    case round =>
      obtain ⟨i, q, hi, hg, rfl, rfl, hq0, HQ, HR, HW⟩ := hrel
      clear H0
      by_cases hlt : i < xs.length
      · obtain ⟨x, hx⟩ : ∃ x, xs[i]? = some x := ⟨_, List.getElem?_eq_getElem hlt⟩
        obtain ⟨cur, css, hrow⟩ := HR.out
        obtain ⟨cs, G, hE⟩ := RowE.ofRow hrow (mixed_get (cnt := cntEvent) (mk := mkEvent) k xs i hx)
        have hcT := cntAll_take (cnt := cntEvent) xs i x hx
        have hcL := cntAll_le (cnt := cntEvent) xs (i + 1)
        have hq1 : q + cntEvent x ≤ 1000000000000 := by have := HQ.out; omega
        have hq2 : q + (6 : Nat) ≤ 1000000000000 := hq1
        have HT := hide hcT
        have HX := hide hx
        have hlB := hE.blt
        have hfz := hE.frozen
        have hcell := hE.cell
        obtain ⟨rfl, rfl⟩ : cs = [.int .i64 x.kind, .int .i64 x.number, .int .i64 x.member, .int .i64 x.at_, .string x.text, .int .i64 x.reply] ∧ G = [] := hE.M
        have hc0 : wr.cell? ⟨B, i * 6, none⟩ = some (.int .i64 x.kind) := hcell 0 _ rfl
        have hc1 : wr.cell? ⟨B, i * 6 + 1, none⟩ = some (.int .i64 x.number) := hcell 1 _ rfl
        have hc2 : wr.cell? ⟨B, i * 6 + 2, none⟩ = some (.int .i64 x.member) := hcell 2 _ rfl
        have hc3 : wr.cell? ⟨B, i * 6 + 3, none⟩ = some (.int .i64 x.at_) := hcell 3 _ rfl
        have hc4 : wr.cell? ⟨B, i * 6 + 4, none⟩ = some (.string x.text) := hcell 4 _ rfl
        have hc5 : wr.cell? ⟨B, i * 6 + 5, none⟩ = some (.int .i64 x.reply) := hcell 5 _ rfl
        have E0 := hide hE
        clear HR hcell hcT hcL hx hrow hE hq1
        have E1 := hide (E0.out.put HN.out 0 (.int .i64 (q)) ({ x with kind := (q) }) (by decide) fun _ => ⟨rfl, rfl⟩)
        have E2 := hide (E1.out.put HN.out 1 (.int .i64 (q + 1)) ({ x with kind := (q), number := (q + 1) }) (by decide) fun _ => ⟨rfl, rfl⟩)
        have E3 := hide (E2.out.put HN.out 2 (.int .i64 (q + 1 + 1)) ({ x with kind := (q), number := (q + 1), member := (q + 1 + 1) }) (by decide) fun _ => ⟨rfl, rfl⟩)
        have E4 := hide (E3.out.put HN.out 3 (.int .i64 (q + 1 + 1 + 1)) ({ x with kind := (q), number := (q + 1), member := (q + 1 + 1), at_ := (q + 1 + 1 + 1) }) (by decide) fun _ => ⟨rfl, rfl⟩)
        go_wp2_with fail
        refine (markText_c _ _ (by omega) (by omega)).mono ?_
        rintro e w1 ⟨rfl, hb⟩
        have hss := hb.size
        (try simp only [World.size_setCell] at hss)
        have hlB1 : B < w1.heap.size := by omega
        have hle1 : wr.heap.size ≤ w1.heap.size := by omega
        have E5 := hide (E4.out.below hb)
        have hfz1 := E5.out.frozen
        have hcell := E5.out.cell
        have hcc1_0 : w1.cell? ⟨B, i * 6, none⟩ = some _ := hcell 0 _ rfl
        have hcc1_1 : w1.cell? ⟨B, i * 6 + 1, none⟩ = some _ := hcell 1 _ rfl
        have hcc1_2 : w1.cell? ⟨B, i * 6 + 2, none⟩ = some _ := hcell 2 _ rfl
        have hcc1_3 : w1.cell? ⟨B, i * 6 + 3, none⟩ = some _ := hcell 3 _ rfl
        have hcc1_4 : w1.cell? ⟨B, i * 6 + 4, none⟩ = some _ := hcell 4 _ rfl
        have hcc1_5 : w1.cell? ⟨B, i * 6 + 5, none⟩ = some _ := hcell 5 _ rfl
        have HS1 := hide hb
        clear hb hss hcell
        go_wp2_with fail
        have E6 := hide (E5.out.put HN.out 4 (.string (markT (q + 1 + 1 + 1 + 1))) ({ x with kind := (q), number := (q + 1), member := (q + 1 + 1), at_ := (q + 1 + 1 + 1), text := markT (q + 1 + 1 + 1 + 1) }) (by decide) fun _ => ⟨rfl, rfl⟩)
        have E7 := hide (E6.out.put HN.out 5 (.int .i64 (q + 1 + 1 + 1 + 1 + 1)) ({ x with kind := (q), number := (q + 1), member := (q + 1 + 1), at_ := (q + 1 + 1 + 1), text := markT (q + 1 + 1 + 1 + 1), reply := (q + 1 + 1 + 1 + 1 + 1) }) (by decide) fun _ => ⟨rfl, rfl⟩)
        obtain ⟨cur', css', hrow'⟩ := E7.out.row
        simp only [List.set_set] at hrow'
        have hmk : { x with kind := (q), number := (q + 1), member := (q + 1 + 1), at_ := (q + 1 + 1 + 1), text := markT (q + 1 + 1 + 1 + 1), reply := (q + 1 + 1 + 1 + 1 + 1) } = mkEvent q x := rfl
        have hmx : (mixed cntEvent mkEvent k xs i).set i (mkEvent q x) = mixed cntEvent mkEvent k xs (i + 1) := by rw [HQ.out]; exact mixed_set k xs i HX.out
        rw [hmk, hmx] at hrow'
        go_roundg (xs.length - (i + 1))
        case measure => omega
        case rel =>
          refine ⟨i + 1, q + 1 + 1 + 1 + 1 + 1 + 1, by omega, by omega, rfl, by go_num, by omega, hide (by have h1 := HQ.out; have h2 := HT.out; have h3 : cntEvent x = 6 := rfl; rw [h2]; omega), hide ⟨cur', css', hrow'⟩, hide ?_⟩
          exact ((((((((((((((HW.out).setCell (.inl (by simp)) _)).setCell (.inl (by simp)) _)).setCell (.inl (by simp)) _)).setCell (.inl (by simp)) _)).then HS1.out)).setCell (.inl (by simp)) _)).setCell (.inl (by simp)) _)
      · have : i = xs.length := by omega
        subst this
        go_wp2
        go_ret
        obtain ⟨cur, css, hrow⟩ := HR.out
        rw [mixed_all] at hrow
        have hq := HQ.out
        rw [List.take_length] at hq
        refine ⟨by rw [← hq]; rfl, ?_, HW.out⟩
        have hS := hrow.M
        rwa [markAll_len] at hS
set_option maxHeartbeats 4000000 in
set_option maxRecDepth 100000 in
theorem heldEventS_c (v : Value) (xs : List Event) (k : Int) (w : World) (h : SliceK eventD w v xs) (h0 : 0 ≤ k) (h1 : k + cntAll cntEvent xs ≤ 1000000000000) :
    Calls Tryz.prog 27 #[v, .int .i64 k] w fun e w' => e = .returned (.int .i64 (heldAll cntEvent mkEvent k xs)) ∧ Below w.heap.size w w' := by
  obtain ⟨A, c, rfl, hl, hm, hra⟩ := h
  have HA := hide hra
  clear hra
  go_enter Tryz.func27, Tryz.ntmps27
  go_wp2
  go_loopg [1, 5] xs.length (fun gg s1 s5 wr => ∃ (i : Nat) (q : Int), i ≤ xs.length ∧ xs.length - i ≤ gg ∧ s1 = .int .i64 q ∧ s5 = .int .i64 i ∧ 0 ≤ q ∧ Hid (q = k + cntAll cntEvent (xs.take i)) ∧ Hid (xs.take i = (markAll cntEvent mkEvent k xs).take i) ∧ Hid (Below w.heap.size w wr))
  case atStart => exact ⟨0, k, Nat.zero_le _, by omega, rfl, rfl, h0, hide (by simp [cntAll]), rfl, Below.refl _ _⟩
  case round =>
    obtain ⟨i, q, hi, hg, rfl, rfl, hq0, HQ, HT, HB⟩ := hrel
    by_cases hlt : i < xs.length
    · obtain ⟨x, hx⟩ : ∃ x, xs[i]? = some x := ⟨_, List.getElem?_eq_getElem hlt⟩
      rcases HA.out with rfl | ⟨p, o, rfl, hra⟩
      · simp at hlt
      obtain ⟨p, hc0, hc1, hc2, hc3, hc4, hc5⟩ := event_at hra HB.out hx
      have hcT := cntAll_take (cnt := cntEvent) xs i x hx
      have hcL := cntAll_le (cnt := cntEvent) xs (i + 1)
      have hq1 : q + cntEvent x ≤ 1000000000000 := by have := HQ.out; omega
      have hq2 : q + (6 : Nat) ≤ 1000000000000 := hq1
      have HcT := hide hcT
      have HX := hide hx
      clear hx hra HA hcT hcL hq1 
      go_wp2_with fail
      all_goals try (
         have hB : heldEventB q x = false := by simp only [heldEventB, decide_true, decide_false, Bool.not_true, Bool.not_false, Bool.and_false, Bool.false_and, Bool.and_true, Bool.true_and, *]
         have hE : ¬ x = mkEvent q x := fun e => by rw [(heldEventB_iff hq0 x).2 e] at hB; cases hB
         rw [HQ.out] at hE
         go_ret
         exact ⟨by rw [heldAll_neg HX.out hE]; rfl, HB.out⟩)
      go_region_with (go_at_call 43; refine (markText_c _ _ (by omega) (by omega)).mono ?_; rintro e w1 ⟨rfl, hb1⟩; have HN := hide (HB.out.drew.trans (hb1.mono (by simpa using HB.out.size))); have g4 := cell_below hb1 (show wr.drew.cell? _ = _ from hc4); have g5 := cell_below hb1 (show wr.drew.cell? _ = _ from hc5); have bw := hide hb1; clear hb1 HB; have HB := HN; clear HN)
      all_goals go_wp2
      all_goals first
      | (
         go_roundg (xs.length - (i + 1))
         case measure => omega
         case rel =>
           have hB : heldEventB q x = true := by simp only [heldEventB, decide_true, decide_false, Bool.not_true, Bool.not_false, Bool.and_false, Bool.false_and, Bool.and_true, Bool.true_and, *]
           have hE := (heldEventB_iff hq0 x).1 hB
           have hQ := HQ.out
           exact ⟨i + 1, q + cntEvent x, by omega, by omega, (int_congr (by unfold cntEvent; omega)), by go_num, by omega, hide (by rw [HcT.out, hQ]; omega), hide (by rw [List.take_add_one, List.take_add_one, HX.out, HT.out, markAll_get _ _ _ _ HX.out, ← hQ, ← hE]), HB⟩)
      | (
         have hB : heldEventB q x = false := by simp only [heldEventB, decide_true, decide_false, Bool.not_true, Bool.not_false, Bool.and_false, Bool.false_and, Bool.and_true, Bool.true_and, *]
         have hE : ¬ x = mkEvent q x := fun e => by rw [(heldEventB_iff hq0 x).2 e] at hB; cases hB
         rw [HQ.out] at hE
         go_ret
         exact ⟨by rw [heldAll_neg HX.out hE]; rfl, HB.out⟩)
    · have : i = xs.length := by omega
      subst this
      go_wp2
      go_ret
      have hq := HQ.out
      rw [List.take_length] at hq
      exact ⟨by rw [heldAll_pos HT.out, ← hq]; rfl, HB.out⟩
/-! ### History -/
def sizeHistory (x : History) : Nat := sizeLog x.base + (x.events.length + sizeAll sizeEvent x.events)
/-- Its strings are no longer than a machine holds. -/
def okHistory (x : History) : Prop := okLog x.base ∧ (∀ y ∈ x.events, okEvent y)
def fewHistory (x : History) : Prop := fewLog x.base ∧ x.events.length ≤ 1048576
def eqHistoryB (a b : History) : Bool := !(!(eqLogB a.base b.base)) && !(!(decide (a.events = b.events)))
theorem eqHistoryB_iff (a b : History) : eqHistoryB a b = true ↔ a = b := by
  cases a; cases b
  simp [eqHistoryB, bytes_eq, and_assoc, eqLogB_eq]
theorem eqHistoryB_eq (a b : History) : eqHistoryB a b = decide (a = b) := by
  rw [Bool.eq_iff_iff, eqHistoryB_iff, decide_eq_true_iff]
set_option maxHeartbeats 2000000 in
theorem eqHistory_c (x y : History) (v1 v2 u1 u2 : Value) (w : World) (h1 : SliceK messageD w v1 x.base.messages) (h2 : SliceK eventD w v2 x.events) (g1 : SliceK messageD w u1 y.base.messages) (g2 : SliceK eventD w u2 y.events) :
    Calls Tryz.prog 8 #[.agg #[.int .i64 x.base.next, v1, v2], .agg #[.int .i64 y.base.next, u1, u2]] w fun e w' => e = .returned (.bool (eqHistoryB x y)) ∧ Below w.heap.size w w' := by
  have H1 := hide h1
  have G1 := hide g1
  have H2 := hide h2
  have G2 := hide g2
  clear h1 g1 h2 g2
  have HB := hide (((Below.refl w.heap.size w).alloc (Nat.le_refl _) (.cells #[.int .i64 x.base.next, v1, v2] 34)).alloc (by simp) (.cells #[.int .i64 y.base.next, u1, u2] 34))
  go_enter Tryz.func8, Tryz.ntmps8
  go_wp2_with (first | (go_at_call 22; ((with_reducible refine (eqLog_c x.base y.base v1 u1 _ (H1.out.below HB.out) (G1.out.below HB.out)).mono ?_); rintro e w1 ⟨rfl, hb1⟩; have HN := hide (HB.out.trans (hb1.mono HB.out.size)); obtain ⟨hc, hf, hs⟩ := bcell hb1; have hz : w.heap.size + 1 < w1.heap.size := (by ((try simp only [World.size_alloc] at hs); omega)); have hy : w.heap.size < w1.heap.size := (by omega); clear hs hb1 HB; have HB := HN; clear HN)) | (go_at_call 23; ((with_reducible refine (eqEventS_c _ _ _ _ _ (H2.out.below HB.out) (G2.out.below HB.out)).mono ?_); rintro e w1 ⟨rfl, hb1⟩; have HN := hide (HB.out.trans (hb1.mono HB.out.size)); obtain ⟨hc, hf, hs⟩ := bcell hb1; have hz : w.heap.size + 1 < w1.heap.size := (by ((try simp only [World.size_alloc] at hs); omega)); have hy : w.heap.size < w1.heap.size := (by omega); clear hs hb1 HB; have HB := HN; clear HN)))
  all_goals
    go_ret
    refine ⟨?_, HB.out⟩
    first
    | (rw [show eqHistoryB x y = false from by simp only [eqHistoryB, decide_true, decide_false, Bool.not_true, Bool.not_false, Bool.and_false, Bool.false_and, Bool.and_true, Bool.true_and, *]]; rfl)
    | (rw [show eqHistoryB x y = true from by simp only [eqHistoryB, decide_true, decide_false, Bool.not_true, Bool.not_false, Bool.and_false, Bool.false_and, Bool.and_true, Bool.true_and, *]]; rfl)
set_option maxHeartbeats 2000000 in
theorem toHistory_c (x : History) (v1 v2 : Value) (w : World) (h1 : SliceK messageD w v1 x.base.messages) (h2 : SliceK eventD w v2 x.events) (hw : fewHistory x) :
    Calls Tryz.prog 6 #[.agg #[.int .i64 x.base.next, v1, v2]] w (RetElem historyD w x) := by
  unfold fewHistory at hw
  obtain ⟨k1, n2⟩ := hw
  have W1 := hide k1
  clear k1
  have H1 := hide h1
  have H2 := hide h2
  clear h1 h2
  go_enter Tryz.func6, Tryz.ntmps6
  go_wp2_with fail
  refine (toLog_c x.base _ _ (H1.out.below ?hb0) W1.out).mono ?_
  case hb0 => exact ((((Below.refl _ _).alloc (Nat.le_refl _) _).alloc (by simp) _).alloc (by simp; omega) _)
  rintro e w1 ⟨cs, J, rfl, hMM, hnJ, hgJ, hb1⟩
  obtain ⟨v, J2, rfl, rfl, hM0⟩ := log_M hMM
  have hM : Made messageD 82 _ w1 v x.base.messages := ⟨_, hM0, hnJ, hgJ⟩
  obtain ⟨A1, c1, rfl⟩ := hM.shape
  have HM0 := hide hM
  have HS0 := hide hb1
  clear hMM hnJ hgJ hM0
  have HB0 := hide (((((Below.refl _ _).alloc (Nat.le_refl _) _).alloc (by simp) _).alloc (by simp; omega) _).trans (hb1.mono (by simp; omega)) : Below w.heap.size w w1)
  obtain ⟨hc0, hf0, hs0⟩ := bcell hb1
  simp only [World.size_alloc, World.size_setCell] at hs0
  have hz0 : w.heap.size + 1 + 1 < w1.heap.size := by omega
  have hy0 : w.heap.size < w1.heap.size := by omega
  have hle0 : w.heap.size ≤ w1.heap.size := by omega
  have hx0 : w.heap.size + 1 < w1.heap.size := by omega
  clear hM hb1 hs0
  go_wp2_with fail
  refine (toEventS_c _ x.events _ (H2.out.below ?hb1) n2).mono ?_
  case hb1 => exact (HB0.out.trans (Chg.below (F := [w.heap.size + 1, w.heap.size + 1 + 1]) (by ((repeat (with_reducible refine Chg.setCell ?_ (.inl (by simp)) _)); exact Chg.refl _ _)) (by omega) (by intro k hk; simp at hk; omega)))
  rintro e w2 ⟨v, rfl, hM, hb1⟩
  obtain ⟨A2, c2, rfl⟩ := hM.shape
  have HM1 := hide hM
  have HS1 := hide hb1
  have HB1 := hide ((HB0.out.trans (Chg.below (F := [w.heap.size + 1, w.heap.size + 1 + 1]) (by ((repeat (with_reducible refine Chg.setCell ?_ (.inl (by simp)) _)); exact Chg.refl _ _)) (by omega) (by intro k hk; simp at hk; omega))).trans (hb1.mono (by simp; omega)) : Below w.heap.size w w2)
  obtain ⟨hc1, hf1, hs1⟩ := bcell hb1
  simp only [World.size_alloc, World.size_setCell] at hs1
  have hz1 : w.heap.size + 1 + 1 < w2.heap.size := by omega
  have hy1 : w.heap.size < w2.heap.size := by omega
  have hle1 : w1.heap.size ≤ w2.heap.size := by omega
  have hx1 : w.heap.size + 1 < w2.heap.size := by omega
  clear hM hb1 hs1
  go_wp2_with fail
  have HZ : Hid (∀ wz, Chg [w.heap.size + 1, w.heap.size + 1 + 1] w2 wz → RetElem historyD w x (.returned (.agg #[.int .i64 x.base.next, .slice A1 x.base.messages.length c1, .slice A2 x.events.length c2])) wz) := by
    intro wz hch
    have c0_ : Chg [w.heap.size + 1, w.heap.size + 1 + 1] w1 wz := ((Chg.trans (b := _) (by ((repeat (with_reducible refine Chg.setCell ?_ (.inl (by simp)) _)); exact Chg.refl _ _)) (Chg.of_below HS1.out [w.heap.size + 1, w.heap.size + 1 + 1])).trans hch)
    obtain ⟨F1, hm1, hn1, hF1⟩ := HM0.out
    have hl1 := hm1.lt
    have m1 := hm1.move fun b hb => c0_.block b (hl1 b hb) (by intro hg; have := hF1 b hb; simp at this hg; omega)
    have c1_ : Chg [w.heap.size + 1, w.heap.size + 1 + 1] w2 wz := hch
    obtain ⟨F2, hm2, hn2, hF2⟩ := HM1.out
    have hl2 := hm2.lt
    have m2 := hm2.move fun b hb => c1_.block b (hl2 b hb) (by intro hg; have := hF2 b hb; simp at this hg; omega)
    refine ⟨_, F1 ++ F2, rfl, history_M_mk m1 m2, (nodup_app (m := w1.heap.size) hn1 hn2 hl1 (by intro b hb; have := hF2 b hb; simp at this; omega)), ?_, ?_⟩
    · intro b hb; simp only [List.mem_append] at hb; rcases hb with hb | hb <;> (first | (have := hF1 b hb; simp at this; omega) | (have := hF2 b hb; simp at this; omega))
    · exact HB1.out.trans (hch.below (by omega) (by intro k hk; simp at hk; omega))
  refine bodyPost_ret (v := .agg #[.int .i64 x.base.next, .slice A1 x.base.messages.length c1, .slice A2 x.events.length c2]) (by simp [results, Tryz.results6, go_sem, hc0, hz0, hy0, hx0, hc1, hz1, hy1, hx1]) rfl (HZ.out _ ?_)
  repeat (with_reducible refine Chg.setCell ?_ (.inl (by simp)) _)
  exact Chg.refl _ _
set_option maxHeartbeats 2000000 in
theorem szHistory_c (x : History) (v1 v2 : Value) (left : Int) (w : World) (h1 : SliceK messageD w v1 x.base.messages) (h2 : SliceK eventD w v2 x.events) (b0 : 0 ≤ left) (b1 : left ≤ 1048576) (hok : okHistory x) :
    Calls Tryz.prog 4 #[.agg #[.int .i64 x.base.next, v1, v2], .int .i64 left] w fun e w' => RetSz left (sizeHistory x) e ∧ Below w.heap.size w w' := by
  have H1 := hide h1
  have H2 := hide h2
  clear h1 h2
  have HK := hide hok
  unfold okHistory at hok
  obtain ⟨ho1, ho2⟩ := hok
  have O1 := hide ho1
  clear ho1
  have O2 := hide ho2
  clear ho2
  have HB := hide ((Below.refl w.heap.size w).alloc (Nat.le_refl _) (.cells #[.int .i64 x.base.next, v1, v2] 27))
  go_enter Tryz.func4, Tryz.ntmps4
  go_wp2_with (first | (go_at_call 11; ((with_reducible refine (szLog_c x.base _ _ _ (H1.out.below HB.out) (by omega) (by omega) O1.out).mono ?_); rintro e w1 ⟨⟨r1, rfl, hr1⟩, hb1⟩; have hd1 := szR_bd hr1 (by omega); have R1 := hide hr1; have HN := hide (HB.out.trans (hb1.mono HB.out.size)); obtain ⟨hc, hf, hs⟩ := bcell hb1; have hy : w.heap.size < w1.heap.size := (by ((try simp only [World.size_alloc] at hs); omega)); clear hs hb1 HB hr1; have HB := HN; clear HN)) | (go_at_call 12; ((with_reducible refine (szEventS_c _ x.events _ _ (H2.out.below HB.out) (by omega) (by omega) O2.out).mono ?_); rintro e w1 ⟨⟨r2, rfl, hr2⟩, hb1⟩; have hd2 := szR_bd hr2 (by omega); have R2 := hide hr2; have HN := hide (HB.out.trans (hb1.mono HB.out.size)); obtain ⟨hc, hf, hs⟩ := bcell hb1; have hy : w.heap.size < w1.heap.size := (by ((try simp only [World.size_alloc] at hs); omega)); clear hs hb1 HB hr2; have HB := HN; clear HN)))
  all_goals
    go_ret
    refine ⟨⟨_, rfl, ?_⟩, HB.out⟩
    try have e1 := szR_spec R1.out (by omega)
    try have e2 := szR_spec R2.out (by omega)
    unfold szR sizeHistory
    split <;> omega
def tcntHistory (x : History) : Nat := tcntLog x.base + cntAll cntEvent x.events
def tmkHistory (k : Int) (x : History) : History := { x with base := tmkLog (k) x.base, events := markAll cntEvent mkEvent (k + tcntLog x.base) x.events }
theorem tcntHistory_mk (k : Int) (x : History) : tcntHistory (tmkHistory k x) = tcntHistory x := by simp [tcntHistory, tmkHistory, marks_len, tcntLog_mk, tmkLog_mk, cntAll_mark cntEvent_mk, markAll_mark cntEvent_mk mkEvent_mk, marks_len]
theorem tmkHistory_mk (k : Int) (x : History) : tmkHistory k (tmkHistory k x) = tmkHistory k x := by simp [tmkHistory, marks_len, tcntLog_mk, tmkLog_mk, cntAll_mark cntEvent_mk, markAll_mark cntEvent_mk mkEvent_mk, marks_len]
def theldHistory (k : Int) (x : History) : Int := if x = tmkHistory k x then k + tcntHistory x else -1
theorem theldHistory_nn {k : Int} (h : 0 ≤ k) (x : History) : theldHistory k x < 0 ↔ ¬ x = tmkHistory k x := by
  unfold theldHistory; split
  · rename_i h1; constructor
    · intro h2; omega
    · intro h2; exact absurd h1 h2
  · rename_i h1; exact ⟨fun _ => h1, fun _ => by omega⟩
theorem theldHistory_mk (k : Int) (x : History) : theldHistory k (tmkHistory k x) = k + tcntHistory x := by
  unfold theldHistory
  rw [if_pos (tmkHistory_mk k x).symm, tcntHistory_mk]
set_option maxHeartbeats 4000000 in
theorem markHistory_c (x : History) (cs : List Value) (F : List Nat) (k : Int) (w : World) (h : historyD.M w x cs F) (hn : F.Nodup) (h0 : 0 ≤ k) (h1 : k + tcntHistory x ≤ 1000000000000) :
    Calls Tryz.prog 9 #[.agg cs.toArray, .int .i64 k] w (RetMarkT historyD w (tcntHistory x) (tmkHistory k x) cs F k) := by
  unfold tcntHistory at h1
  obtain ⟨v1, v2, F1, F2, rfl, rfl, g1, g2⟩ := history_M h
  have hnn := hn
  simp only [List.nodup_append, List.mem_append] at hnn
  have HN := hide hn
  have HNN := hide hnn
  clear h hn hnn
  have M1 := hide g1
  have M2 := hide g2
  clear g1 g2
  have LT1 := hide (fun b hb => M1.out.lt b hb : ∀ b ∈ F1, b < w.heap.size)
  have LT2 := hide (fun b hb => M2.out.lt b hb : ∀ b ∈ F2, b < w.heap.size)
  have HC := hide ((Chg.refl (F1 ++ F2) w).alloc (.cells #[.int .i64 x.base.next, v1, v2] 34))
  have HB := hide (Below.refl w.heap.size w |>.alloc (Nat.le_refl _) (.cells #[.int .i64 x.base.next, v1, v2] 34))
  have M1 := hide (M1.out.move (fun b hb => HB.out.block b (M1.out.lt b hb)))
  have M2 := hide (M2.out.move (fun b hb => HB.out.block b (M2.out.lt b hb)))
  go_enter Tryz.func9, Tryz.ntmps9
  go_wp2_with fail
  refine (markLog_c x.base _ _ _ _ (log_M_mk M1.out) (HNN.out.1) (by omega) (by omega)).mono ?_
  rintro e w1 ⟨rfl, hMs, hCk⟩
  obtain ⟨t1, J1, hl, rfl, hMk⟩ := log_M hMs
  simp [tmkLog] at hl
  subst hl
  clear hMs
  have HK1 := hide hCk
  have HC := hide (HC.out.trans (hCk.mono (fun b hb => .inl (by simp [hb]))))
  have N1 := hide hMk
  have M2 := hide (M2.out.move (fun b hb => hCk.block b (M2.out.lt b hb) (fun hb2 => HNN.out.2.2 _ hb2 _ hb rfl)))
  clear hMk hCk
  have hbx1 : ∀ o, w1.cell? ⟨w.heap.size, o, none⟩ = (w.alloc (.cells #[.int .i64 x.base.next, v1, v2] 34)).cell? ⟨w.heap.size, o, none⟩ := fun o => World.cell?_of_block (HK1.out.block w.heap.size (by simp) (fun hb => absurd (LT1.out _ hb) (by omega)))
  have hsz1 : w.heap.size < w1.heap.size := by have := HK1.out.size; simp only [World.size_alloc] at this; omega
  go_wp2_with fail
  refine (markEventS_c _ x.events _ _ _ M2.out (HNN.out.2.1) (by omega) (by omega)).mono ?_
  rintro e w2 ⟨rfl, hMk, hCk⟩
  have HK2 := hide hCk
  have HC := hide (HC.out.trans (hCk.mono (fun b hb => .inl (by simp [hb]))))
  have N2 := hide hMk
  have N1 := hide (N1.out.move (fun b hb => hCk.block b (N1.out.lt b hb) (fun hb2 => HNN.out.2.2 _ hb _ hb2 rfl)))
  clear hMk hCk
  go_wp2_with fail
  go_ret
  refine ⟨?_, history_M_mk (x := tmkHistory k x) N1.out N2.out, HC.out⟩
  simp only [tcntHistory]
  exact ret_int (by first | rfl | omega)
theorem tmkHistory_iff (k : Int) (x : History) : x = tmkHistory k x ↔ x.base = tmkLog (k) x.base ∧ x.events = markAll cntEvent mkEvent (k + tcntLog x.base) x.events := by cases x; simp [tmkHistory]
theorem theldHistory_spec {k r : Int} {x : History} (h : r = theldHistory k x) (h0 : 0 ≤ k) : (r = k + tcntHistory x ∧ x = tmkHistory k x) ∨ (r = -1 ∧ ¬ x = tmkHistory k x) := by
  subst h; unfold theldHistory; split
  · rename_i h1; exact .inl ⟨rfl, h1⟩
  · rename_i h1; exact .inr ⟨rfl, h1⟩
set_option maxHeartbeats 4000000 in
theorem heldHistory_c (x : History) (v1 v2 : Value) (k : Int) (w : World) (h1 : SliceK messageD w v1 x.base.messages) (h2 : SliceK eventD w v2 x.events) (b0 : 0 ≤ k) (b1 : k + tcntHistory x ≤ 1000000000000) :
    Calls Tryz.prog 10 #[.agg #[.int .i64 x.base.next, v1, v2], .int .i64 k] w fun e w' => e = .returned (.int .i64 (theldHistory k x)) ∧ Below w.heap.size w w' := by
  unfold tcntHistory at b1
  have H1 := hide h1
  have H2 := hide h2
  clear h1 h2
  have HB := hide ((Below.refl w.heap.size w).alloc (Nat.le_refl _) (.cells #[.int .i64 x.base.next, v1, v2] 34))
  go_enter Tryz.func10, Tryz.ntmps10
  go_wp2_with (first | (go_at_call 26; ((with_reducible refine (heldLog_c x.base _ _ _ (H1.out.below HB.out) (by omega) (by omega)).mono ?_); rintro e w1 ⟨rfl, hb1⟩; have HN := hide (HB.out.trans (hb1.mono HB.out.size)); obtain ⟨hc, hf, hs⟩ := bcell hb1; have hy : w.heap.size < w1.heap.size := (by ((try simp only [World.size_alloc] at hs); omega)); clear hs hb1 HB; have HB := HN; clear HN; obtain ⟨r0, hr0⟩ : ∃ r, r = theldLog (k) x.base := ⟨_, rfl⟩; rw [← hr0]; have hd0 : -1 ≤ r0 ∧ r0 ≤ k + tcntLog x.base := (by rcases theldLog_spec hr0 (by omega) with h | h <;> omega); have R0 := hide hr0; clear hr0)) | (go_at_call 27; ((with_reducible refine (heldEventS_c _ x.events _ _ (H2.out.below HB.out) (by omega) (by omega)).mono ?_); rintro e w1 ⟨rfl, hb1⟩; have HN := hide (HB.out.trans (hb1.mono HB.out.size)); obtain ⟨hc, hf, hs⟩ := bcell hb1; have hy : w.heap.size < w1.heap.size := (by ((try simp only [World.size_alloc] at hs); omega)); clear hs hb1 HB; have HB := HN; clear HN; obtain ⟨r1, hr1⟩ : ∃ r, r = heldAll cntEvent mkEvent (r0) x.events := ⟨_, rfl⟩; rw [← hr1]; have hd1 : -1 ≤ r1 ∧ r1 ≤ r0 + cntAll cntEvent x.events := (by rcases heldAll_spec hr1 (by omega) with h | h <;> omega); have R1 := hide hr1; clear hr1)))
  · go_ret
    refine ⟨?_, HB.out⟩
    have s0 := theldLog_spec R0.out (by omega)
    have hne : ¬ x = tmkHistory k x := fun hx => by
      have hx2 := (tmkHistory_iff k x).1 hx
      rcases s0 with ⟨e0, m0⟩ | ⟨e0, m0⟩
      · omega
      · exact m0 hx2.1
    rw [show theldHistory k x = -1 from if_neg hne]
    rfl
  · go_ret
    refine ⟨?_, HB.out⟩
    have s0 := theldLog_spec R0.out (by omega)
    have s1 := heldAll_spec R1.out (by omega)
    rcases s0 with ⟨e0, m0⟩ | ⟨e0, _⟩
    case inr => omega
    rw [e0] at s1
    have hne : ¬ x = tmkHistory k x := fun hx => by
      have hx2 := (tmkHistory_iff k x).1 hx
      rcases s1 with ⟨e1, m1⟩ | ⟨e1, m1⟩
      · omega
      · exact m1 hx2.2
    rw [show theldHistory k x = -1 from if_neg hne]
    rfl
  · go_ret
    refine ⟨?_, HB.out⟩
    have s0 := theldLog_spec R0.out (by omega)
    have s1 := heldAll_spec R1.out (by omega)
    rcases s0 with ⟨e0, m0⟩ | ⟨e0, _⟩
    case inr => omega
    rw [e0] at s1
    rcases s1 with ⟨e1, m1⟩ | ⟨e1, _⟩
    case inr => omega
    have hx : x = tmkHistory k x := (tmkHistory_iff k x).2 ⟨m0, m1⟩
    rw [show theldHistory k x = r1 from by unfold theldHistory tcntHistory; rw [if_pos hx]; omega]
    rfl
/-! ### Sync -/
def sizeSync (x : Sync) : Nat := (x.events.length + sizeAll sizeEvent x.events) + sizeLog x.whole
/-- Its strings are no longer than a machine holds. -/
def okSync (x : Sync) : Prop := (∀ y ∈ x.events, okEvent y) ∧ okLog x.whole
def fewSync (x : Sync) : Prop := x.events.length ≤ 1048576 ∧ fewLog x.whole
end Go.Proofs.YtodmongmaoeknaaGreat
namespace Go.Proofs.YtodmongmaoeknaaGreat
open Go Go.RowKit Go.ChangeShapes Go.WideShapes Go.Deep
set_option linter.unusedVariables false

set_option maxRecDepth 100000 in
theorem opens_event : Opens Tryz.prog eventD okEvent 62 := by
  intro H enc W held fuel cs y h
  obtain ⟨hl, hf⟩ := open_fields Tryz.underlying62 (by kernel_rfl) (by kernel_rfl) h
  obtain ⟨v0, n0, z0, c0, t0⟩ := hf 0 _ rfl
  obtain ⟨v1, n1, z1, c1, t1⟩ := hf 1 _ rfl
  obtain ⟨v2, n2, z2, c2, t2⟩ := hf 2 _ rfl
  obtain ⟨v3, n3, z3, c3, t3⟩ := hf 3 _ rfl
  obtain ⟨v4, n4, z4, c4, t4⟩ := hf 4 _ rfl
  obtain ⟨v5, n5, z5, c5, t5⟩ := hf 5 _ rfl
  obtain ⟨x0, hx0, -, -⟩ := DataW.trod_int Tryz.underlying2 t0
  obtain ⟨x1, hx1, -, -⟩ := DataW.trod_int Tryz.underlying2 t1
  obtain ⟨x2, hx2, -, -⟩ := DataW.trod_int Tryz.underlying2 t2
  obtain ⟨x3, hx3, -, -⟩ := DataW.trod_int Tryz.underlying2 t3
  obtain ⟨x4, hx4, -, hs4⟩ := DataW.trod_string Tryz.underlying9 t4
  obtain ⟨x5, hx5, -, -⟩ := DataW.trod_int Tryz.underlying2 t5
  simp only [List.cons.injEq, and_true] at hx0 hx1 hx2 hx3 hx4 hx5
  subst hx0 hx1 hx2 hx3 hx4 hx5
  match cs, hl with
  | [_, _, _, _, _, _], _ =>
    simp at c0 c1 c2 c3 c4 c5
    subst c0 c1 c2 c3 c4 c5
    exact ⟨⟨x0, x1, x2, x3, x4, x5⟩, rfl, hs4⟩
set_option maxRecDepth 100000 in
theorem open_event {H : Type} {enc : TypeId × Value → H} {W : World} {held : Bool} {b0 : Nat} {v : Value} {d : DataW H} {ps : List MemPlace} (hv : Value.okWide Tryz.prog W .any b0 62 v)
    (h : DataW.Trod enc Tryz.prog W 0 (fun _ => true) held 62 v d ps) : ∃ (x : Event), v = .agg #[.int .i64 x.kind, .int .i64 x.number, .int .i64 x.member, .int .i64 x.at_, .string x.text, .int .i64 x.reply] ∧ okEvent x := by
  obtain ⟨cs, rfl, hsz⟩ := okWide_struct Tryz.underlying62 hv
  obtain ⟨fuel, h⟩ := h
  obtain ⟨x, hx, hok⟩ := opens_event H enc W held fuel _ _ h
  obtain ⟨l⟩ := cs
  refine ⟨x, ?_, hok⟩
  have h1 : l = [.int .i64 x.kind, .int .i64 x.number, .int .i64 x.member, .int .i64 x.at_, .string x.text, .int .i64 x.reply] := hx
  rw [h1]
end Go.Proofs.YtodmongmaoeknaaGreat
namespace Go.Proofs.YtodmongmaoeknaaGreat
open Go Go.RowKit Go.ChangeShapes Go.WideShapes Go.Deep
set_option linter.unusedVariables false

theorem opens_log : Opens Tryz.prog logD okLog 24 := by
  intro H enc W held fuel cs y h
  obtain ⟨hl, hf⟩ := open_fields Tryz.underlying24 (by kernel_rfl) (by kernel_rfl) h
  obtain ⟨v0, n0, z0, c0, t0⟩ := hf 0 _ rfl
  obtain ⟨v1, n1, z1, c1, t1⟩ := hf 1 _ rfl
  obtain ⟨x0, hx0, -, -⟩ := DataW.trod_int Tryz.underlying2 t0
  obtain ⟨x1, hx1, hk1⟩ := opens_slice Tryz.underlying22 (by kernel_rfl) (by decide) opens_message H enc W held n1 v1 _ t1
  simp only [List.cons.injEq, and_true] at hx0
  subst hx0
  match cs, hl with
  | [_, _], _ =>
    simp at c0 c1
    subst c0 c1
    exact ⟨⟨x0, x1⟩, log_K_mk hx1, hk1⟩
set_option maxRecDepth 100000 in
theorem open_history {H : Type} {enc : TypeId × Value → H} {W : World} {held : Bool} {b0 : Nat} {v : Value} {d : DataW H} {ps : List MemPlace} (hv : Value.okWide Tryz.prog W .any b0 27 v)
    (h : DataW.Trod enc Tryz.prog W 0 (fun _ => true) held 27 v d ps) : ∃ (x : History) (v1 v2 : Value), v = .agg #[.int .i64 x.base.next, v1, v2] ∧ SliceK messageD W v1 x.base.messages ∧ SliceK eventD W v2 x.events ∧ okHistory x := by
  obtain ⟨cs, rfl, hsz⟩ := okWide_struct Tryz.underlying27 hv
  obtain ⟨fuel, h⟩ := h
  obtain ⟨xs, n, _, _, hlen, hxl, hf⟩ := DataW.trod_struct Tryz.underlying27 h
  have f0 := hf 0 _ rfl
  have f1 := hf 1 _ rfl
  have k3 : Tryz.prog.cellsOf 27 = 3 := by kernel_rfl
  have k2 : Tryz.prog.cellsOf 24 = 2 := by kernel_rfl
  have k1 : Tryz.prog.cellsOf 25 = 1 := by kernel_rfl
  obtain ⟨l⟩ := cs
  simp only [Value.cells] at f0 f1 hlen
  rw [k3] at hlen
  match xs, hxl, l, hlen with
  | [x0, x1], _, [a, b, c], _ =>
    simp [k2, k1] at f0 f1
    obtain ⟨lg, hK, hok⟩ := opens_log H enc W held n _ _ f0
    obtain ⟨u1, hu, hS⟩ := log_K hK
    simp only [List.cons.injEq, and_true] at hu
    obtain ⟨rfl, rfl⟩ := hu
    obtain ⟨es, hE, hke⟩ := opens_slice Tryz.underlying25 (by kernel_rfl) (by decide) opens_event H enc W held n c _ f1
    exact ⟨⟨lg, es⟩, _, _, rfl, hS, hE, hok, hke⟩
end Go.Proofs.YtodmongmaoeknaaGreat
