/- The Go structs of the part Log as Lean structures, and how they lie in cells. The laws' own helpers on the structs of the part Log. A log that comes from without, read as plain data. The Go structs of the part Pres as Lean structures, and how they lie in cells. The laws' own helpers on the structs of the part Pres. Presence from without, read as plain data. -/
import Derived.Test.YtodmongmaoeknaaRGround
import Derived.StillTailTactics
import Derived.Deep.RegionWith
namespace Go.Proofs.Ytodmongmaoeknaa
open Go Go.RowKit
set_option linter.unusedVariables false
set_option linter.unusedSimpArgs false

/-! ### Message -/
structure Message where
  number : Int
  sender : Int
  at_ : Int
  text : ByteArray
  edits : Int
  gone : Bool
  reply : Int
  likes : List Int
  deriving DecidableEq, Inhabited
def messageD : Dt Message := Dt.cat (Dt.flat 7 (fun x : Message => [.int .i64 x.number, .int .i64 x.sender, .int .i64 x.at_, .string x.text, .int .i64 x.edits, .bool x.gone, .int .i64 x.reply]) (fun _ => rfl) (fun x u hu => by simp at hu; rcases hu with rfl | rfl | rfl | rfl | rfl | rfl | rfl <;> rfl)) ((Dt.slice 2 intD).iso (fun x : Message => x.likes))
theorem message_K {w : World} {x : Message} {cs : List Value} (h : messageD.K w x cs) : ∃ v7, cs = [.int .i64 x.number, .int .i64 x.sender, .int .i64 x.at_, .string x.text, .int .i64 x.edits, .bool x.gone, .int .i64 x.reply, v7] ∧ SliceK intD w v7 x.likes := by
  obtain ⟨_, _, rfl, rfl, ⟨v7, rfl, h7⟩⟩ := h
  exact ⟨v7, rfl, h7⟩
theorem message_K_mk {w : World} {x : Message} {v7 : Value} (h7 : SliceK intD w v7 x.likes) : messageD.K w x [.int .i64 x.number, .int .i64 x.sender, .int .i64 x.at_, .string x.text, .int .i64 x.edits, .bool x.gone, .int .i64 x.reply, v7] := by
  exact ⟨_, _, rfl, rfl, ⟨v7, rfl, h7⟩⟩
theorem message_M {w : World} {x : Message} {cs : List Value} {F : List Nat} (h : messageD.M w x cs F) : ∃ v7 F7, cs = [.int .i64 x.number, .int .i64 x.sender, .int .i64 x.at_, .string x.text, .int .i64 x.edits, .bool x.gone, .int .i64 x.reply, v7] ∧ F = F7 ∧ SliceM intD 2 w v7 x.likes F7 := by
  obtain ⟨_, _, _, F7, rfl, rfl, ⟨rfl, rfl⟩, ⟨v7, rfl, h7⟩⟩ := h
  exact ⟨v7, F7, rfl, by simp, h7⟩
theorem message_M_mk {w : World} {x : Message} {v7 : Value} {F7 : List Nat} (h7 : SliceM intD 2 w v7 x.likes F7) : messageD.M w x [.int .i64 x.number, .int .i64 x.sender, .int .i64 x.at_, .string x.text, .int .i64 x.edits, .bool x.gone, .int .i64 x.reply, v7] (F7) := by
  exact ⟨_, _, [], F7, rfl, by simp, ⟨rfl, rfl⟩, ⟨v7, rfl, h7⟩⟩
theorem message_at {w W : World} {b o j : Nat} {xs : List Message} {x : Message} (h : RowAt messageD w b o xs) (hb : Below w.heap.size w W) (hj : xs[j]? = some x) : ∃ v7, SliceK intD W v7 x.likes ∧ b < W.heap.size ∧ W.cell? ⟨b, o + j * 8, none⟩ = some (.int .i64 x.number) ∧ W.cell? ⟨b, o + j * 8 + 1, none⟩ = some (.int .i64 x.sender) ∧ W.cell? ⟨b, o + j * 8 + 2, none⟩ = some (.int .i64 x.at_) ∧ W.cell? ⟨b, o + j * 8 + 3, none⟩ = some (.string x.text) ∧ W.cell? ⟨b, o + j * 8 + 4, none⟩ = some (.int .i64 x.edits) ∧ W.cell? ⟨b, o + j * 8 + 5, none⟩ = some (.bool x.gone) ∧ W.cell? ⟨b, o + j * 8 + 6, none⟩ = some (.int .i64 x.reply) ∧ W.cell? ⟨b, o + j * 8 + 7, none⟩ = some (v7) := by
  obtain ⟨cs, hk, hc⟩ := (h.below hb) j x hj
  obtain ⟨v7, rfl, h7⟩ := message_K hk
  have hc : ∀ i u, ([.int .i64 x.number, .int .i64 x.sender, .int .i64 x.at_, .string x.text, .int .i64 x.edits, .bool x.gone, .int .i64 x.reply, v7] : List Value)[i]? = some u → W.cell? ⟨b, o + j * 8 + i, none⟩ = some u := hc
  exact ⟨v7, h7, World.block_lt_of_cell? W _ (hc 0 _ rfl), hc 0 _ rfl, hc 1 _ rfl, hc 2 _ rfl, hc 3 _ rfl, hc 4 _ rfl, hc 5 _ rfl, hc 6 _ rfl, hc 7 _ rfl⟩

/-! ### Log -/
structure Log where
  next : Int
  messages : List Message
  deriving DecidableEq, Inhabited
def logD : Dt Log := Dt.cat (Dt.flat 1 (fun x : Log => [.int .i64 x.next]) (fun _ => rfl) (fun x u hu => by simp at hu; subst hu; rfl)) ((Dt.slice 66 messageD).iso (fun x : Log => x.messages))
theorem log_K {w : World} {x : Log} {cs : List Value} (h : logD.K w x cs) : ∃ v1, cs = [.int .i64 x.next, v1] ∧ SliceK messageD w v1 x.messages := by
  obtain ⟨_, _, rfl, rfl, ⟨v1, rfl, h1⟩⟩ := h
  exact ⟨v1, rfl, h1⟩
theorem log_K_mk {w : World} {x : Log} {v1 : Value} (h1 : SliceK messageD w v1 x.messages) : logD.K w x [.int .i64 x.next, v1] := by
  exact ⟨_, _, rfl, rfl, ⟨v1, rfl, h1⟩⟩
theorem log_M {w : World} {x : Log} {cs : List Value} {F : List Nat} (h : logD.M w x cs F) : ∃ v1 F1, cs = [.int .i64 x.next, v1] ∧ F = F1 ∧ SliceM messageD 66 w v1 x.messages F1 := by
  obtain ⟨_, _, _, F1, rfl, rfl, ⟨rfl, rfl⟩, ⟨v1, rfl, h1⟩⟩ := h
  exact ⟨v1, F1, rfl, by simp, h1⟩
theorem log_M_mk {w : World} {x : Log} {v1 : Value} {F1 : List Nat} (h1 : SliceM messageD 66 w v1 x.messages F1) : logD.M w x [.int .i64 x.next, v1] (F1) := by
  exact ⟨_, _, [], F1, rfl, by simp, ⟨rfl, rfl⟩, ⟨v1, rfl, h1⟩⟩
theorem log_at {w W : World} {b o j : Nat} {xs : List Log} {x : Log} (h : RowAt logD w b o xs) (hb : Below w.heap.size w W) (hj : xs[j]? = some x) : ∃ v1, SliceK messageD W v1 x.messages ∧ b < W.heap.size ∧ W.cell? ⟨b, o + j * 2, none⟩ = some (.int .i64 x.next) ∧ W.cell? ⟨b, o + j * 2 + 1, none⟩ = some (v1) := by
  obtain ⟨cs, hk, hc⟩ := (h.below hb) j x hj
  obtain ⟨v1, rfl, h1⟩ := log_K hk
  have hc : ∀ i u, ([.int .i64 x.next, v1] : List Value)[i]? = some u → W.cell? ⟨b, o + j * 2 + i, none⟩ = some u := hc
  exact ⟨v1, h1, World.block_lt_of_cell? W _ (hc 0 _ rfl), hc 0 _ rfl, hc 1 _ rfl⟩
end Go.Proofs.Ytodmongmaoeknaa
namespace Go.Proofs.Ytodmongmaoeknaa
open Go Go.RowKit
set_option linter.unusedVariables false
set_option linter.unusedSimpArgs false

/-! ### Message -/
def sizeMessage (x : Message) : Nat := x.text.size + x.likes.length
/-- Its strings are no longer than a machine holds. -/
def okMessage (x : Message) : Prop := x.text.size ≤ 9223372036854775807
def fewMessage (x : Message) : Prop := x.likes.length ≤ 1048576
def eqMessageB (a b : Message) : Bool := !(a.number != b.number) && !(a.sender != b.sender) && !(a.at_ != b.at_) && !(!(a.text.toList == b.text.toList)) && !(a.edits != b.edits) && !(!(a.gone == b.gone)) && !(a.reply != b.reply) && !(!(decide (a.likes = b.likes)))
theorem eqMessageB_iff (a b : Message) : eqMessageB a b = true ↔ a = b := by
  cases a; cases b
  simp [eqMessageB, bytes_eq, and_assoc]
theorem eqMessageB_eq (a b : Message) : eqMessageB a b = decide (a = b) := by
  rw [Bool.eq_iff_iff, eqMessageB_iff, decide_eq_true_iff]
set_option maxHeartbeats 2000000 in
theorem eqMessage_c (x y : Message) (v7 u7 : Value) (w : World) (h7 : SliceK intD w v7 x.likes) (g7 : SliceK intD w u7 y.likes) :
    Calls Try.prog 53 #[.agg #[.int .i64 x.number, .int .i64 x.sender, .int .i64 x.at_, .string x.text, .int .i64 x.edits, .bool x.gone, .int .i64 x.reply, v7], .agg #[.int .i64 y.number, .int .i64 y.sender, .int .i64 y.at_, .string y.text, .int .i64 y.edits, .bool y.gone, .int .i64 y.reply, u7]] w fun e w' => e = .returned (.bool (eqMessageB x y)) ∧ Below w.heap.size w w' := by
  have H7 := hide h7
  have G7 := hide g7
  clear h7 g7
  have HB := hide (((Below.refl w.heap.size w).alloc (Nat.le_refl _) (.cells #[.int .i64 x.number, .int .i64 x.sender, .int .i64 x.at_, .string x.text, .int .i64 x.edits, .bool x.gone, .int .i64 x.reply, v7] 66)).alloc (by simp) (.cells #[.int .i64 y.number, .int .i64 y.sender, .int .i64 y.at_, .string y.text, .int .i64 y.edits, .bool y.gone, .int .i64 y.reply, u7] 66))
  go_enter Try.func53, Try.ntmps53
  go_wp2_with (first | (go_at_call 10; ((with_reducible refine (eqInt64S_c _ _ _ _ _ (H7.out.below HB.out) (G7.out.below HB.out)).mono ?_); rintro e w1 ⟨rfl, hb1⟩; have HN := hide (HB.out.trans (hb1.mono HB.out.size)); obtain ⟨hc, hf, hs⟩ := bcell hb1; have hz : w.heap.size + 1 < w1.heap.size := (by ((try simp only [World.size_alloc] at hs); omega)); have hy : w.heap.size < w1.heap.size := (by omega); clear hs hb1 HB; have HB := HN; clear HN)))
  all_goals
    go_ret
    refine ⟨?_, HB.out⟩
    first
    | (rw [show eqMessageB x y = false from by simp only [eqMessageB, decide_true, decide_false, Bool.not_true, Bool.not_false, Bool.and_false, Bool.false_and, Bool.and_true, Bool.true_and, *]]; rfl)
    | (rw [show eqMessageB x y = true from by simp only [eqMessageB, decide_true, decide_false, Bool.not_true, Bool.not_false, Bool.and_false, Bool.false_and, Bool.and_true, Bool.true_and, *]]; rfl)
set_option maxHeartbeats 2000000 in
set_option maxRecDepth 100000 in
theorem eqMessageS_c (va vb : Value) (a b : List Message) (w : World) (ha : SliceK messageD w va a) (hb : SliceK messageD w vb b) :
    Calls Try.prog 35 #[va, vb] w fun e w' => e = .returned (.bool (decide (a = b))) ∧ Below w.heap.size w w' := by
  obtain ⟨A, c, rfl, hl1, hm1, hra⟩ := ha
  obtain ⟨B, c', rfl, hl2, hm2, hrb⟩ := hb
  by_cases hlen : a.length = b.length
  · have hne : (((a.length : Nat) : Int) != ((b.length : Nat) : Int)) = false := by simp [hlen]
    have HL := hide hlen
    have HA := hide hra
    have HB := hide hrb
    clear hlen hra hrb
    go_enter Try.func35, Try.ntmps35
    go_wp2
    go_loopg [5] a.length (fun gg s5 wr => ∃ k : Nat, k ≤ a.length ∧ a.length - k ≤ gg ∧ s5 = .int .i64 k ∧ Hid (a.take k = b.take k) ∧ Hid (Below w.heap.size w wr))
    case atStart => exact ⟨0, Nat.zero_le _, by omega, rfl, rfl, Below.refl _ _⟩
    case round =>
      obtain ⟨k, hk, hg, rfl, HT, HW⟩ := hrel
      by_cases hlt : k < a.length
      · obtain ⟨x, hx⟩ : ∃ x, a[k]? = some x := ⟨_, List.getElem?_eq_getElem hlt⟩
        obtain ⟨y, hy⟩ : ∃ y, b[k]? = some y := ⟨_, List.getElem?_eq_getElem (by have := HL.out; omega)⟩
        have hkb : k < b.length := by have := HL.out; omega
        rcases HA.out with rfl | ⟨p, o, rfl, hra⟩
        · simp at hlt
        rcases HB.out with rfl | ⟨p', o', rfl, hrb⟩
        · simp at hkb
        obtain ⟨v7, h7, p, hc0, hc1, hc2, hc3, hc4, hc5, hc6, hc7⟩ := message_at hra HW.out hx
        obtain ⟨u7, g7, p', gc0, gc1, gc2, gc3, gc4, gc5, gc6, gc7⟩ := message_at hrb HW.out hy
        have HX := hide hx
        have HY := hide hy
        have H7 := hide h7
        have G7 := hide g7
        clear hx hy hra hrb HA HB h7 g7
        go_wp2
        go_still_tail 8, (by kernel_rfl)
        change wpList _ _ _ _ _ wr.drew
        go_wp2_with (go_at_call 53; refine (eqMessage_c x y v7 u7 _ (H7.out.below ((Below.refl _ _).drew)) (G7.out.below ((Below.refl _ _).drew))).mono ?_; rintro e w1 ⟨rfl, hb1⟩; have H1 := hide (HW.out.drew.trans (hb1.mono (by simpa using HW.out.size))); clear hb1)
        · have hq : ¬ x = y := fun e => by rw [(eqMessageB_iff x y).2 e] at *; contradiction
          go_ret
          exact ⟨by rw [eqAll_pre HT.out HX.out HY.out hq]; rfl, H1.out⟩
        · have hq : eqMessageB x y = true := by simpa using ‹(!eqMessageB x y) = false›
          have HQ := hide ((eqMessageB_iff x y).1 hq)
          clear hq
          go_roundg (a.length - (k + 1))
          case measure => omega
          case rel => exact ⟨k + 1, by omega, by omega, by go_num, hide (by rw [List.take_add_one, List.take_add_one, HX.out, HY.out, HT.out, HQ.out]), H1⟩
      · have : k = a.length := by omega
        subst this
        go_wp2
        go_ret
        exact ⟨by rw [show decide (a = b) = true from by rw [decide_eq_true_iff]; have := HT.out; rw [List.take_length] at this; rw [this, HL.out, List.take_length]]; rfl, HW.out⟩
  · have hne : (((a.length : Nat) : Int) != ((b.length : Nat) : Int)) = true := by simp; omega
    have he : decide (a = b) = false := decide_eq_false (by rintro rfl; exact hlen rfl)
    have HE := hide he
    clear he hlen hra hrb
    go_enter Try.func35, Try.ntmps35
    go_wp2
    go_ret
    exact ⟨by rw [HE.out]; rfl, Below.refl _ _⟩
set_option maxHeartbeats 2000000 in
theorem toMessage_c (x : Message) (v7 : Value) (w : World) (h7 : SliceK intD w v7 x.likes) (hw : fewMessage x) :
    Calls Try.prog 46 #[.agg #[.int .i64 x.number, .int .i64 x.sender, .int .i64 x.at_, .string x.text, .int .i64 x.edits, .bool x.gone, .int .i64 x.reply, v7]] w (RetElem messageD w x) := by
  have n7 : _ ≤ 1048576 := hw
  have H7 := hide h7
  clear h7
  go_enter Try.func46, Try.ntmps46
  go_wp2_with fail
  refine (toInt64S_c _ x.likes _ (H7.out.below ?hb0) n7).mono ?_
  case hb0 => exact ((((Below.refl _ _).alloc (Nat.le_refl _) _).alloc (by simp) _).alloc (by simp; omega) _)
  rintro e w1 ⟨v, rfl, hM, hb1⟩
  obtain ⟨A7, c7, rfl⟩ := hM.shape
  have HM0 := hide hM
  have HS0 := hide hb1
  have HB0 := hide (((((Below.refl _ _).alloc (Nat.le_refl _) _).alloc (by simp) _).alloc (by simp; omega) _).trans (hb1.mono (by simp; omega)) : Below w.heap.size w w1)
  obtain ⟨hc0, hf0, hs0⟩ := bcell hb1
  simp only [World.size_alloc, World.size_setCell] at hs0
  have hz0 : w.heap.size + 1 + 1 < w1.heap.size := by omega
  have hy0 : w.heap.size < w1.heap.size := by omega
  have hle0 : w.heap.size ≤ w1.heap.size := by omega
  have hx0 : w.heap.size + 1 < w1.heap.size := by omega
  clear hM hb1 hs0
  go_wp2_with fail
  have HZ : Hid (∀ wz, Chg [w.heap.size + 1, w.heap.size + 1 + 1] w1 wz → RetElem messageD w x (.returned (.agg #[.int .i64 x.number, .int .i64 x.sender, .int .i64 x.at_, .string x.text, .int .i64 x.edits, .bool x.gone, .int .i64 x.reply, .slice A7 x.likes.length c7])) wz) := by
    intro wz hch
    have c0_ : Chg [w.heap.size + 1, w.heap.size + 1 + 1] w1 wz := hch
    obtain ⟨F7, hm7, hn7, hF7⟩ := HM0.out
    have hl7 := hm7.lt
    have m7 := hm7.move fun b hb => c0_.block b (hl7 b hb) (by intro hg; have := hF7 b hb; simp at this hg; omega)
    refine ⟨_, F7, rfl, message_M_mk m7, hn7, ?_, ?_⟩
    · intro b hb; have := hF7 b hb; simp at this; omega
    · exact HB0.out.trans (hch.below (by omega) (by intro k hk; simp at hk; omega))
  refine bodyPost_ret (v := .agg #[.int .i64 x.number, .int .i64 x.sender, .int .i64 x.at_, .string x.text, .int .i64 x.edits, .bool x.gone, .int .i64 x.reply, .slice A7 x.likes.length c7]) (by simp [results, Try.results46, go_sem, hc0, hz0, hy0, hx0]) rfl (HZ.out _ ?_)
  repeat (with_reducible refine Chg.setCell ?_ (.inl (by simp)) _)
  exact Chg.refl _ _
theorem infoMessage : (Try.prog.info? 66).map (fun i => (i.zero, i.size, i.bytes)) = some (some (.agg #[(.int .i64 0), (.int .i64 0), (.int .i64 0), (.string ⟨#[]⟩), (.int .i64 0), (.bool false), (.int .i64 0), (.slice none 0 0)]), 8, 88) := by kernel_rfl
set_option maxHeartbeats 2000000 in
set_option maxRecDepth 100000 in
theorem toMessageS_c (v : Value) (a : List Message) (w : World) (ha : SliceK messageD w v a) (hn : a.length ≤ 1048576) (hw : ∀ x ∈ a, fewMessage x) :
    Calls Try.prog 26 #[v] w (RetMade messageD 66 w a) := by
  obtain ⟨A, c, rfl, hl1, hm1, hra⟩ := ha
  have HA := hide hra
  have HWH := hide hw
  clear hw
  have hmk := run_mk (P := Try.prog) 39 66 (.agg #[(.int .i64 0), (.int .i64 0), (.int .i64 0), (.string ⟨#[]⟩), (.int .i64 0), (.bool false), (.int .i64 0), (.slice none 0 0)]) 8 88 Try.underlying39 infoMessage a.length (by omega) (by omega)
  clear hra
  go_enter Try.func26, Try.ntmps26
  go_wp2_with fail
  obtain ⟨B, hB⟩ : ∃ B, B = w.heap.size := ⟨_, rfl⟩
  have HBs := hide hB
  rw [← hB]
  have H0 : ∃ cur css Fs, Row messageD 66 (w.alloc (Obj.cells (mkRow (.agg #[(.int .i64 0), (.int .i64 0), (.int .i64 0), (.string ⟨#[]⟩), (.int .i64 0), (.bool false), (.int .i64 0), (.slice none 0 0)]) (a.length * 8)) 66)) B a.length cur css Fs (a.take 0) ∧ (B :: Fs.flatten).Nodup ∧ (∀ q ∈ B :: Fs.flatten, w.heap.size ≤ q) :=
    ⟨_, [], [], by rw [hB]; exact Row.start (d := messageD) (by omega), by simp, by intro q hq; simp at hq; omega⟩
  have H0 := hide H0
  clear hB
  go_loopg [4] a.length (fun gg s4 wr => ∃ k : Nat, k ≤ a.length ∧ a.length - k ≤ gg ∧ s4 = .int .i64 k ∧ Hid (∃ cur css Fs, Row messageD 66 wr B a.length cur css Fs (a.take k) ∧ (B :: Fs.flatten).Nodup ∧ (∀ q ∈ B :: Fs.flatten, w.heap.size ≤ q)) ∧ Hid (Below w.heap.size w wr))
  case atStart => exact ⟨0, Nat.zero_le _, by omega, rfl, H0, (Below.refl _ _).alloc (Nat.le_refl _) _⟩
  case round =>
    obtain ⟨k, hk, hg, rfl, HR, HW⟩ := hrel
    clear H0 hmk
    by_cases hlt : k < a.length
    · obtain ⟨x, hx⟩ : ∃ x, a[k]? = some x := ⟨_, List.getElem?_eq_getElem hlt⟩
      rcases HA.out with rfl | ⟨p, o, rfl, hra⟩
      · simp at hlt
      obtain ⟨v7, h7, p, hc0, hc1, hc2, hc3, hc4, hc5, hc6, hc7⟩ := message_at hra HW.out hx
      have hfew := hide (HWH.out x (List.mem_of_getElem? hx))
      have H7 := hide h7
      have HX := hide hx
      clear hx hra HA h7
      go_wp2_with fail
      refine (toMessage_c x _ _ (H7.out) hfew.out).mono ?_
      rintro e w1 ⟨cs, G, rfl, hm, hnd, hG, hb1⟩
      obtain ⟨cur, css, Fs, hrow, hnF, hgF⟩ := HR.out
      have HM := hide hm
      obtain ⟨t7, G7, rfl, hGe, g7⟩ := message_M hm
      obtain ⟨A7, c7, rfl⟩ := g7.toK.shape
      clear g7
      have hsz : cur.size = a.length * 8 := hrow.size
      have hlB : B < wr.heap.size := block_lt hrow.blk
      have hblk1 : w1.heap[B]? = some (.cells cur 66 (0, 0)) := (hb1.block B hlB).trans hrow.blk
      have hfz : ∀ o, w1.frozen? ⟨B, o, none⟩ = false := fun o => frozen_block hblk1
      have hlB1 : B < w1.heap.size := block_lt hblk1
      obtain ⟨z0, hz0⟩ : ∃ z, w1.cell? ⟨B, k * 8, none⟩ = some z := ⟨cur[k * 8]'(by omega), by rw [cell_block hblk1]; exact Array.getElem?_eq_getElem (by omega)⟩
      obtain ⟨z1, hz1⟩ : ∃ z, w1.cell? ⟨B, k * 8 + 1, none⟩ = some z := ⟨cur[k * 8 + 1]'(by omega), by rw [cell_block hblk1]; exact Array.getElem?_eq_getElem (by omega)⟩
      obtain ⟨z2, hz2⟩ : ∃ z, w1.cell? ⟨B, k * 8 + 2, none⟩ = some z := ⟨cur[k * 8 + 2]'(by omega), by rw [cell_block hblk1]; exact Array.getElem?_eq_getElem (by omega)⟩
      obtain ⟨z3, hz3⟩ : ∃ z, w1.cell? ⟨B, k * 8 + 3, none⟩ = some z := ⟨cur[k * 8 + 3]'(by omega), by rw [cell_block hblk1]; exact Array.getElem?_eq_getElem (by omega)⟩
      obtain ⟨z4, hz4⟩ : ∃ z, w1.cell? ⟨B, k * 8 + 4, none⟩ = some z := ⟨cur[k * 8 + 4]'(by omega), by rw [cell_block hblk1]; exact Array.getElem?_eq_getElem (by omega)⟩
      obtain ⟨z5, hz5⟩ : ∃ z, w1.cell? ⟨B, k * 8 + 5, none⟩ = some z := ⟨cur[k * 8 + 5]'(by omega), by rw [cell_block hblk1]; exact Array.getElem?_eq_getElem (by omega)⟩
      obtain ⟨z6, hz6⟩ : ∃ z, w1.cell? ⟨B, k * 8 + 6, none⟩ = some z := ⟨cur[k * 8 + 6]'(by omega), by rw [cell_block hblk1]; exact Array.getElem?_eq_getElem (by omega)⟩
      obtain ⟨z7, hz7⟩ : ∃ z, w1.cell? ⟨B, k * 8 + 7, none⟩ = some z := ⟨cur[k * 8 + 7]'(by omega), by rw [cell_block hblk1]; exact Array.getElem?_eq_getElem (by omega)⟩
      have HC := hide (And.intro hrow (And.intro hnF (And.intro hgF (And.intro hnd (And.intro hG (And.intro hb1 hblk1))))))
      have HSZ := hide hsz
      clear HR hrow hnF hgF hnd hG hb1 hblk1 hlB hsz hm hGe
      go_wp2_with fail
      obtain ⟨hrow, hnF, hgF, hnd, hG, hb1, hblk1⟩ := HC.out
      obtain ⟨cur', hcur', hlist'⟩ := putCells_block [.int .i64 x.number, .int .i64 x.sender, .int .i64 x.at_, .string x.text, .int .i64 x.edits, .bool x.gone, .int .i64 x.reply, .slice A7 x.likes.length c7] w1 B (k * 8) hblk1
      have hBl : ∀ q ∈ B :: Fs.flatten, q < wr.heap.size := hrow.lt
      have htl : (a.take k).length = k := by rw [List.length_take]; omega
      go_roundg (a.length - (k + 1))
      case measure => omega
      case rel =>
        refine ⟨k + 1, by omega, by omega, by go_num, hide ⟨cur', css ++ [[.int .i64 x.number, .int .i64 x.sender, .int .i64 x.at_, .string x.text, .int .i64 x.edits, .bool x.gone, .int .i64 x.reply, .slice A7 x.likes.length c7]], Fs ++ [G], ?_, ?_, ?_⟩, hide ?_⟩
        · rw [List.take_add_one, HX.out]
          refine Row.snoc (w' := putCells w1 B (k * 8) [.int .i64 x.number, .int .i64 x.sender, .int .i64 x.at_, .string x.text, .int .i64 x.edits, .bool x.gone, .int .i64 x.reply, .slice A7 x.likes.length c7]) hrow (by omega) (Dt.M_move _ (fun q hq => putCells_other _ _ _ _ ?_) HM.out) hcur' (by rw [htl]; exact hlist') (fun q hq => (putCells_other _ _ _ _ ?_).trans (hb1.block q (hBl q (List.mem_cons_of_mem _ hq))))
          · have := hG q hq; have := hBl B List.mem_cons_self; omega
          · intro e; subst e; exact (List.nodup_cons.1 hnF).1 hq
        · rw [List.flatten_append, List.flatten_singleton, ← List.cons_append]
          exact nodup_app hnF hnd hBl hG
        · intro q hq
          rw [List.flatten_append, List.flatten_singleton, ← List.cons_append, List.mem_append] at hq
          rcases hq with hq | hq
          · exact hgF q hq
          · exact Nat.le_trans HW.out.size (hG q hq)
        · exact putCells_below [.int .i64 x.number, .int .i64 x.sender, .int .i64 x.at_, .string x.text, .int .i64 x.edits, .bool x.gone, .int .i64 x.reply, .slice A7 x.likes.length c7] B (k * 8) (HW.out.trans (hb1.mono HW.out.size)) (hgF B List.mem_cons_self)
    · have : k = a.length := by omega
      subst this
      go_wp2
      go_ret
      obtain ⟨cur, css, Fs, hrow, hnF, hgF⟩ := HR.out
      rw [List.take_length] at hrow
      exact ⟨_, rfl, ⟨_, hrow.M, hnF, hgF⟩, HW.out⟩
set_option maxHeartbeats 2000000 in
theorem szMessage_c (x : Message) (v7 : Value) (left : Int) (w : World) (h7 : SliceK intD w v7 x.likes) (b0 : 0 ≤ left) (b1 : left ≤ 1048576) (hok : okMessage x) :
    Calls Try.prog 39 #[.agg #[.int .i64 x.number, .int .i64 x.sender, .int .i64 x.at_, .string x.text, .int .i64 x.edits, .bool x.gone, .int .i64 x.reply, v7], .int .i64 left] w fun e w' => RetSz left (sizeMessage x) e ∧ Below w.heap.size w w' := by
  have H7 := hide h7
  clear h7
  have HK := hide hok
  unfold okMessage at hok
  have hs3 := hok
  clear hok
  have HB := hide ((Below.refl w.heap.size w).alloc (Nat.le_refl _) (.cells #[.int .i64 x.number, .int .i64 x.sender, .int .i64 x.at_, .string x.text, .int .i64 x.edits, .bool x.gone, .int .i64 x.reply, v7] 76))
  go_enter Try.func39, Try.ntmps39
  go_wp2_with (first | (go_at_call 55; ((with_reducible refine (szInt64S_c _ x.likes _ _ (H7.out.below HB.out) (by omega) (by omega)).mono ?_); rintro e w1 ⟨⟨r7, rfl, hr7⟩, hb1⟩; have hd7 := szR_bd hr7 (by omega); have R7 := hide hr7; have HN := hide (HB.out.trans (hb1.mono HB.out.size)); obtain ⟨hc, hf, hs⟩ := bcell hb1; have hy : w.heap.size < w1.heap.size := (by ((try simp only [World.size_alloc] at hs); omega)); clear hs hb1 HB hr7; have HB := HN; clear HN)))
  all_goals
    go_ret
    refine ⟨⟨_, rfl, ?_⟩, HB.out⟩
    try have e7 := szR_spec R7.out (by omega)
    unfold szR sizeMessage
    split <;> omega
set_option maxHeartbeats 2000000 in
theorem szMessageS_c (v : Value) (a : List Message) (left : Int) (w : World) (ha : SliceK messageD w v a) (h0 : 0 ≤ left) (h1 : left ≤ 1048576) (hok : ∀ x ∈ a, okMessage x) :
    Calls Try.prog 19 #[v, .int .i64 left] w fun e w' => RetSz left (a.length + sizeAll sizeMessage a) e ∧ Below w.heap.size w w' := by
  obtain ⟨A, c, rfl, hl1, hm1, hra⟩ := ha
  have HA := hide hra
  have HOK := hide hok
  clear hok
  clear hra
  by_cases h : (a.length : Int) ≤ left
  · have h2 : ¬ (left - (a.length : Int) < 0) := by omega
    go_enter Try.func19, Try.ntmps19
    go_wp2
    go_loopg [1, 5] a.length (fun gg s1 s5 wr => ∃ (k : Nat) (q : Int), k ≤ a.length ∧ a.length - k ≤ gg ∧ s1 = .int .i64 q ∧ s5 = .int .i64 k ∧ 0 ≤ q ∧ q ≤ 1048576 ∧ Hid (q = left - a.length - sizeAll sizeMessage (a.take k)) ∧ Hid (Below w.heap.size w wr))
    case atStart => exact ⟨0, left - a.length, Nat.zero_le _, by omega, rfl, rfl, by omega, by omega, hide (by simp [sizeAll]), Below.refl _ _⟩
    case round =>
      obtain ⟨k, q, hk, hg, rfl, rfl, hq0, hq1, HQ, HW⟩ := hrel
      by_cases hlt : k < a.length
      · obtain ⟨x, hx⟩ : ∃ x, a[k]? = some x := ⟨_, List.getElem?_eq_getElem hlt⟩
        rcases HA.out with rfl | ⟨p, o, rfl, hra⟩
        · simp at hlt
        obtain ⟨v7, h7, p, hc0, hc1, hc2, hc3, hc4, hc5, hc6, hc7⟩ := message_at hra HW.out hx
        have HX := hide hx
        have hokx := hide (HOK.out x (List.mem_of_getElem? hx))
        have H7 := hide h7
        clear hx hra HA h7
        go_wp2_with fail
        refine (szMessage_c x _ q _ H7.out hq0 hq1 hokx.out).mono ?_
        rintro e w1 ⟨⟨r, rfl, hr⟩, hb1⟩
        have hd := szR_bd hr hq0
        have R := hide hr
        have H1 := hide (HW.out.trans (hb1.mono HW.out.size))
        clear hr hb1
        go_wp2_with fail
        · have hT := sizeAll_take sizeMessage a k x HX.out
          have hL := sizeAll_le sizeMessage a (k + 1)
          have hsp := szR_spec R.out hq0
          have := HQ.out
          go_ret
          exact ⟨⟨_, rfl, by unfold szR; rw [if_neg (by omega)]⟩, H1.out⟩
        · have hT := sizeAll_take sizeMessage a k x HX.out
          have hsp := szR_spec R.out hq0
          have := HQ.out
          have hrq : r = q - sizeMessage x := by omega
          go_roundg (a.length - (k + 1))
          case measure => omega
          case rel => exact ⟨k + 1, r, by omega, by omega, rfl, by go_num, by omega, by omega, hide (by rw [hT]; omega), H1⟩
      · have : k = a.length := by omega
        subst this
        go_wp2
        go_ret
        have := HQ.out
        rw [List.take_length] at this
        exact ⟨⟨_, rfl, by unfold szR; rw [if_pos (by omega)]; omega⟩, HW.out⟩
  · have hr := hide (show -1 = szR left (a.length + sizeAll sizeMessage a) from (if_neg (by omega)).symm)
    have h2 : (left - (a.length : Int) < 0) := by omega
    go_enter Try.func19, Try.ntmps19
    go_wp2
    go_ret
    exact ⟨⟨_, rfl, hr.out⟩, Below.refl _ _⟩
def cntMessage (x : Message) : Nat := 7 + x.likes.length
def mkMessage (k : Int) (x : Message) : Message := { number := (k), sender := (k + 1), at_ := (k + 1 + 1), text := markT (k + 1 + 1 + 1), edits := (k + 1 + 1 + 1 + 1), gone := ((k + 1 + 1 + 1 + 1 + 1) % 3 == 0), reply := (k + 1 + 1 + 1 + 1 + 1 + 1), likes := marks (k + 1 + 1 + 1 + 1 + 1 + 1 + 1) x.likes.length }
theorem cntMessage_mk (k : Int) (x : Message) : cntMessage (mkMessage k x) = cntMessage x := by simp [cntMessage, mkMessage, marks_len, marks_len]
theorem mkMessage_mk (k : Int) (x : Message) : mkMessage k (mkMessage k x) = mkMessage k x := by simp [mkMessage, marks_len, marks_len]
def heldMessageB (k : Int) (x : Message) : Bool := !(x.number != k) && !(x.sender != k + 1) && !(x.at_ != k + 1 + 1) && !(!(x.text.toList == (markT (k + 1 + 1 + 1)).toList)) && !(x.edits != k + 1 + 1 + 1 + 1) && !(!(x.gone == ((k + 1 + 1 + 1 + 1 + 1) % 3 == 0))) && !(x.reply != k + 1 + 1 + 1 + 1 + 1 + 1) && !(decide (heldI (k + 1 + 1 + 1 + 1 + 1 + 1 + 1) x.likes < 0))
theorem heldMessageB_iff {k : Int} (h : 0 ≤ k) (x : Message) : heldMessageB k x = true ↔ x = mkMessage k x := by
  cases x
  simp only [heldMessageB, mkMessage, Message.mk.injEq, bytes_eq, Bool.and_eq_true, Bool.not_eq_true', bne_eq_false_iff_eq, Bool.not_eq_false', beq_iff_eq, decide_eq_false_iff_not, and_assoc]
  rw [heldI_nn (by omega)]
  simp only [Decidable.not_not]
set_option maxHeartbeats 4000000 in
set_option maxRecDepth 100000 in
theorem markMessageS_c (v : Value) (xs : List Message) (F : List Nat) (k : Int) (w : World) (h : SliceM messageD 66 w v xs F) (hn : F.Nodup) (h0 : 0 ≤ k) (h1 : k + cntAll cntMessage xs ≤ 1000000000000) :
    Calls Try.prog 38 #[v, .int .i64 k] w (RetMarkA messageD 66 cntMessage mkMessage w v xs F k) := by
  rcases h.row with ⟨rfl, rfl, rfl⟩ | ⟨B, cap, cur, css, Fs, rfl, hrow, rfl⟩
  · go_enter Try.func38, Try.ntmps38
    go_wp2
    go_loopg [1, 5] 0 (fun gg s1 s5 wr => s1 = .int .i64 k ∧ s5 = .int .i64 0 ∧ w = wr)
    case atStart => exact ⟨rfl, rfl, rfl⟩
    case round =>
      obtain ⟨rfl, rfl, rfl⟩ := hrel
      go_wp2
      go_ret
      exact ⟨by simp [cntAll], .inl ⟨rfl, rfl, rfl⟩, Chg.refl _ _⟩
  · have H0 := hide (show ∃ cur css, Row messageD 66 w B cap cur css Fs (mixed cntMessage mkMessage k xs 0) from ⟨cur, css, by rw [mixed_zero]; exact hrow⟩)
    have HN := hide hn
    have hlen := hrow.le
    have hmax := hrow.max
    clear h hrow hn
    go_enter Try.func38, Try.ntmps38
    go_wp2
    go_loopg [1, 5] xs.length (fun gg s1 s5 wr => ∃ (i : Nat) (q : Int), i ≤ xs.length ∧ xs.length - i ≤ gg ∧ s1 = .int .i64 q ∧ s5 = .int .i64 i ∧ 0 ≤ q ∧ Hid (q = k + cntAll cntMessage (xs.take i)) ∧
      Hid (∃ cur css, Row messageD 66 wr B cap cur css Fs (mixed cntMessage mkMessage k xs i)) ∧ Hid (Chg (B :: Fs.flatten) w wr))
    case atStart => exact ⟨0, k, Nat.zero_le _, by omega, rfl, rfl, h0, hide (by simp [cntAll]), H0, Chg.refl _ _⟩
    case round =>
      obtain ⟨i, q, hi, hg, rfl, rfl, hq0, HQ, HR, HW⟩ := hrel
      clear H0
      by_cases hlt : i < xs.length
      · obtain ⟨x, hx⟩ : ∃ x, xs[i]? = some x := ⟨_, List.getElem?_eq_getElem hlt⟩
        obtain ⟨cur, css, hrow⟩ := HR.out
        obtain ⟨cs, G, hE⟩ := RowE.ofRow hrow (mixed_get (cnt := cntMessage) (mk := mkMessage) k xs i hx)
        have hcT := cntAll_take (cnt := cntMessage) xs i x hx
        have hcL := cntAll_le (cnt := cntMessage) xs (i + 1)
        have hq1 : q + cntMessage x ≤ 1000000000000 := by have := HQ.out; omega
        have hq2 : q + (7 + x.likes.length : Nat) ≤ 1000000000000 := hq1
        have HT := hide hcT
        have HX := hide hx
        have hlB := hE.blt
        have hfz := hE.frozen
        have hcell := hE.cell
        obtain ⟨v7, G7, rfl, hGe, g7⟩ := message_M hE.M
        have hc0 : wr.cell? ⟨B, i * 8, none⟩ = some (.int .i64 x.number) := hcell 0 _ rfl
        have hc1 : wr.cell? ⟨B, i * 8 + 1, none⟩ = some (.int .i64 x.sender) := hcell 1 _ rfl
        have hc2 : wr.cell? ⟨B, i * 8 + 2, none⟩ = some (.int .i64 x.at_) := hcell 2 _ rfl
        have hc3 : wr.cell? ⟨B, i * 8 + 3, none⟩ = some (.string x.text) := hcell 3 _ rfl
        have hc4 : wr.cell? ⟨B, i * 8 + 4, none⟩ = some (.int .i64 x.edits) := hcell 4 _ rfl
        have hc5 : wr.cell? ⟨B, i * 8 + 5, none⟩ = some (.bool x.gone) := hcell 5 _ rfl
        have hc6 : wr.cell? ⟨B, i * 8 + 6, none⟩ = some (.int .i64 x.reply) := hcell 6 _ rfl
        have hc7 : wr.cell? ⟨B, i * 8 + 7, none⟩ = some (v7) := hcell 7 _ rfl
        have E0 := hide hE
        clear HR hcell hcT hcL hx hrow hE hq1 hGe g7
        have E1 := hide (E0.out.put HN.out 0 (.int .i64 (q)) ({ x with number := (q) }) (by decide) (fun hm => by obtain ⟨t7, J7, hl, hF, j7⟩ := message_M hm; simp at hl; obtain rfl := hl; rw [hF]; exact message_M_mk (x := { x with number := (q) }) j7))
        have E2 := hide (E1.out.put HN.out 1 (.int .i64 (q + 1)) ({ x with number := (q), sender := (q + 1) }) (by decide) (fun hm => by obtain ⟨t7, J7, hl, hF, j7⟩ := message_M hm; simp at hl; obtain rfl := hl; rw [hF]; exact message_M_mk (x := { x with number := (q), sender := (q + 1) }) j7))
        have E3 := hide (E2.out.put HN.out 2 (.int .i64 (q + 1 + 1)) ({ x with number := (q), sender := (q + 1), at_ := (q + 1 + 1) }) (by decide) (fun hm => by obtain ⟨t7, J7, hl, hF, j7⟩ := message_M hm; simp at hl; obtain rfl := hl; rw [hF]; exact message_M_mk (x := { x with number := (q), sender := (q + 1), at_ := (q + 1 + 1) }) j7))
        go_wp2_with fail
        refine (markText_c _ _ (by omega) (by omega)).mono ?_
        rintro e w1 ⟨rfl, hb⟩
        have hss := hb.size
        (try simp only [World.size_setCell] at hss)
        have hlB1 : B < w1.heap.size := by omega
        have hle1 : wr.heap.size ≤ w1.heap.size := by omega
        have E4 := hide (E3.out.below hb)
        have hfz1 := E4.out.frozen
        have hcell := E4.out.cell
        have hcc1_0 : w1.cell? ⟨B, i * 8, none⟩ = some _ := hcell 0 _ rfl
        have hcc1_1 : w1.cell? ⟨B, i * 8 + 1, none⟩ = some _ := hcell 1 _ rfl
        have hcc1_2 : w1.cell? ⟨B, i * 8 + 2, none⟩ = some _ := hcell 2 _ rfl
        have hcc1_3 : w1.cell? ⟨B, i * 8 + 3, none⟩ = some _ := hcell 3 _ rfl
        have hcc1_4 : w1.cell? ⟨B, i * 8 + 4, none⟩ = some _ := hcell 4 _ rfl
        have hcc1_5 : w1.cell? ⟨B, i * 8 + 5, none⟩ = some _ := hcell 5 _ rfl
        have hcc1_6 : w1.cell? ⟨B, i * 8 + 6, none⟩ = some _ := hcell 6 _ rfl
        have hcc1_7 : w1.cell? ⟨B, i * 8 + 7, none⟩ = some _ := hcell 7 _ rfl
        have HS1 := hide hb
        clear hb hss hcell
        have E5 := hide (E4.out.put HN.out 3 (.string (markT (q + 1 + 1 + 1))) ({ x with number := (q), sender := (q + 1), at_ := (q + 1 + 1), text := markT (q + 1 + 1 + 1) }) (by decide) (fun hm => by obtain ⟨t7, J7, hl, hF, j7⟩ := message_M hm; simp at hl; obtain rfl := hl; rw [hF]; exact message_M_mk (x := { x with number := (q), sender := (q + 1), at_ := (q + 1 + 1), text := markT (q + 1 + 1 + 1) }) j7))
        have E6 := hide (E5.out.put HN.out 4 (.int .i64 (q + 1 + 1 + 1 + 1)) ({ x with number := (q), sender := (q + 1), at_ := (q + 1 + 1), text := markT (q + 1 + 1 + 1), edits := (q + 1 + 1 + 1 + 1) }) (by decide) (fun hm => by obtain ⟨t7, J7, hl, hF, j7⟩ := message_M hm; simp at hl; obtain rfl := hl; rw [hF]; exact message_M_mk (x := { x with number := (q), sender := (q + 1), at_ := (q + 1 + 1), text := markT (q + 1 + 1 + 1), edits := (q + 1 + 1 + 1 + 1) }) j7))
        have E7 := hide (E6.out.put HN.out 5 (.bool ((q + 1 + 1 + 1 + 1 + 1) % 3 == 0)) ({ x with number := (q), sender := (q + 1), at_ := (q + 1 + 1), text := markT (q + 1 + 1 + 1), edits := (q + 1 + 1 + 1 + 1), gone := ((q + 1 + 1 + 1 + 1 + 1) % 3 == 0) }) (by decide) (fun hm => by obtain ⟨t7, J7, hl, hF, j7⟩ := message_M hm; simp at hl; obtain rfl := hl; rw [hF]; exact message_M_mk (x := { x with number := (q), sender := (q + 1), at_ := (q + 1 + 1), text := markT (q + 1 + 1 + 1), edits := (q + 1 + 1 + 1 + 1), gone := ((q + 1 + 1 + 1 + 1 + 1) % 3 == 0) }) j7))
        have E8 := hide (E7.out.put HN.out 6 (.int .i64 (q + 1 + 1 + 1 + 1 + 1 + 1)) ({ x with number := (q), sender := (q + 1), at_ := (q + 1 + 1), text := markT (q + 1 + 1 + 1), edits := (q + 1 + 1 + 1 + 1), gone := ((q + 1 + 1 + 1 + 1 + 1) % 3 == 0), reply := (q + 1 + 1 + 1 + 1 + 1 + 1) }) (by decide) (fun hm => by obtain ⟨t7, J7, hl, hF, j7⟩ := message_M hm; simp at hl; obtain rfl := hl; rw [hF]; exact message_M_mk (x := { x with number := (q), sender := (q + 1), at_ := (q + 1 + 1), text := markT (q + 1 + 1 + 1), edits := (q + 1 + 1 + 1 + 1), gone := ((q + 1 + 1 + 1 + 1 + 1) % 3 == 0), reply := (q + 1 + 1 + 1 + 1 + 1 + 1) }) j7))
        go_wp2_with fail
        obtain ⟨t7, G7', hl, hGe, g7⟩ := message_M E8.out.M
        simp at hl
        obtain rfl := hl
        have hGn := (E8.out.nodup HN.out).1
        rw [hGe] at hGn
        refine (markInt64S_c _ x.likes _ _ _ g7 (by omega) (by omega)).mono ?_
        rintro e w2 ⟨rfl, hMk, hCk⟩
        have HCk := hide hCk
        rw [← hGe] at hCk
        have E9 := hide (E8.out.inner HN.out ({ x with number := (q), sender := (q + 1), at_ := (q + 1 + 1), text := markT (q + 1 + 1 + 1), edits := (q + 1 + 1 + 1 + 1), gone := ((q + 1 + 1 + 1 + 1 + 1) % 3 == 0), reply := (q + 1 + 1 + 1 + 1 + 1 + 1), likes := marks (q + 1 + 1 + 1 + 1 + 1 + 1 + 1) x.likes.length }) hCk (by rw [hGe]; exact message_M_mk (x := { x with number := (q), sender := (q + 1), at_ := (q + 1 + 1), text := markT (q + 1 + 1 + 1), edits := (q + 1 + 1 + 1 + 1), gone := ((q + 1 + 1 + 1 + 1 + 1) % 3 == 0), reply := (q + 1 + 1 + 1 + 1 + 1 + 1), likes := marks (q + 1 + 1 + 1 + 1 + 1 + 1 + 1) x.likes.length }) hMk))
        have HCg := hide hCk
        clear hMk hCk g7 hGn hGe HCk
        go_wp2_with fail
        obtain ⟨cur', css', hrow'⟩ := E9.out.row
        simp only [List.set_set] at hrow'
        have hmk : { x with number := (q), sender := (q + 1), at_ := (q + 1 + 1), text := markT (q + 1 + 1 + 1), edits := (q + 1 + 1 + 1 + 1), gone := ((q + 1 + 1 + 1 + 1 + 1) % 3 == 0), reply := (q + 1 + 1 + 1 + 1 + 1 + 1), likes := marks (q + 1 + 1 + 1 + 1 + 1 + 1 + 1) x.likes.length } = mkMessage q x := rfl
        have hmx : (mixed cntMessage mkMessage k xs i).set i (mkMessage q x) = mixed cntMessage mkMessage k xs (i + 1) := by rw [HQ.out]; exact mixed_set k xs i HX.out
        rw [hmk, hmx] at hrow'
        go_roundg (xs.length - (i + 1))
        case measure => omega
        case rel =>
          refine ⟨i + 1, q + 1 + 1 + 1 + 1 + 1 + 1 + 1 + x.likes.length, by omega, by omega, rfl, by go_num, by omega, hide (by have h1 := HQ.out; have h2 := HT.out; have h3 : cntMessage x = 7 + x.likes.length := rfl; rw [h2]; omega), hide ⟨cur', css', hrow'⟩, hide ?_⟩
          exact ((((((((((((((((((HW.out).setCell (.inl (by simp)) _)).setCell (.inl (by simp)) _)).setCell (.inl (by simp)) _)).then HS1.out)).setCell (.inl (by simp)) _)).setCell (.inl (by simp)) _)).setCell (.inl (by simp)) _)).setCell (.inl (by simp)) _)).trans (HCg.out.mono (fun b hb => .inl (List.mem_cons_of_mem _ (E9.out.sub b hb)))))
      · have : i = xs.length := by omega
        subst this
        go_wp2
        go_ret
        obtain ⟨cur, css, hrow⟩ := HR.out
        rw [mixed_all] at hrow
        have hq := HQ.out
        rw [List.take_length] at hq
        refine ⟨by rw [← hq]; rfl, ?_, HW.out⟩
        have hS := hrow.M
        rwa [markAll_len] at hS
/-! ### Log -/
def sizeLog (x : Log) : Nat := (x.messages.length + sizeAll sizeMessage x.messages)
/-- Its strings are no longer than a machine holds. -/
def okLog (x : Log) : Prop := (∀ y ∈ x.messages, okMessage y)
def fewLog (x : Log) : Prop := x.messages.length ≤ 1048576 ∧ (∀ y ∈ x.messages, fewMessage y)
def eqLogB (a b : Log) : Bool := !(a.next != b.next) && !(!(decide (a.messages = b.messages)))
theorem eqLogB_iff (a b : Log) : eqLogB a b = true ↔ a = b := by
  cases a; cases b
  simp [eqLogB, bytes_eq, and_assoc]
theorem eqLogB_eq (a b : Log) : eqLogB a b = decide (a = b) := by
  rw [Bool.eq_iff_iff, eqLogB_iff, decide_eq_true_iff]
set_option maxHeartbeats 2000000 in
theorem eqLog_c (x y : Log) (v1 u1 : Value) (w : World) (h1 : SliceK messageD w v1 x.messages) (g1 : SliceK messageD w u1 y.messages) :
    Calls Try.prog 12 #[.agg #[.int .i64 x.next, v1], .agg #[.int .i64 y.next, u1]] w fun e w' => e = .returned (.bool (eqLogB x y)) ∧ Below w.heap.size w w' := by
  have H1 := hide h1
  have G1 := hide g1
  clear h1 g1
  have HB := hide (((Below.refl w.heap.size w).alloc (Nat.le_refl _) (.cells #[.int .i64 x.next, v1] 41)).alloc (by simp) (.cells #[.int .i64 y.next, u1] 41))
  go_enter Try.func12, Try.ntmps12
  go_wp2_with (first | (go_at_call 35; ((with_reducible refine (eqMessageS_c _ _ _ _ _ (H1.out.below HB.out) (G1.out.below HB.out)).mono ?_); rintro e w1 ⟨rfl, hb1⟩; have HN := hide (HB.out.trans (hb1.mono HB.out.size)); obtain ⟨hc, hf, hs⟩ := bcell hb1; have hz : w.heap.size + 1 < w1.heap.size := (by ((try simp only [World.size_alloc] at hs); omega)); have hy : w.heap.size < w1.heap.size := (by omega); clear hs hb1 HB; have HB := HN; clear HN)))
  all_goals
    go_ret
    refine ⟨?_, HB.out⟩
    first
    | (rw [show eqLogB x y = false from by simp only [eqLogB, decide_true, decide_false, Bool.not_true, Bool.not_false, Bool.and_false, Bool.false_and, Bool.and_true, Bool.true_and, *]]; rfl)
    | (rw [show eqLogB x y = true from by simp only [eqLogB, decide_true, decide_false, Bool.not_true, Bool.not_false, Bool.and_false, Bool.false_and, Bool.and_true, Bool.true_and, *]]; rfl)
set_option maxHeartbeats 2000000 in
theorem toLog_c (x : Log) (v1 : Value) (w : World) (h1 : SliceK messageD w v1 x.messages) (hw : fewLog x) :
    Calls Try.prog 8 #[.agg #[.int .i64 x.next, v1]] w (RetElem logD w x) := by
  unfold fewLog at hw
  obtain ⟨n1, k1⟩ := hw
  have W1 := hide k1
  clear k1
  have H1 := hide h1
  clear h1
  go_enter Try.func8, Try.ntmps8
  go_wp2_with fail
  refine (toMessageS_c _ x.messages _ (H1.out.below ?hb0) n1 W1.out).mono ?_
  case hb0 => exact ((((Below.refl _ _).alloc (Nat.le_refl _) _).alloc (by simp) _).alloc (by simp; omega) _)
  rintro e w1 ⟨v, rfl, hM, hb1⟩
  obtain ⟨A1, c1, rfl⟩ := hM.shape
  have HM0 := hide hM
  have HS0 := hide hb1
  have HB0 := hide (((((Below.refl _ _).alloc (Nat.le_refl _) _).alloc (by simp) _).alloc (by simp; omega) _).trans (hb1.mono (by simp; omega)) : Below w.heap.size w w1)
  obtain ⟨hc0, hf0, hs0⟩ := bcell hb1
  simp only [World.size_alloc, World.size_setCell] at hs0
  have hz0 : w.heap.size + 1 + 1 < w1.heap.size := by omega
  have hy0 : w.heap.size < w1.heap.size := by omega
  have hle0 : w.heap.size ≤ w1.heap.size := by omega
  have hx0 : w.heap.size + 1 < w1.heap.size := by omega
  clear hM hb1 hs0
  go_wp2_with fail
  have HZ : Hid (∀ wz, Chg [w.heap.size + 1, w.heap.size + 1 + 1] w1 wz → RetElem logD w x (.returned (.agg #[.int .i64 x.next, .slice A1 x.messages.length c1])) wz) := by
    intro wz hch
    have c0_ : Chg [w.heap.size + 1, w.heap.size + 1 + 1] w1 wz := hch
    obtain ⟨F1, hm1, hn1, hF1⟩ := HM0.out
    have hl1 := hm1.lt
    have m1 := hm1.move fun b hb => c0_.block b (hl1 b hb) (by intro hg; have := hF1 b hb; simp at this hg; omega)
    refine ⟨_, F1, rfl, log_M_mk m1, hn1, ?_, ?_⟩
    · intro b hb; have := hF1 b hb; simp at this; omega
    · exact HB0.out.trans (hch.below (by omega) (by intro k hk; simp at hk; omega))
  refine bodyPost_ret (v := .agg #[.int .i64 x.next, .slice A1 x.messages.length c1]) (by simp [results, Try.results8, go_sem, hc0, hz0, hy0, hx0]) rfl (HZ.out _ ?_)
  repeat (with_reducible refine Chg.setCell ?_ (.inl (by simp)) _)
  exact Chg.refl _ _
set_option maxHeartbeats 2000000 in
theorem szLog_c (x : Log) (v1 : Value) (left : Int) (w : World) (h1 : SliceK messageD w v1 x.messages) (b0 : 0 ≤ left) (b1 : left ≤ 1048576) (hok : okLog x) :
    Calls Try.prog 5 #[.agg #[.int .i64 x.next, v1], .int .i64 left] w fun e w' => RetSz left (sizeLog x) e ∧ Below w.heap.size w w' := by
  have H1 := hide h1
  clear h1
  have HK := hide hok
  unfold okLog at hok
  have ho1 := hok
  have O1 := hide ho1
  clear ho1
  clear hok
  have HB := hide ((Below.refl w.heap.size w).alloc (Nat.le_refl _) (.cells #[.int .i64 x.next, v1] 28))
  go_enter Try.func5, Try.ntmps5
  go_wp2_with (first | (go_at_call 19; ((with_reducible refine (szMessageS_c _ x.messages _ _ (H1.out.below HB.out) (by omega) (by omega) O1.out).mono ?_); rintro e w1 ⟨⟨r1, rfl, hr1⟩, hb1⟩; have hd1 := szR_bd hr1 (by omega); have R1 := hide hr1; have HN := hide (HB.out.trans (hb1.mono HB.out.size)); obtain ⟨hc, hf, hs⟩ := bcell hb1; have hy : w.heap.size < w1.heap.size := (by ((try simp only [World.size_alloc] at hs); omega)); clear hs hb1 HB hr1; have HB := HN; clear HN)))
  all_goals
    go_ret
    refine ⟨⟨_, rfl, ?_⟩, HB.out⟩
    try have e1 := szR_spec R1.out (by omega)
    unfold szR sizeLog
    split <;> omega
def tcntLog (x : Log) : Nat := cntAll cntMessage x.messages
def tmkLog (k : Int) (x : Log) : Log := { x with messages := markAll cntMessage mkMessage (k) x.messages }
theorem tcntLog_mk (k : Int) (x : Log) : tcntLog (tmkLog k x) = tcntLog x := by simp [tcntLog, tmkLog, marks_len, cntAll_mark cntMessage_mk, markAll_mark cntMessage_mk mkMessage_mk, marks_len]
theorem tmkLog_mk (k : Int) (x : Log) : tmkLog k (tmkLog k x) = tmkLog k x := by simp [tmkLog, marks_len, cntAll_mark cntMessage_mk, markAll_mark cntMessage_mk mkMessage_mk, marks_len]
def theldLog (k : Int) (x : Log) : Int := if x = tmkLog k x then k + tcntLog x else -1
theorem theldLog_nn {k : Int} (h : 0 ≤ k) (x : Log) : theldLog k x < 0 ↔ ¬ x = tmkLog k x := by
  unfold theldLog; split
  · rename_i h1; constructor
    · intro h2; omega
    · intro h2; exact absurd h1 h2
  · rename_i h1; exact ⟨fun _ => h1, fun _ => by omega⟩
theorem theldLog_mk (k : Int) (x : Log) : theldLog k (tmkLog k x) = k + tcntLog x := by
  unfold theldLog
  rw [if_pos (tmkLog_mk k x).symm, tcntLog_mk]
set_option maxHeartbeats 4000000 in
theorem markLog_c (x : Log) (cs : List Value) (F : List Nat) (k : Int) (w : World) (h : logD.M w x cs F) (hn : F.Nodup) (h0 : 0 ≤ k) (h1 : k + tcntLog x ≤ 1000000000000) :
    Calls Try.prog 14 #[.agg cs.toArray, .int .i64 k] w (RetMarkT logD w (tcntLog x) (tmkLog k x) cs F k) := by
  unfold tcntLog at h1
  obtain ⟨v1, F1, rfl, rfl, g1⟩ := log_M h
  have hnn := hn
  have HN := hide hn
  have HNN := hide hnn
  clear h hn hnn
  have M1 := hide g1
  clear g1
  have HC := hide ((Chg.refl (F) w).alloc (.cells #[.int .i64 x.next, v1] 41))
  have HB := hide (Below.refl w.heap.size w |>.alloc (Nat.le_refl _) (.cells #[.int .i64 x.next, v1] 41))
  have M1 := hide (M1.out.move (fun b hb => HB.out.block b (M1.out.lt b hb)))
  go_enter Try.func14, Try.ntmps14
  go_wp2_with fail
  refine (markMessageS_c _ x.messages _ _ _ M1.out HN.out (by omega) (by omega)).mono ?_
  rintro e w1 ⟨rfl, hMk, hCk⟩
  have HK1 := hide hCk
  have HC := hide (HC.out.trans (hCk.mono (fun b hb => .inl (by simp [hb]))))
  have N1 := hide hMk
  clear hMk hCk
  go_wp2_with fail
  go_ret
  refine ⟨?_, log_M_mk (x := tmkLog k x) N1.out, HC.out⟩
  simp only [tcntLog]
  exact ret_int (by first | rfl | omega)
end Go.Proofs.Ytodmongmaoeknaa
namespace Go.Proofs.Ytodmongmaoeknaa
open Go Go.RowKit Go.ChangeShapes Go.WideShapes Go.Deep
set_option linter.unusedVariables false

theorem opens_message : Opens Try.prog messageD okMessage 76 := by
  intro H enc W held fuel cs y h
  obtain ⟨hl, hf⟩ := open_fields Try.underlying76 (by kernel_rfl) (by kernel_rfl) h
  obtain ⟨v0, n0, z0, c0, t0⟩ := hf 0 _ rfl
  obtain ⟨v1, n1, z1, c1, t1⟩ := hf 1 _ rfl
  obtain ⟨v2, n2, z2, c2, t2⟩ := hf 2 _ rfl
  obtain ⟨v3, n3, z3, c3, t3⟩ := hf 3 _ rfl
  obtain ⟨v4, n4, z4, c4, t4⟩ := hf 4 _ rfl
  obtain ⟨v5, n5, z5, c5, t5⟩ := hf 5 _ rfl
  obtain ⟨v6, n6, z6, c6, t6⟩ := hf 6 _ rfl
  obtain ⟨v7, n7, z7, c7, t7⟩ := hf 7 _ rfl
  obtain ⟨x0, hx0, -, -⟩ := DataW.trod_int Try.underlying2 t0
  obtain ⟨x1, hx1, -, -⟩ := DataW.trod_int Try.underlying2 t1
  obtain ⟨x2, hx2, -, -⟩ := DataW.trod_int Try.underlying2 t2
  obtain ⟨x3, hx3, -, hs3⟩ := DataW.trod_string Try.underlying9 t3
  obtain ⟨x4, hx4, -, -⟩ := DataW.trod_int Try.underlying2 t4
  obtain ⟨x5, hx5, -⟩ := DataW.trod_bool Try.underlying4 t5
  obtain ⟨x6, hx6, -, -⟩ := DataW.trod_int Try.underlying2 t6
  obtain ⟨x7, hx7, -⟩ := opens_slice Try.underlying31 (by kernel_rfl) (by decide) (opens_int Try.underlying2) H enc W held n7 v7 _ t7
  simp only [List.cons.injEq, and_true] at hx0 hx1 hx2 hx3 hx4 hx5 hx6
  subst hx0 hx1 hx2 hx3 hx4 hx5 hx6
  match cs, hl with
  | [_, _, _, _, _, _, _, _], _ =>
    simp at c0 c1 c2 c3 c4 c5 c6 c7
    subst c0 c1 c2 c3 c4 c5 c6 c7
    exact ⟨⟨x0, x1, x2, x3, x4, x5, x6, x7⟩, message_K_mk hx7, hs3⟩
set_option maxRecDepth 100000 in
theorem open_log {H : Type} {enc : TypeId × Value → H} {W : World} {held : Bool} {b0 : Nat} {v : Value} {d : DataW H} {ps : List MemPlace} (hv : Value.okWide Try.prog W .any b0 28 v)
    (h : DataW.Trod enc Try.prog W 0 (fun _ => true) held 28 v d ps) : ∃ (x : Log) (v1 : Value), v = .agg #[.int .i64 x.next, v1] ∧ SliceK messageD W v1 x.messages ∧ okLog x := by
  obtain ⟨cs, rfl, hsz⟩ := okWide_struct Try.underlying28 hv
  obtain ⟨fuel, h⟩ := h
  obtain ⟨hl, hf⟩ := open_fields Try.underlying28 (by kernel_rfl) (by kernel_rfl) h
  obtain ⟨v0, n0, z0, c0, t0⟩ := hf 0 _ rfl
  obtain ⟨v1, n1, z1, c1, t1⟩ := hf 1 _ rfl
  obtain ⟨x0, hx0, -, -⟩ := DataW.trod_int Try.underlying2 t0
  obtain ⟨x1, hx1, hk1⟩ := opens_slice Try.underlying26 (by kernel_rfl) (by decide) opens_message H enc W held n1 v1 _ t1
  simp only [List.cons.injEq, and_true] at hx0
  subst hx0
  obtain ⟨l⟩ := cs
  simp only [Value.cells] at c0 c1 hl
  match l, hl with
  | [_, _], _ =>
    simp at c0 c1
    subst c0 c1
    exact ⟨⟨x0, x1⟩, _, rfl, hx1, hk1⟩
end Go.Proofs.Ytodmongmaoeknaa
namespace Go.Proofs.Ytodmongmaoeknaa
open Go Go.RowKit
set_option linter.unusedVariables false
set_option linter.unusedSimpArgs false

/-! ### Lease -/
structure Lease where
  member : Int
  until_ : Int
  deriving DecidableEq, Inhabited
def leaseD : Dt Lease := Dt.flat 2 (fun x : Lease => [.int .i64 x.member, .int .i64 x.until_]) (fun _ => rfl) (fun x u hu => by simp at hu; rcases hu with rfl | rfl <;> rfl)
theorem lease_at {w W : World} {b o j : Nat} {xs : List Lease} {x : Lease} (h : RowAt leaseD w b o xs) (hb : Below w.heap.size w W) (hj : xs[j]? = some x) : b < W.heap.size ∧ W.cell? ⟨b, o + j * 2, none⟩ = some (.int .i64 x.member) ∧ W.cell? ⟨b, o + j * 2 + 1, none⟩ = some (.int .i64 x.until_) := by
  obtain ⟨cs, hk, hc⟩ := (h.below hb) j x hj
  obtain rfl : cs = [.int .i64 x.member, .int .i64 x.until_] := hk
  have hc : ∀ i u, ([.int .i64 x.member, .int .i64 x.until_] : List Value)[i]? = some u → W.cell? ⟨b, o + j * 2 + i, none⟩ = some u := hc
  exact ⟨World.block_lt_of_cell? W _ (hc 0 _ rfl), hc 0 _ rfl, hc 1 _ rfl⟩

/-! ### Mark -/
structure Mark where
  member : Int
  upto : Int
  deriving DecidableEq, Inhabited
def markD : Dt Mark := Dt.flat 2 (fun x : Mark => [.int .i64 x.member, .int .i64 x.upto]) (fun _ => rfl) (fun x u hu => by simp at hu; rcases hu with rfl | rfl <;> rfl)
theorem mark_at {w W : World} {b o j : Nat} {xs : List Mark} {x : Mark} (h : RowAt markD w b o xs) (hb : Below w.heap.size w W) (hj : xs[j]? = some x) : b < W.heap.size ∧ W.cell? ⟨b, o + j * 2, none⟩ = some (.int .i64 x.member) ∧ W.cell? ⟨b, o + j * 2 + 1, none⟩ = some (.int .i64 x.upto) := by
  obtain ⟨cs, hk, hc⟩ := (h.below hb) j x hj
  obtain rfl : cs = [.int .i64 x.member, .int .i64 x.upto] := hk
  have hc : ∀ i u, ([.int .i64 x.member, .int .i64 x.upto] : List Value)[i]? = some u → W.cell? ⟨b, o + j * 2 + i, none⟩ = some u := hc
  exact ⟨World.block_lt_of_cell? W _ (hc 0 _ rfl), hc 0 _ rfl, hc 1 _ rfl⟩

/-! ### Presence -/
structure Presence where
  here : List Lease
  typing : List Lease
  marks : List Mark
  deriving DecidableEq, Inhabited
def presenceD : Dt Presence := Dt.cat ((Dt.slice 85 leaseD).iso (fun x : Presence => x.here)) (Dt.cat ((Dt.slice 85 leaseD).iso (fun x : Presence => x.typing)) ((Dt.slice 78 markD).iso (fun x : Presence => x.marks)))
theorem presence_K {w : World} {x : Presence} {cs : List Value} (h : presenceD.K w x cs) : ∃ v0 v1 v2, cs = [v0, v1, v2] ∧ SliceK leaseD w v0 x.here ∧ SliceK leaseD w v1 x.typing ∧ SliceK markD w v2 x.marks := by
  obtain ⟨_, _, rfl, ⟨v0, rfl, h0⟩, ⟨_, _, rfl, ⟨v1, rfl, h1⟩, ⟨v2, rfl, h2⟩⟩⟩ := h
  exact ⟨v0, v1, v2, rfl, h0, h1, h2⟩
theorem presence_K_mk {w : World} {x : Presence} {v0 v1 v2 : Value} (h0 : SliceK leaseD w v0 x.here) (h1 : SliceK leaseD w v1 x.typing) (h2 : SliceK markD w v2 x.marks) : presenceD.K w x [v0, v1, v2] := by
  exact ⟨_, _, rfl, ⟨v0, rfl, h0⟩, ⟨_, _, rfl, ⟨v1, rfl, h1⟩, ⟨v2, rfl, h2⟩⟩⟩
theorem presence_M {w : World} {x : Presence} {cs : List Value} {F : List Nat} (h : presenceD.M w x cs F) : ∃ v0 v1 v2 F0 F1 F2, cs = [v0, v1, v2] ∧ F = F0 ++ (F1 ++ F2) ∧ SliceM leaseD 85 w v0 x.here F0 ∧ SliceM leaseD 85 w v1 x.typing F1 ∧ SliceM markD 78 w v2 x.marks F2 := by
  obtain ⟨_, _, F0, _, rfl, rfl, ⟨v0, rfl, h0⟩, ⟨_, _, F1, F2, rfl, rfl, ⟨v1, rfl, h1⟩, ⟨v2, rfl, h2⟩⟩⟩ := h
  exact ⟨v0, v1, v2, F0, F1, F2, rfl, by simp, h0, h1, h2⟩
theorem presence_M_mk {w : World} {x : Presence} {v0 v1 v2 : Value} {F0 F1 F2 : List Nat} (h0 : SliceM leaseD 85 w v0 x.here F0) (h1 : SliceM leaseD 85 w v1 x.typing F1) (h2 : SliceM markD 78 w v2 x.marks F2) : presenceD.M w x [v0, v1, v2] (F0 ++ (F1 ++ F2)) := by
  exact ⟨_, _, F0, (F1 ++ F2), rfl, by simp, ⟨v0, rfl, h0⟩, ⟨_, _, F1, F2, rfl, by simp, ⟨v1, rfl, h1⟩, ⟨v2, rfl, h2⟩⟩⟩
theorem presence_at {w W : World} {b o j : Nat} {xs : List Presence} {x : Presence} (h : RowAt presenceD w b o xs) (hb : Below w.heap.size w W) (hj : xs[j]? = some x) : ∃ v0 v1 v2, SliceK leaseD W v0 x.here ∧ SliceK leaseD W v1 x.typing ∧ SliceK markD W v2 x.marks ∧ b < W.heap.size ∧ W.cell? ⟨b, o + j * 3, none⟩ = some (v0) ∧ W.cell? ⟨b, o + j * 3 + 1, none⟩ = some (v1) ∧ W.cell? ⟨b, o + j * 3 + 2, none⟩ = some (v2) := by
  obtain ⟨cs, hk, hc⟩ := (h.below hb) j x hj
  obtain ⟨v0, v1, v2, rfl, h0, h1, h2⟩ := presence_K hk
  have hc : ∀ i u, ([v0, v1, v2] : List Value)[i]? = some u → W.cell? ⟨b, o + j * 3 + i, none⟩ = some u := hc
  exact ⟨v0, v1, v2, h0, h1, h2, World.block_lt_of_cell? W _ (hc 0 _ rfl), hc 0 _ rfl, hc 1 _ rfl, hc 2 _ rfl⟩
end Go.Proofs.Ytodmongmaoeknaa
namespace Go.Proofs.Ytodmongmaoeknaa
open Go Go.RowKit
set_option linter.unusedVariables false
set_option linter.unusedSimpArgs false

/-! ### Lease -/
def eqLeaseB (a b : Lease) : Bool := !(a.member != b.member) && !(a.until_ != b.until_)
theorem eqLeaseB_iff (a b : Lease) : eqLeaseB a b = true ↔ a = b := by
  cases a; cases b
  simp [eqLeaseB, bytes_eq, and_assoc]
theorem eqLeaseB_eq (a b : Lease) : eqLeaseB a b = decide (a = b) := by
  rw [Bool.eq_iff_iff, eqLeaseB_iff, decide_eq_true_iff]
set_option maxHeartbeats 2000000 in
theorem eqLease_c (x y : Lease) (w : World) :
    Calls Try.prog 51 #[.agg #[.int .i64 x.member, .int .i64 x.until_], .agg #[.int .i64 y.member, .int .i64 y.until_]] w fun e w' => e = .returned (.bool (eqLeaseB x y)) ∧ Below w.heap.size w w' := by
  have HB := hide (((Below.refl w.heap.size w).alloc (Nat.le_refl _) (.cells #[.int .i64 x.member, .int .i64 x.until_] 85)).alloc (by simp) (.cells #[.int .i64 y.member, .int .i64 y.until_] 85))
  go_enter Try.func51, Try.ntmps51
  go_wp2
  all_goals
    go_ret
    refine ⟨?_, HB.out⟩
    first
    | (rw [show eqLeaseB x y = false from by simp only [eqLeaseB, decide_true, decide_false, Bool.not_true, Bool.not_false, Bool.and_false, Bool.false_and, Bool.and_true, Bool.true_and, *]]; rfl)
    | (rw [show eqLeaseB x y = true from by simp only [eqLeaseB, decide_true, decide_false, Bool.not_true, Bool.not_false, Bool.and_false, Bool.false_and, Bool.and_true, Bool.true_and, *]]; rfl)
set_option maxHeartbeats 2000000 in
set_option maxRecDepth 100000 in
theorem eqLeaseS_c (va vb : Value) (a b : List Lease) (w : World) (ha : SliceK leaseD w va a) (hb : SliceK leaseD w vb b) :
    Calls Try.prog 33 #[va, vb] w fun e w' => e = .returned (.bool (decide (a = b))) ∧ Below w.heap.size w w' := by
  obtain ⟨A, c, rfl, hl1, hm1, hra⟩ := ha
  obtain ⟨B, c', rfl, hl2, hm2, hrb⟩ := hb
  by_cases hlen : a.length = b.length
  · have hne : (((a.length : Nat) : Int) != ((b.length : Nat) : Int)) = false := by simp [hlen]
    have HL := hide hlen
    have HA := hide hra
    have HB := hide hrb
    clear hlen hra hrb
    go_enter Try.func33, Try.ntmps33
    go_wp2
    go_loopg [5] a.length (fun gg s5 wr => ∃ k : Nat, k ≤ a.length ∧ a.length - k ≤ gg ∧ s5 = .int .i64 k ∧ Hid (a.take k = b.take k) ∧ Hid (Below w.heap.size w wr))
    case atStart => exact ⟨0, Nat.zero_le _, by omega, rfl, rfl, Below.refl _ _⟩
    case round =>
      obtain ⟨k, hk, hg, rfl, HT, HW⟩ := hrel
      by_cases hlt : k < a.length
      · obtain ⟨x, hx⟩ : ∃ x, a[k]? = some x := ⟨_, List.getElem?_eq_getElem hlt⟩
        obtain ⟨y, hy⟩ : ∃ y, b[k]? = some y := ⟨_, List.getElem?_eq_getElem (by have := HL.out; omega)⟩
        have hkb : k < b.length := by have := HL.out; omega
        rcases HA.out with rfl | ⟨p, o, rfl, hra⟩
        · simp at hlt
        rcases HB.out with rfl | ⟨p', o', rfl, hrb⟩
        · simp at hkb
        obtain ⟨p, hc0, hc1⟩ := lease_at hra HW.out hx
        obtain ⟨p', gc0, gc1⟩ := lease_at hrb HW.out hy
        have HX := hide hx
        have HY := hide hy
        clear hx hy hra hrb HA HB 
        go_wp2
        go_still_tail 8, (by kernel_rfl)
        change wpList _ _ _ _ _ wr.drew
        go_wp2_with (go_at_call 51; refine (eqLease_c x y  _  ).mono ?_; rintro e w1 ⟨rfl, hb1⟩; have H1 := hide (HW.out.drew.trans (hb1.mono (by simpa using HW.out.size))); clear hb1)
        · have hq : ¬ x = y := fun e => by rw [(eqLeaseB_iff x y).2 e] at *; contradiction
          go_ret
          exact ⟨by rw [eqAll_pre HT.out HX.out HY.out hq]; rfl, H1.out⟩
        · have hq : eqLeaseB x y = true := by simpa using ‹(!eqLeaseB x y) = false›
          have HQ := hide ((eqLeaseB_iff x y).1 hq)
          clear hq
          go_roundg (a.length - (k + 1))
          case measure => omega
          case rel => exact ⟨k + 1, by omega, by omega, by go_num, hide (by rw [List.take_add_one, List.take_add_one, HX.out, HY.out, HT.out, HQ.out]), H1⟩
      · have : k = a.length := by omega
        subst this
        go_wp2
        go_ret
        exact ⟨by rw [show decide (a = b) = true from by rw [decide_eq_true_iff]; have := HT.out; rw [List.take_length] at this; rw [this, HL.out, List.take_length]]; rfl, HW.out⟩
  · have hne : (((a.length : Nat) : Int) != ((b.length : Nat) : Int)) = true := by simp; omega
    have he : decide (a = b) = false := decide_eq_false (by rintro rfl; exact hlen rfl)
    have HE := hide he
    clear he hlen hra hrb
    go_enter Try.func33, Try.ntmps33
    go_wp2
    go_ret
    exact ⟨by rw [HE.out]; rfl, Below.refl _ _⟩
set_option maxHeartbeats 2000000 in
theorem toLease_c (x : Lease) (w : World) :
    Calls Try.prog 44 #[.agg #[.int .i64 x.member, .int .i64 x.until_]] w (RetElem leaseD w x) := by
  go_enter Try.func44, Try.ntmps44
  go_wp2_with fail
  refine bodyPost_ret (v := .agg #[.int .i64 x.member, .int .i64 x.until_]) (by simp [results, Try.results44, go_sem]) rfl ⟨_, [], rfl, ⟨rfl, rfl⟩, List.nodup_nil, by simp, ?_⟩
  repeat (first | exact Below.refl _ _ | refine Below.setCell ?_ (by simp <;> omega) _ | refine Below.alloc ?_ (by simp <;> omega) _)
theorem infoLease : (Try.prog.info? 85).map (fun i => (i.zero, i.size, i.bytes)) = some (some (.agg #[(.int .i64 0), (.int .i64 0)]), 2, 16) := by kernel_rfl
set_option maxHeartbeats 2000000 in
set_option maxRecDepth 100000 in
theorem toLeaseS_c (v : Value) (a : List Lease) (w : World) (ha : SliceK leaseD w v a) (hn : a.length ≤ 1048576) :
    Calls Try.prog 24 #[v] w (RetMade leaseD 85 w a) := by
  obtain ⟨A, c, rfl, hl1, hm1, hra⟩ := ha
  have HA := hide hra
  have hmk := run_mk (P := Try.prog) 34 85 (.agg #[(.int .i64 0), (.int .i64 0)]) 2 16 Try.underlying34 infoLease a.length (by omega) (by omega)
  clear hra
  go_enter Try.func24, Try.ntmps24
  go_wp2_with fail
  obtain ⟨B, hB⟩ : ∃ B, B = w.heap.size := ⟨_, rfl⟩
  have HBs := hide hB
  rw [← hB]
  have H0 : ∃ cur css Fs, Row leaseD 85 (w.alloc (Obj.cells (mkRow (.agg #[(.int .i64 0), (.int .i64 0)]) (a.length * 2)) 85)) B a.length cur css Fs (a.take 0) ∧ (B :: Fs.flatten).Nodup ∧ (∀ q ∈ B :: Fs.flatten, w.heap.size ≤ q) :=
    ⟨_, [], [], by rw [hB]; exact Row.start (d := leaseD) (by omega), by simp, by intro q hq; simp at hq; omega⟩
  have H0 := hide H0
  clear hB
  go_loopg [4] a.length (fun gg s4 wr => ∃ k : Nat, k ≤ a.length ∧ a.length - k ≤ gg ∧ s4 = .int .i64 k ∧ Hid (∃ cur css Fs, Row leaseD 85 wr B a.length cur css Fs (a.take k) ∧ (B :: Fs.flatten).Nodup ∧ (∀ q ∈ B :: Fs.flatten, w.heap.size ≤ q)) ∧ Hid (Below w.heap.size w wr))
  case atStart => exact ⟨0, Nat.zero_le _, by omega, rfl, H0, (Below.refl _ _).alloc (Nat.le_refl _) _⟩
  case round =>
    obtain ⟨k, hk, hg, rfl, HR, HW⟩ := hrel
    clear H0 hmk
    by_cases hlt : k < a.length
    · obtain ⟨x, hx⟩ : ∃ x, a[k]? = some x := ⟨_, List.getElem?_eq_getElem hlt⟩
      rcases HA.out with rfl | ⟨p, o, rfl, hra⟩
      · simp at hlt
      obtain ⟨p, hc0, hc1⟩ := lease_at hra HW.out hx
      have HX := hide hx
      clear hx hra HA 
      go_wp2_with fail
      refine (toLease_c x  _ ).mono ?_
      rintro e w1 ⟨cs, G, rfl, hm, hnd, hG, hb1⟩
      obtain ⟨cur, css, Fs, hrow, hnF, hgF⟩ := HR.out
      have HM := hide hm
      obtain ⟨rfl, rfl⟩ := hm
      have hsz : cur.size = a.length * 2 := hrow.size
      have hlB : B < wr.heap.size := block_lt hrow.blk
      have hblk1 : w1.heap[B]? = some (.cells cur 85 (0, 0)) := (hb1.block B hlB).trans hrow.blk
      have hfz : ∀ o, w1.frozen? ⟨B, o, none⟩ = false := fun o => frozen_block hblk1
      have hlB1 : B < w1.heap.size := block_lt hblk1
      obtain ⟨z0, hz0⟩ : ∃ z, w1.cell? ⟨B, k * 2, none⟩ = some z := ⟨cur[k * 2]'(by omega), by rw [cell_block hblk1]; exact Array.getElem?_eq_getElem (by omega)⟩
      obtain ⟨z1, hz1⟩ : ∃ z, w1.cell? ⟨B, k * 2 + 1, none⟩ = some z := ⟨cur[k * 2 + 1]'(by omega), by rw [cell_block hblk1]; exact Array.getElem?_eq_getElem (by omega)⟩
      have HC := hide (And.intro hrow (And.intro hnF (And.intro hgF (And.intro hnd (And.intro hG (And.intro hb1 hblk1))))))
      have HSZ := hide hsz
      clear HR hrow hnF hgF hnd hG hb1 hblk1 hlB hsz
      go_wp2_with fail
      obtain ⟨hrow, hnF, hgF, hnd, hG, hb1, hblk1⟩ := HC.out
      obtain ⟨cur', hcur', hlist'⟩ := putCells_block [.int .i64 x.member, .int .i64 x.until_] w1 B (k * 2) hblk1
      have hBl : ∀ q ∈ B :: Fs.flatten, q < wr.heap.size := hrow.lt
      have htl : (a.take k).length = k := by rw [List.length_take]; omega
      go_roundg (a.length - (k + 1))
      case measure => omega
      case rel =>
        refine ⟨k + 1, by omega, by omega, by go_num, hide ⟨cur', css ++ [[.int .i64 x.member, .int .i64 x.until_]], Fs ++ [([] : List Nat)], ?_, ?_, ?_⟩, hide ?_⟩
        · rw [List.take_add_one, HX.out]
          refine Row.snoc (w' := putCells w1 B (k * 2) [.int .i64 x.member, .int .i64 x.until_]) hrow (by omega) (Dt.M_move _ (fun q hq => putCells_other _ _ _ _ ?_) HM.out) hcur' (by rw [htl]; exact hlist') (fun q hq => (putCells_other _ _ _ _ ?_).trans (hb1.block q (hBl q (List.mem_cons_of_mem _ hq))))
          · have := hG q hq; have := hBl B List.mem_cons_self; omega
          · intro e; subst e; exact (List.nodup_cons.1 hnF).1 hq
        · rw [List.flatten_append, List.flatten_singleton, ← List.cons_append]
          exact nodup_app hnF hnd hBl hG
        · intro q hq
          rw [List.flatten_append, List.flatten_singleton, ← List.cons_append, List.mem_append] at hq
          rcases hq with hq | hq
          · exact hgF q hq
          · exact Nat.le_trans HW.out.size (hG q hq)
        · exact putCells_below [.int .i64 x.member, .int .i64 x.until_] B (k * 2) (HW.out.trans (hb1.mono HW.out.size)) (hgF B List.mem_cons_self)
    · have : k = a.length := by omega
      subst this
      go_wp2
      go_ret
      obtain ⟨cur, css, Fs, hrow, hnF, hgF⟩ := HR.out
      rw [List.take_length] at hrow
      exact ⟨_, rfl, ⟨_, hrow.M, hnF, hgF⟩, HW.out⟩
theorem szLeaseS_c (v : Value) (a : List Lease) (left : Int) (w : World) (ha : SliceK leaseD w v a) (h0 : 0 ≤ left) (h1 : left ≤ 1048576) :
    Calls Try.prog 17 #[v, .int .i64 left] w fun e w' => RetSz left a.length e ∧ Below w.heap.size w w' := by
  obtain ⟨A, c, rfl, hl1, hm1, hra⟩ := ha
  clear hra
  by_cases h : (a.length : Int) ≤ left
  · have hr := hide (show left - (a.length : Int) = szR left a.length from (if_pos h).symm)
    have h2 : ¬ (left - (a.length : Int) < 0) := by omega
    go_enter Try.func17, Try.ntmps17
    go_wp2
    go_ret
    exact ⟨⟨_, rfl, hr.out⟩, Below.refl _ _⟩
  · have hr := hide (show -1 = szR left a.length from (if_neg h).symm)
    have h2 : (left - (a.length : Int) < 0) := by omega
    go_enter Try.func17, Try.ntmps17
    go_wp2
    go_ret
    exact ⟨⟨_, rfl, hr.out⟩, Below.refl _ _⟩
def cntLease (x : Lease) : Nat := 2
def mkLease (k : Int) (x : Lease) : Lease := { member := (k), until_ := (k + 1) }
theorem cntLease_mk (k : Int) (x : Lease) : cntLease (mkLease k x) = cntLease x := by simp [cntLease, mkLease, marks_len, marks_len]
theorem mkLease_mk (k : Int) (x : Lease) : mkLease k (mkLease k x) = mkLease k x := by simp [mkLease, marks_len, marks_len]
def heldLeaseB (k : Int) (x : Lease) : Bool := !(x.member != k) && !(x.until_ != k + 1)
theorem heldLeaseB_iff {k : Int} (h : 0 ≤ k) (x : Lease) : heldLeaseB k x = true ↔ x = mkLease k x := by
  cases x
  simp only [heldLeaseB, mkLease, Lease.mk.injEq, bytes_eq, Bool.and_eq_true, Bool.not_eq_true', bne_eq_false_iff_eq, Bool.not_eq_false', beq_iff_eq, decide_eq_false_iff_not, and_assoc]
set_option maxHeartbeats 4000000 in
set_option maxRecDepth 100000 in
theorem markLeaseS_c (v : Value) (xs : List Lease) (F : List Nat) (k : Int) (w : World) (h : SliceM leaseD 85 w v xs F) (hn : F.Nodup) (h0 : 0 ≤ k) (h1 : k + cntAll cntLease xs ≤ 1000000000000) :
    Calls Try.prog 36 #[v, .int .i64 k] w (RetMarkA leaseD 85 cntLease mkLease w v xs F k) := by
  rcases h.row with ⟨rfl, rfl, rfl⟩ | ⟨B, cap, cur, css, Fs, rfl, hrow, rfl⟩
  · go_enter Try.func36, Try.ntmps36
    go_wp2
    go_loopg [1, 5] 0 (fun gg s1 s5 wr => s1 = .int .i64 k ∧ s5 = .int .i64 0 ∧ w = wr)
    case atStart => exact ⟨rfl, rfl, rfl⟩
    case round =>
      obtain ⟨rfl, rfl, rfl⟩ := hrel
      go_wp2
      go_ret
      exact ⟨by simp [cntAll], .inl ⟨rfl, rfl, rfl⟩, Chg.refl _ _⟩
  · have H0 := hide (show ∃ cur css, Row leaseD 85 w B cap cur css Fs (mixed cntLease mkLease k xs 0) from ⟨cur, css, by rw [mixed_zero]; exact hrow⟩)
    have HN := hide hn
    have hlen := hrow.le
    have hmax := hrow.max
    clear h hrow hn
    go_enter Try.func36, Try.ntmps36
    go_wp2
    go_loopg [1, 5] xs.length (fun gg s1 s5 wr => ∃ (i : Nat) (q : Int), i ≤ xs.length ∧ xs.length - i ≤ gg ∧ s1 = .int .i64 q ∧ s5 = .int .i64 i ∧ 0 ≤ q ∧ Hid (q = k + cntAll cntLease (xs.take i)) ∧
      Hid (∃ cur css, Row leaseD 85 wr B cap cur css Fs (mixed cntLease mkLease k xs i)) ∧ Hid (Chg (B :: Fs.flatten) w wr))
    case atStart => exact ⟨0, k, Nat.zero_le _, by omega, rfl, rfl, h0, hide (by simp [cntAll]), H0, Chg.refl _ _⟩
    case round =>
      obtain ⟨i, q, hi, hg, rfl, rfl, hq0, HQ, HR, HW⟩ := hrel
      clear H0
      by_cases hlt : i < xs.length
      · obtain ⟨x, hx⟩ : ∃ x, xs[i]? = some x := ⟨_, List.getElem?_eq_getElem hlt⟩
        obtain ⟨cur, css, hrow⟩ := HR.out
        obtain ⟨cs, G, hE⟩ := RowE.ofRow hrow (mixed_get (cnt := cntLease) (mk := mkLease) k xs i hx)
        have hcT := cntAll_take (cnt := cntLease) xs i x hx
        have hcL := cntAll_le (cnt := cntLease) xs (i + 1)
        have hq1 : q + cntLease x ≤ 1000000000000 := by have := HQ.out; omega
        have hq2 : q + (2 : Nat) ≤ 1000000000000 := hq1
        have HT := hide hcT
        have HX := hide hx
        have hlB := hE.blt
        have hfz := hE.frozen
        have hcell := hE.cell
        obtain ⟨rfl, rfl⟩ : cs = [.int .i64 x.member, .int .i64 x.until_] ∧ G = [] := hE.M
        have hc0 : wr.cell? ⟨B, i * 2, none⟩ = some (.int .i64 x.member) := hcell 0 _ rfl
        have hc1 : wr.cell? ⟨B, i * 2 + 1, none⟩ = some (.int .i64 x.until_) := hcell 1 _ rfl
        have E0 := hide hE
        clear HR hcell hcT hcL hx hrow hE hq1
        go_wp2_with fail
        have E1 := hide (E0.out.put HN.out 0 (.int .i64 (q)) ({ x with member := (q) }) (by decide) fun _ => ⟨rfl, rfl⟩)
        have E2 := hide (E1.out.put HN.out 1 (.int .i64 (q + 1)) ({ x with member := (q), until_ := (q + 1) }) (by decide) fun _ => ⟨rfl, rfl⟩)
        obtain ⟨cur', css', hrow'⟩ := E2.out.row
        simp only [List.set_set] at hrow'
        have hmk : { x with member := (q), until_ := (q + 1) } = mkLease q x := rfl
        have hmx : (mixed cntLease mkLease k xs i).set i (mkLease q x) = mixed cntLease mkLease k xs (i + 1) := by rw [HQ.out]; exact mixed_set k xs i HX.out
        rw [hmk, hmx] at hrow'
        go_roundg (xs.length - (i + 1))
        case measure => omega
        case rel =>
          refine ⟨i + 1, q + 1 + 1, by omega, by omega, rfl, by go_num, by omega, hide (by have h1 := HQ.out; have h2 := HT.out; have h3 : cntLease x = 2 := rfl; rw [h2]; omega), hide ⟨cur', css', hrow'⟩, hide ?_⟩
          exact ((((HW.out).setCell (.inl (by simp)) _)).setCell (.inl (by simp)) _)
      · have : i = xs.length := by omega
        subst this
        go_wp2
        go_ret
        obtain ⟨cur, css, hrow⟩ := HR.out
        rw [mixed_all] at hrow
        have hq := HQ.out
        rw [List.take_length] at hq
        refine ⟨by rw [← hq]; rfl, ?_, HW.out⟩
        have hS := hrow.M
        rwa [markAll_len] at hS
/-! ### Mark -/
def eqMarkB (a b : Mark) : Bool := !(a.member != b.member) && !(a.upto != b.upto)
theorem eqMarkB_iff (a b : Mark) : eqMarkB a b = true ↔ a = b := by
  cases a; cases b
  simp [eqMarkB, bytes_eq, and_assoc]
theorem eqMarkB_eq (a b : Mark) : eqMarkB a b = decide (a = b) := by
  rw [Bool.eq_iff_iff, eqMarkB_iff, decide_eq_true_iff]
set_option maxHeartbeats 2000000 in
theorem eqMark_c (x y : Mark) (w : World) :
    Calls Try.prog 52 #[.agg #[.int .i64 x.member, .int .i64 x.upto], .agg #[.int .i64 y.member, .int .i64 y.upto]] w fun e w' => e = .returned (.bool (eqMarkB x y)) ∧ Below w.heap.size w w' := by
  have HB := hide (((Below.refl w.heap.size w).alloc (Nat.le_refl _) (.cells #[.int .i64 x.member, .int .i64 x.upto] 78)).alloc (by simp) (.cells #[.int .i64 y.member, .int .i64 y.upto] 78))
  go_enter Try.func52, Try.ntmps52
  go_wp2
  all_goals
    go_ret
    refine ⟨?_, HB.out⟩
    first
    | (rw [show eqMarkB x y = false from by simp only [eqMarkB, decide_true, decide_false, Bool.not_true, Bool.not_false, Bool.and_false, Bool.false_and, Bool.and_true, Bool.true_and, *]]; rfl)
    | (rw [show eqMarkB x y = true from by simp only [eqMarkB, decide_true, decide_false, Bool.not_true, Bool.not_false, Bool.and_false, Bool.false_and, Bool.and_true, Bool.true_and, *]]; rfl)
set_option maxHeartbeats 2000000 in
set_option maxRecDepth 100000 in
theorem eqMarkS_c (va vb : Value) (a b : List Mark) (w : World) (ha : SliceK markD w va a) (hb : SliceK markD w vb b) :
    Calls Try.prog 34 #[va, vb] w fun e w' => e = .returned (.bool (decide (a = b))) ∧ Below w.heap.size w w' := by
  obtain ⟨A, c, rfl, hl1, hm1, hra⟩ := ha
  obtain ⟨B, c', rfl, hl2, hm2, hrb⟩ := hb
  by_cases hlen : a.length = b.length
  · have hne : (((a.length : Nat) : Int) != ((b.length : Nat) : Int)) = false := by simp [hlen]
    have HL := hide hlen
    have HA := hide hra
    have HB := hide hrb
    clear hlen hra hrb
    go_enter Try.func34, Try.ntmps34
    go_wp2
    go_loopg [5] a.length (fun gg s5 wr => ∃ k : Nat, k ≤ a.length ∧ a.length - k ≤ gg ∧ s5 = .int .i64 k ∧ Hid (a.take k = b.take k) ∧ Hid (Below w.heap.size w wr))
    case atStart => exact ⟨0, Nat.zero_le _, by omega, rfl, rfl, Below.refl _ _⟩
    case round =>
      obtain ⟨k, hk, hg, rfl, HT, HW⟩ := hrel
      by_cases hlt : k < a.length
      · obtain ⟨x, hx⟩ : ∃ x, a[k]? = some x := ⟨_, List.getElem?_eq_getElem hlt⟩
        obtain ⟨y, hy⟩ : ∃ y, b[k]? = some y := ⟨_, List.getElem?_eq_getElem (by have := HL.out; omega)⟩
        have hkb : k < b.length := by have := HL.out; omega
        rcases HA.out with rfl | ⟨p, o, rfl, hra⟩
        · simp at hlt
        rcases HB.out with rfl | ⟨p', o', rfl, hrb⟩
        · simp at hkb
        obtain ⟨p, hc0, hc1⟩ := mark_at hra HW.out hx
        obtain ⟨p', gc0, gc1⟩ := mark_at hrb HW.out hy
        have HX := hide hx
        have HY := hide hy
        clear hx hy hra hrb HA HB 
        go_wp2
        go_still_tail 8, (by kernel_rfl)
        change wpList _ _ _ _ _ wr.drew
        go_wp2_with (go_at_call 52; refine (eqMark_c x y  _  ).mono ?_; rintro e w1 ⟨rfl, hb1⟩; have H1 := hide (HW.out.drew.trans (hb1.mono (by simpa using HW.out.size))); clear hb1)
        · have hq : ¬ x = y := fun e => by rw [(eqMarkB_iff x y).2 e] at *; contradiction
          go_ret
          exact ⟨by rw [eqAll_pre HT.out HX.out HY.out hq]; rfl, H1.out⟩
        · have hq : eqMarkB x y = true := by simpa using ‹(!eqMarkB x y) = false›
          have HQ := hide ((eqMarkB_iff x y).1 hq)
          clear hq
          go_roundg (a.length - (k + 1))
          case measure => omega
          case rel => exact ⟨k + 1, by omega, by omega, by go_num, hide (by rw [List.take_add_one, List.take_add_one, HX.out, HY.out, HT.out, HQ.out]), H1⟩
      · have : k = a.length := by omega
        subst this
        go_wp2
        go_ret
        exact ⟨by rw [show decide (a = b) = true from by rw [decide_eq_true_iff]; have := HT.out; rw [List.take_length] at this; rw [this, HL.out, List.take_length]]; rfl, HW.out⟩
  · have hne : (((a.length : Nat) : Int) != ((b.length : Nat) : Int)) = true := by simp; omega
    have he : decide (a = b) = false := decide_eq_false (by rintro rfl; exact hlen rfl)
    have HE := hide he
    clear he hlen hra hrb
    go_enter Try.func34, Try.ntmps34
    go_wp2
    go_ret
    exact ⟨by rw [HE.out]; rfl, Below.refl _ _⟩
set_option maxHeartbeats 2000000 in
theorem toMark_c (x : Mark) (w : World) :
    Calls Try.prog 45 #[.agg #[.int .i64 x.member, .int .i64 x.upto]] w (RetElem markD w x) := by
  go_enter Try.func45, Try.ntmps45
  go_wp2_with fail
  refine bodyPost_ret (v := .agg #[.int .i64 x.member, .int .i64 x.upto]) (by simp [results, Try.results45, go_sem]) rfl ⟨_, [], rfl, ⟨rfl, rfl⟩, List.nodup_nil, by simp, ?_⟩
  repeat (first | exact Below.refl _ _ | refine Below.setCell ?_ (by simp <;> omega) _ | refine Below.alloc ?_ (by simp <;> omega) _)
theorem infoMark : (Try.prog.info? 78).map (fun i => (i.zero, i.size, i.bytes)) = some (some (.agg #[(.int .i64 0), (.int .i64 0)]), 2, 16) := by kernel_rfl
set_option maxHeartbeats 2000000 in
set_option maxRecDepth 100000 in
theorem toMarkS_c (v : Value) (a : List Mark) (w : World) (ha : SliceK markD w v a) (hn : a.length ≤ 1048576) :
    Calls Try.prog 25 #[v] w (RetMade markD 78 w a) := by
  obtain ⟨A, c, rfl, hl1, hm1, hra⟩ := ha
  have HA := hide hra
  have hmk := run_mk (P := Try.prog) 35 78 (.agg #[(.int .i64 0), (.int .i64 0)]) 2 16 Try.underlying35 infoMark a.length (by omega) (by omega)
  clear hra
  go_enter Try.func25, Try.ntmps25
  go_wp2_with fail
  obtain ⟨B, hB⟩ : ∃ B, B = w.heap.size := ⟨_, rfl⟩
  have HBs := hide hB
  rw [← hB]
  have H0 : ∃ cur css Fs, Row markD 78 (w.alloc (Obj.cells (mkRow (.agg #[(.int .i64 0), (.int .i64 0)]) (a.length * 2)) 78)) B a.length cur css Fs (a.take 0) ∧ (B :: Fs.flatten).Nodup ∧ (∀ q ∈ B :: Fs.flatten, w.heap.size ≤ q) :=
    ⟨_, [], [], by rw [hB]; exact Row.start (d := markD) (by omega), by simp, by intro q hq; simp at hq; omega⟩
  have H0 := hide H0
  clear hB
  go_loopg [4] a.length (fun gg s4 wr => ∃ k : Nat, k ≤ a.length ∧ a.length - k ≤ gg ∧ s4 = .int .i64 k ∧ Hid (∃ cur css Fs, Row markD 78 wr B a.length cur css Fs (a.take k) ∧ (B :: Fs.flatten).Nodup ∧ (∀ q ∈ B :: Fs.flatten, w.heap.size ≤ q)) ∧ Hid (Below w.heap.size w wr))
  case atStart => exact ⟨0, Nat.zero_le _, by omega, rfl, H0, (Below.refl _ _).alloc (Nat.le_refl _) _⟩
  case round =>
    obtain ⟨k, hk, hg, rfl, HR, HW⟩ := hrel
    clear H0 hmk
    by_cases hlt : k < a.length
    · obtain ⟨x, hx⟩ : ∃ x, a[k]? = some x := ⟨_, List.getElem?_eq_getElem hlt⟩
      rcases HA.out with rfl | ⟨p, o, rfl, hra⟩
      · simp at hlt
      obtain ⟨p, hc0, hc1⟩ := mark_at hra HW.out hx
      have HX := hide hx
      clear hx hra HA 
      go_wp2_with fail
      refine (toMark_c x  _ ).mono ?_
      rintro e w1 ⟨cs, G, rfl, hm, hnd, hG, hb1⟩
      obtain ⟨cur, css, Fs, hrow, hnF, hgF⟩ := HR.out
      have HM := hide hm
      obtain ⟨rfl, rfl⟩ := hm
      have hsz : cur.size = a.length * 2 := hrow.size
      have hlB : B < wr.heap.size := block_lt hrow.blk
      have hblk1 : w1.heap[B]? = some (.cells cur 78 (0, 0)) := (hb1.block B hlB).trans hrow.blk
      have hfz : ∀ o, w1.frozen? ⟨B, o, none⟩ = false := fun o => frozen_block hblk1
      have hlB1 : B < w1.heap.size := block_lt hblk1
      obtain ⟨z0, hz0⟩ : ∃ z, w1.cell? ⟨B, k * 2, none⟩ = some z := ⟨cur[k * 2]'(by omega), by rw [cell_block hblk1]; exact Array.getElem?_eq_getElem (by omega)⟩
      obtain ⟨z1, hz1⟩ : ∃ z, w1.cell? ⟨B, k * 2 + 1, none⟩ = some z := ⟨cur[k * 2 + 1]'(by omega), by rw [cell_block hblk1]; exact Array.getElem?_eq_getElem (by omega)⟩
      have HC := hide (And.intro hrow (And.intro hnF (And.intro hgF (And.intro hnd (And.intro hG (And.intro hb1 hblk1))))))
      have HSZ := hide hsz
      clear HR hrow hnF hgF hnd hG hb1 hblk1 hlB hsz
      go_wp2_with fail
      obtain ⟨hrow, hnF, hgF, hnd, hG, hb1, hblk1⟩ := HC.out
      obtain ⟨cur', hcur', hlist'⟩ := putCells_block [.int .i64 x.member, .int .i64 x.upto] w1 B (k * 2) hblk1
      have hBl : ∀ q ∈ B :: Fs.flatten, q < wr.heap.size := hrow.lt
      have htl : (a.take k).length = k := by rw [List.length_take]; omega
      go_roundg (a.length - (k + 1))
      case measure => omega
      case rel =>
        refine ⟨k + 1, by omega, by omega, by go_num, hide ⟨cur', css ++ [[.int .i64 x.member, .int .i64 x.upto]], Fs ++ [([] : List Nat)], ?_, ?_, ?_⟩, hide ?_⟩
        · rw [List.take_add_one, HX.out]
          refine Row.snoc (w' := putCells w1 B (k * 2) [.int .i64 x.member, .int .i64 x.upto]) hrow (by omega) (Dt.M_move _ (fun q hq => putCells_other _ _ _ _ ?_) HM.out) hcur' (by rw [htl]; exact hlist') (fun q hq => (putCells_other _ _ _ _ ?_).trans (hb1.block q (hBl q (List.mem_cons_of_mem _ hq))))
          · have := hG q hq; have := hBl B List.mem_cons_self; omega
          · intro e; subst e; exact (List.nodup_cons.1 hnF).1 hq
        · rw [List.flatten_append, List.flatten_singleton, ← List.cons_append]
          exact nodup_app hnF hnd hBl hG
        · intro q hq
          rw [List.flatten_append, List.flatten_singleton, ← List.cons_append, List.mem_append] at hq
          rcases hq with hq | hq
          · exact hgF q hq
          · exact Nat.le_trans HW.out.size (hG q hq)
        · exact putCells_below [.int .i64 x.member, .int .i64 x.upto] B (k * 2) (HW.out.trans (hb1.mono HW.out.size)) (hgF B List.mem_cons_self)
    · have : k = a.length := by omega
      subst this
      go_wp2
      go_ret
      obtain ⟨cur, css, Fs, hrow, hnF, hgF⟩ := HR.out
      rw [List.take_length] at hrow
      exact ⟨_, rfl, ⟨_, hrow.M, hnF, hgF⟩, HW.out⟩
theorem szMarkS_c (v : Value) (a : List Mark) (left : Int) (w : World) (ha : SliceK markD w v a) (h0 : 0 ≤ left) (h1 : left ≤ 1048576) :
    Calls Try.prog 18 #[v, .int .i64 left] w fun e w' => RetSz left a.length e ∧ Below w.heap.size w w' := by
  obtain ⟨A, c, rfl, hl1, hm1, hra⟩ := ha
  clear hra
  by_cases h : (a.length : Int) ≤ left
  · have hr := hide (show left - (a.length : Int) = szR left a.length from (if_pos h).symm)
    have h2 : ¬ (left - (a.length : Int) < 0) := by omega
    go_enter Try.func18, Try.ntmps18
    go_wp2
    go_ret
    exact ⟨⟨_, rfl, hr.out⟩, Below.refl _ _⟩
  · have hr := hide (show -1 = szR left a.length from (if_neg h).symm)
    have h2 : (left - (a.length : Int) < 0) := by omega
    go_enter Try.func18, Try.ntmps18
    go_wp2
    go_ret
    exact ⟨⟨_, rfl, hr.out⟩, Below.refl _ _⟩
def cntMark (x : Mark) : Nat := 2
def mkMark (k : Int) (x : Mark) : Mark := { member := (k), upto := (k + 1) }
theorem cntMark_mk (k : Int) (x : Mark) : cntMark (mkMark k x) = cntMark x := by simp [cntMark, mkMark, marks_len, marks_len]
theorem mkMark_mk (k : Int) (x : Mark) : mkMark k (mkMark k x) = mkMark k x := by simp [mkMark, marks_len, marks_len]
def heldMarkB (k : Int) (x : Mark) : Bool := !(x.member != k) && !(x.upto != k + 1)
theorem heldMarkB_iff {k : Int} (h : 0 ≤ k) (x : Mark) : heldMarkB k x = true ↔ x = mkMark k x := by
  cases x
  simp only [heldMarkB, mkMark, Mark.mk.injEq, bytes_eq, Bool.and_eq_true, Bool.not_eq_true', bne_eq_false_iff_eq, Bool.not_eq_false', beq_iff_eq, decide_eq_false_iff_not, and_assoc]
set_option maxHeartbeats 4000000 in
set_option maxRecDepth 100000 in
theorem markMarkS_c (v : Value) (xs : List Mark) (F : List Nat) (k : Int) (w : World) (h : SliceM markD 78 w v xs F) (hn : F.Nodup) (h0 : 0 ≤ k) (h1 : k + cntAll cntMark xs ≤ 1000000000000) :
    Calls Try.prog 37 #[v, .int .i64 k] w (RetMarkA markD 78 cntMark mkMark w v xs F k) := by
  rcases h.row with ⟨rfl, rfl, rfl⟩ | ⟨B, cap, cur, css, Fs, rfl, hrow, rfl⟩
  · go_enter Try.func37, Try.ntmps37
    go_wp2
    go_loopg [1, 5] 0 (fun gg s1 s5 wr => s1 = .int .i64 k ∧ s5 = .int .i64 0 ∧ w = wr)
    case atStart => exact ⟨rfl, rfl, rfl⟩
    case round =>
      obtain ⟨rfl, rfl, rfl⟩ := hrel
      go_wp2
      go_ret
      exact ⟨by simp [cntAll], .inl ⟨rfl, rfl, rfl⟩, Chg.refl _ _⟩
  · have H0 := hide (show ∃ cur css, Row markD 78 w B cap cur css Fs (mixed cntMark mkMark k xs 0) from ⟨cur, css, by rw [mixed_zero]; exact hrow⟩)
    have HN := hide hn
    have hlen := hrow.le
    have hmax := hrow.max
    clear h hrow hn
    go_enter Try.func37, Try.ntmps37
    go_wp2
    go_loopg [1, 5] xs.length (fun gg s1 s5 wr => ∃ (i : Nat) (q : Int), i ≤ xs.length ∧ xs.length - i ≤ gg ∧ s1 = .int .i64 q ∧ s5 = .int .i64 i ∧ 0 ≤ q ∧ Hid (q = k + cntAll cntMark (xs.take i)) ∧
      Hid (∃ cur css, Row markD 78 wr B cap cur css Fs (mixed cntMark mkMark k xs i)) ∧ Hid (Chg (B :: Fs.flatten) w wr))
    case atStart => exact ⟨0, k, Nat.zero_le _, by omega, rfl, rfl, h0, hide (by simp [cntAll]), H0, Chg.refl _ _⟩
    case round =>
      obtain ⟨i, q, hi, hg, rfl, rfl, hq0, HQ, HR, HW⟩ := hrel
      clear H0
      by_cases hlt : i < xs.length
      · obtain ⟨x, hx⟩ : ∃ x, xs[i]? = some x := ⟨_, List.getElem?_eq_getElem hlt⟩
        obtain ⟨cur, css, hrow⟩ := HR.out
        obtain ⟨cs, G, hE⟩ := RowE.ofRow hrow (mixed_get (cnt := cntMark) (mk := mkMark) k xs i hx)
        have hcT := cntAll_take (cnt := cntMark) xs i x hx
        have hcL := cntAll_le (cnt := cntMark) xs (i + 1)
        have hq1 : q + cntMark x ≤ 1000000000000 := by have := HQ.out; omega
        have hq2 : q + (2 : Nat) ≤ 1000000000000 := hq1
        have HT := hide hcT
        have HX := hide hx
        have hlB := hE.blt
        have hfz := hE.frozen
        have hcell := hE.cell
        obtain ⟨rfl, rfl⟩ : cs = [.int .i64 x.member, .int .i64 x.upto] ∧ G = [] := hE.M
        have hc0 : wr.cell? ⟨B, i * 2, none⟩ = some (.int .i64 x.member) := hcell 0 _ rfl
        have hc1 : wr.cell? ⟨B, i * 2 + 1, none⟩ = some (.int .i64 x.upto) := hcell 1 _ rfl
        have E0 := hide hE
        clear HR hcell hcT hcL hx hrow hE hq1
        go_wp2_with fail
        have E1 := hide (E0.out.put HN.out 0 (.int .i64 (q)) ({ x with member := (q) }) (by decide) fun _ => ⟨rfl, rfl⟩)
        have E2 := hide (E1.out.put HN.out 1 (.int .i64 (q + 1)) ({ x with member := (q), upto := (q + 1) }) (by decide) fun _ => ⟨rfl, rfl⟩)
        obtain ⟨cur', css', hrow'⟩ := E2.out.row
        simp only [List.set_set] at hrow'
        have hmk : { x with member := (q), upto := (q + 1) } = mkMark q x := rfl
        have hmx : (mixed cntMark mkMark k xs i).set i (mkMark q x) = mixed cntMark mkMark k xs (i + 1) := by rw [HQ.out]; exact mixed_set k xs i HX.out
        rw [hmk, hmx] at hrow'
        go_roundg (xs.length - (i + 1))
        case measure => omega
        case rel =>
          refine ⟨i + 1, q + 1 + 1, by omega, by omega, rfl, by go_num, by omega, hide (by have h1 := HQ.out; have h2 := HT.out; have h3 : cntMark x = 2 := rfl; rw [h2]; omega), hide ⟨cur', css', hrow'⟩, hide ?_⟩
          exact ((((HW.out).setCell (.inl (by simp)) _)).setCell (.inl (by simp)) _)
      · have : i = xs.length := by omega
        subst this
        go_wp2
        go_ret
        obtain ⟨cur, css, hrow⟩ := HR.out
        rw [mixed_all] at hrow
        have hq := HQ.out
        rw [List.take_length] at hq
        refine ⟨by rw [← hq]; rfl, ?_, HW.out⟩
        have hS := hrow.M
        rwa [markAll_len] at hS
/-! ### Presence -/
def sizePresence (x : Presence) : Nat := x.here.length + x.typing.length + x.marks.length
def fewPresence (x : Presence) : Prop := x.here.length ≤ 1048576 ∧ x.typing.length ≤ 1048576 ∧ x.marks.length ≤ 1048576
def eqPresenceB (a b : Presence) : Bool := !(!(decide (a.here = b.here))) && !(!(decide (a.typing = b.typing))) && !(!(decide (a.marks = b.marks)))
theorem eqPresenceB_iff (a b : Presence) : eqPresenceB a b = true ↔ a = b := by
  cases a; cases b
  simp [eqPresenceB, bytes_eq, and_assoc]
theorem eqPresenceB_eq (a b : Presence) : eqPresenceB a b = decide (a = b) := by
  rw [Bool.eq_iff_iff, eqPresenceB_iff, decide_eq_true_iff]
set_option maxHeartbeats 2000000 in
theorem eqPresence_c (x y : Presence) (v0 v1 v2 u0 u1 u2 : Value) (w : World) (h0 : SliceK leaseD w v0 x.here) (h1 : SliceK leaseD w v1 x.typing) (h2 : SliceK markD w v2 x.marks) (g0 : SliceK leaseD w u0 y.here) (g1 : SliceK leaseD w u1 y.typing) (g2 : SliceK markD w u2 y.marks) :
    Calls Try.prog 11 #[.agg #[v0, v1, v2], .agg #[u0, u1, u2]] w fun e w' => e = .returned (.bool (eqPresenceB x y)) ∧ Below w.heap.size w w' := by
  have H0 := hide h0
  have G0 := hide g0
  have H1 := hide h1
  have G1 := hide g1
  have H2 := hide h2
  have G2 := hide g2
  clear h0 g0 h1 g1 h2 g2
  have HB := hide (((Below.refl w.heap.size w).alloc (Nat.le_refl _) (.cells #[v0, v1, v2] 37)).alloc (by simp) (.cells #[u0, u1, u2] 37))
  go_enter Try.func11, Try.ntmps11
  go_wp2_with (first | (go_at_call 33; ((with_reducible refine (eqLeaseS_c _ _ _ _ _ (H0.out.below HB.out) (G0.out.below HB.out)).mono ?_); rintro e w1 ⟨rfl, hb1⟩; have HN := hide (HB.out.trans (hb1.mono HB.out.size)); obtain ⟨hc, hf, hs⟩ := bcell hb1; have hz : w.heap.size + 1 < w1.heap.size := (by ((try simp only [World.size_alloc] at hs); omega)); have hy : w.heap.size < w1.heap.size := (by omega); clear hs hb1 HB; have HB := HN; clear HN)) | (go_at_call 33; ((with_reducible refine (eqLeaseS_c _ _ _ _ _ (H1.out.below HB.out) (G1.out.below HB.out)).mono ?_); rintro e w1 ⟨rfl, hb1⟩; have HN := hide (HB.out.trans (hb1.mono HB.out.size)); obtain ⟨hc, hf, hs⟩ := bcell hb1; have hz : w.heap.size + 1 < w1.heap.size := (by ((try simp only [World.size_alloc] at hs); omega)); have hy : w.heap.size < w1.heap.size := (by omega); clear hs hb1 HB; have HB := HN; clear HN)) | (go_at_call 34; ((with_reducible refine (eqMarkS_c _ _ _ _ _ (H2.out.below HB.out) (G2.out.below HB.out)).mono ?_); rintro e w1 ⟨rfl, hb1⟩; have HN := hide (HB.out.trans (hb1.mono HB.out.size)); obtain ⟨hc, hf, hs⟩ := bcell hb1; have hz : w.heap.size + 1 < w1.heap.size := (by ((try simp only [World.size_alloc] at hs); omega)); have hy : w.heap.size < w1.heap.size := (by omega); clear hs hb1 HB; have HB := HN; clear HN)))
  all_goals
    go_ret
    refine ⟨?_, HB.out⟩
    first
    | (rw [show eqPresenceB x y = false from by simp only [eqPresenceB, decide_true, decide_false, Bool.not_true, Bool.not_false, Bool.and_false, Bool.false_and, Bool.and_true, Bool.true_and, *]]; rfl)
    | (rw [show eqPresenceB x y = true from by simp only [eqPresenceB, decide_true, decide_false, Bool.not_true, Bool.not_false, Bool.and_false, Bool.false_and, Bool.and_true, Bool.true_and, *]]; rfl)
set_option maxHeartbeats 2000000 in
theorem toPresence_c (x : Presence) (v0 v1 v2 : Value) (w : World) (h0 : SliceK leaseD w v0 x.here) (h1 : SliceK leaseD w v1 x.typing) (h2 : SliceK markD w v2 x.marks) (hw : fewPresence x) :
    Calls Try.prog 7 #[.agg #[v0, v1, v2]] w (RetElem presenceD w x) := by
  unfold fewPresence at hw
  obtain ⟨n0, n1, n2⟩ := hw
  have H0 := hide h0
  have H1 := hide h1
  have H2 := hide h2
  clear h0 h1 h2
  go_enter Try.func7, Try.ntmps7
  go_wp2_with fail
  refine (toLeaseS_c _ x.here _ (H0.out.below ?hb0) n0).mono ?_
  case hb0 => exact ((((Below.refl _ _).alloc (Nat.le_refl _) _).alloc (by simp) _).alloc (by simp; omega) _)
  rintro e w1 ⟨v, rfl, hM, hb1⟩
  obtain ⟨A0, c0, rfl⟩ := hM.shape
  have HM0 := hide hM
  have HS0 := hide hb1
  have HB0 := hide (((((Below.refl _ _).alloc (Nat.le_refl _) _).alloc (by simp) _).alloc (by simp; omega) _).trans (hb1.mono (by simp; omega)) : Below w.heap.size w w1)
  obtain ⟨hc0, hf0, hs0⟩ := bcell hb1
  simp only [World.size_alloc, World.size_setCell] at hs0
  have hz0 : w.heap.size + 1 + 1 < w1.heap.size := by omega
  have hy0 : w.heap.size < w1.heap.size := by omega
  have hle0 : w.heap.size ≤ w1.heap.size := by omega
  have hx0 : w.heap.size + 1 < w1.heap.size := by omega
  clear hM hb1 hs0
  go_wp2_with fail
  refine (toLeaseS_c _ x.typing _ (H1.out.below ?hb1) n1).mono ?_
  case hb1 => exact (HB0.out.trans (Chg.below (F := [w.heap.size + 1, w.heap.size + 1 + 1]) (by ((repeat (with_reducible refine Chg.setCell ?_ (.inl (by simp)) _)); exact Chg.refl _ _)) (by omega) (by intro k hk; simp at hk; omega)))
  rintro e w2 ⟨v, rfl, hM, hb1⟩
  obtain ⟨A1, c1, rfl⟩ := hM.shape
  have HM1 := hide hM
  have HS1 := hide hb1
  have HB1 := hide ((HB0.out.trans (Chg.below (F := [w.heap.size + 1, w.heap.size + 1 + 1]) (by ((repeat (with_reducible refine Chg.setCell ?_ (.inl (by simp)) _)); exact Chg.refl _ _)) (by omega) (by intro k hk; simp at hk; omega))).trans (hb1.mono (by simp; omega)) : Below w.heap.size w w2)
  obtain ⟨hc1, hf1, hs1⟩ := bcell hb1
  simp only [World.size_alloc, World.size_setCell] at hs1
  have hz1 : w.heap.size + 1 + 1 < w2.heap.size := by omega
  have hy1 : w.heap.size < w2.heap.size := by omega
  have hle1 : w1.heap.size ≤ w2.heap.size := by omega
  have hx1 : w.heap.size + 1 < w2.heap.size := by omega
  clear hM hb1 hs1
  go_wp2_with fail
  refine (toMarkS_c _ x.marks _ (H2.out.below ?hb2) n2).mono ?_
  case hb2 => exact (HB1.out.trans (Chg.below (F := [w.heap.size + 1, w.heap.size + 1 + 1]) (by ((repeat (with_reducible refine Chg.setCell ?_ (.inl (by simp)) _)); exact Chg.refl _ _)) (by omega) (by intro k hk; simp at hk; omega)))
  rintro e w3 ⟨v, rfl, hM, hb1⟩
  obtain ⟨A2, c2, rfl⟩ := hM.shape
  have HM2 := hide hM
  have HS2 := hide hb1
  have HB2 := hide ((HB1.out.trans (Chg.below (F := [w.heap.size + 1, w.heap.size + 1 + 1]) (by ((repeat (with_reducible refine Chg.setCell ?_ (.inl (by simp)) _)); exact Chg.refl _ _)) (by omega) (by intro k hk; simp at hk; omega))).trans (hb1.mono (by simp; omega)) : Below w.heap.size w w3)
  obtain ⟨hc2, hf2, hs2⟩ := bcell hb1
  simp only [World.size_alloc, World.size_setCell] at hs2
  have hz2 : w.heap.size + 1 + 1 < w3.heap.size := by omega
  have hy2 : w.heap.size < w3.heap.size := by omega
  have hle2 : w2.heap.size ≤ w3.heap.size := by omega
  have hx2 : w.heap.size + 1 < w3.heap.size := by omega
  clear hM hb1 hs2
  go_wp2_with fail
  have HZ : Hid (∀ wz, Chg [w.heap.size + 1, w.heap.size + 1 + 1] w3 wz → RetElem presenceD w x (.returned (.agg #[.slice A0 x.here.length c0, .slice A1 x.typing.length c1, .slice A2 x.marks.length c2])) wz) := by
    intro wz hch
    have c0_ : Chg [w.heap.size + 1, w.heap.size + 1 + 1] w1 wz := ((Chg.trans (b := _) (by ((repeat (with_reducible refine Chg.setCell ?_ (.inl (by simp)) _)); exact Chg.refl _ _)) (Chg.of_below HS1.out [w.heap.size + 1, w.heap.size + 1 + 1])).trans ((Chg.trans (b := _) (by ((repeat (with_reducible refine Chg.setCell ?_ (.inl (by simp)) _)); exact Chg.refl _ _)) (Chg.of_below HS2.out [w.heap.size + 1, w.heap.size + 1 + 1])).trans hch))
    obtain ⟨F0, hm0, hn0, hF0⟩ := HM0.out
    have hl0 := hm0.lt
    have m0 := hm0.move fun b hb => c0_.block b (hl0 b hb) (by intro hg; have := hF0 b hb; simp at this hg; omega)
    have c1_ : Chg [w.heap.size + 1, w.heap.size + 1 + 1] w2 wz := ((Chg.trans (b := _) (by ((repeat (with_reducible refine Chg.setCell ?_ (.inl (by simp)) _)); exact Chg.refl _ _)) (Chg.of_below HS2.out [w.heap.size + 1, w.heap.size + 1 + 1])).trans hch)
    obtain ⟨F1, hm1, hn1, hF1⟩ := HM1.out
    have hl1 := hm1.lt
    have m1 := hm1.move fun b hb => c1_.block b (hl1 b hb) (by intro hg; have := hF1 b hb; simp at this hg; omega)
    have c2_ : Chg [w.heap.size + 1, w.heap.size + 1 + 1] w3 wz := hch
    obtain ⟨F2, hm2, hn2, hF2⟩ := HM2.out
    have hl2 := hm2.lt
    have m2 := hm2.move fun b hb => c2_.block b (hl2 b hb) (by intro hg; have := hF2 b hb; simp at this hg; omega)
    refine ⟨_, F0 ++ (F1 ++ F2), rfl, presence_M_mk m0 m1 m2, (nodup_app (m := w1.heap.size) hn0 (nodup_app (m := w2.heap.size) hn1 hn2 hl1 (by intro b hb; have := hF2 b hb; simp at this; omega)) hl0 (by intro b hb; simp only [List.mem_append] at hb; rcases hb with hb | hb <;> (first | (have := hF1 b hb; simp at this; omega) | (have := hF2 b hb; simp at this; omega)))), ?_, ?_⟩
    · intro b hb; simp only [List.mem_append] at hb; rcases hb with hb | hb | hb <;> (first | (have := hF0 b hb; simp at this; omega) | (have := hF1 b hb; simp at this; omega) | (have := hF2 b hb; simp at this; omega))
    · exact HB2.out.trans (hch.below (by omega) (by intro k hk; simp at hk; omega))
  refine bodyPost_ret (v := .agg #[.slice A0 x.here.length c0, .slice A1 x.typing.length c1, .slice A2 x.marks.length c2]) (by simp [results, Try.results7, go_sem, hc0, hz0, hy0, hx0, hc1, hz1, hy1, hx1, hc2, hz2, hy2, hx2]) rfl (HZ.out _ ?_)
  repeat (with_reducible refine Chg.setCell ?_ (.inl (by simp)) _)
  exact Chg.refl _ _
set_option maxHeartbeats 2000000 in
theorem szPresence_c (x : Presence) (v0 v1 v2 : Value) (left : Int) (w : World) (h0 : SliceK leaseD w v0 x.here) (h1 : SliceK leaseD w v1 x.typing) (h2 : SliceK markD w v2 x.marks) (b0 : 0 ≤ left) (b1 : left ≤ 1048576) :
    Calls Try.prog 4 #[.agg #[v0, v1, v2], .int .i64 left] w fun e w' => RetSz left (sizePresence x) e ∧ Below w.heap.size w w' := by
  have H0 := hide h0
  have H1 := hide h1
  have H2 := hide h2
  clear h0 h1 h2
  have HB := hide ((Below.refl w.heap.size w).alloc (Nat.le_refl _) (.cells #[v0, v1, v2] 25))
  go_enter Try.func4, Try.ntmps4
  go_wp2_with (first | (go_at_call 17; ((with_reducible refine (szLeaseS_c _ x.here _ _ (H0.out.below HB.out) (by omega) (by omega)).mono ?_); rintro e w1 ⟨⟨r0, rfl, hr0⟩, hb1⟩; have hd0 := szR_bd hr0 (by omega); have R0 := hide hr0; have HN := hide (HB.out.trans (hb1.mono HB.out.size)); obtain ⟨hc, hf, hs⟩ := bcell hb1; have hy : w.heap.size < w1.heap.size := (by ((try simp only [World.size_alloc] at hs); omega)); clear hs hb1 HB hr0; have HB := HN; clear HN)) | (go_at_call 17; ((with_reducible refine (szLeaseS_c _ x.typing _ _ (H1.out.below HB.out) (by omega) (by omega)).mono ?_); rintro e w1 ⟨⟨r1, rfl, hr1⟩, hb1⟩; have hd1 := szR_bd hr1 (by omega); have R1 := hide hr1; have HN := hide (HB.out.trans (hb1.mono HB.out.size)); obtain ⟨hc, hf, hs⟩ := bcell hb1; have hy : w.heap.size < w1.heap.size := (by ((try simp only [World.size_alloc] at hs); omega)); clear hs hb1 HB hr1; have HB := HN; clear HN)) | (go_at_call 18; ((with_reducible refine (szMarkS_c _ x.marks _ _ (H2.out.below HB.out) (by omega) (by omega)).mono ?_); rintro e w1 ⟨⟨r2, rfl, hr2⟩, hb1⟩; have hd2 := szR_bd hr2 (by omega); have R2 := hide hr2; have HN := hide (HB.out.trans (hb1.mono HB.out.size)); obtain ⟨hc, hf, hs⟩ := bcell hb1; have hy : w.heap.size < w1.heap.size := (by ((try simp only [World.size_alloc] at hs); omega)); clear hs hb1 HB hr2; have HB := HN; clear HN)))
  all_goals
    go_ret
    refine ⟨⟨_, rfl, ?_⟩, HB.out⟩
    try have e0 := szR_spec R0.out (by omega)
    try have e1 := szR_spec R1.out (by omega)
    try have e2 := szR_spec R2.out (by omega)
    unfold szR sizePresence
    split <;> omega
def tcntPresence (x : Presence) : Nat := cntAll cntLease x.here + cntAll cntLease x.typing + cntAll cntMark x.marks
def tmkPresence (k : Int) (x : Presence) : Presence := { x with here := markAll cntLease mkLease (k) x.here, typing := markAll cntLease mkLease (k + cntAll cntLease x.here) x.typing, marks := markAll cntMark mkMark (k + cntAll cntLease x.here + cntAll cntLease x.typing) x.marks }
theorem tcntPresence_mk (k : Int) (x : Presence) : tcntPresence (tmkPresence k x) = tcntPresence x := by simp [tcntPresence, tmkPresence, marks_len, cntAll_mark cntLease_mk, markAll_mark cntLease_mk mkLease_mk, cntAll_mark cntLease_mk, markAll_mark cntLease_mk mkLease_mk, cntAll_mark cntMark_mk, markAll_mark cntMark_mk mkMark_mk, marks_len]
theorem tmkPresence_mk (k : Int) (x : Presence) : tmkPresence k (tmkPresence k x) = tmkPresence k x := by simp [tmkPresence, marks_len, cntAll_mark cntLease_mk, markAll_mark cntLease_mk mkLease_mk, cntAll_mark cntLease_mk, markAll_mark cntLease_mk mkLease_mk, cntAll_mark cntMark_mk, markAll_mark cntMark_mk mkMark_mk, marks_len]
def theldPresence (k : Int) (x : Presence) : Int := if x = tmkPresence k x then k + tcntPresence x else -1
theorem theldPresence_nn {k : Int} (h : 0 ≤ k) (x : Presence) : theldPresence k x < 0 ↔ ¬ x = tmkPresence k x := by
  unfold theldPresence; split
  · rename_i h1; constructor
    · intro h2; omega
    · intro h2; exact absurd h1 h2
  · rename_i h1; exact ⟨fun _ => h1, fun _ => by omega⟩
theorem theldPresence_mk (k : Int) (x : Presence) : theldPresence k (tmkPresence k x) = k + tcntPresence x := by
  unfold theldPresence
  rw [if_pos (tmkPresence_mk k x).symm, tcntPresence_mk]
set_option maxHeartbeats 4000000 in
theorem markPresence_c (x : Presence) (cs : List Value) (F : List Nat) (k : Int) (w : World) (h : presenceD.M w x cs F) (hn : F.Nodup) (h0 : 0 ≤ k) (h1 : k + tcntPresence x ≤ 1000000000000) :
    Calls Try.prog 13 #[.agg cs.toArray, .int .i64 k] w (RetMarkT presenceD w (tcntPresence x) (tmkPresence k x) cs F k) := by
  unfold tcntPresence at h1
  obtain ⟨v0, v1, v2, F0, F1, F2, rfl, rfl, g0, g1, g2⟩ := presence_M h
  have hnn := hn
  simp only [List.nodup_append, List.mem_append] at hnn
  have HN := hide hn
  have HNN := hide hnn
  clear h hn hnn
  have M0 := hide g0
  have M1 := hide g1
  have M2 := hide g2
  clear g0 g1 g2
  have LT0 := hide (fun b hb => M0.out.lt b hb : ∀ b ∈ F0, b < w.heap.size)
  have LT1 := hide (fun b hb => M1.out.lt b hb : ∀ b ∈ F1, b < w.heap.size)
  have LT2 := hide (fun b hb => M2.out.lt b hb : ∀ b ∈ F2, b < w.heap.size)
  have HC := hide ((Chg.refl (F0 ++ (F1 ++ F2)) w).alloc (.cells #[v0, v1, v2] 37))
  have HB := hide (Below.refl w.heap.size w |>.alloc (Nat.le_refl _) (.cells #[v0, v1, v2] 37))
  have M0 := hide (M0.out.move (fun b hb => HB.out.block b (M0.out.lt b hb)))
  have M1 := hide (M1.out.move (fun b hb => HB.out.block b (M1.out.lt b hb)))
  have M2 := hide (M2.out.move (fun b hb => HB.out.block b (M2.out.lt b hb)))
  go_enter Try.func13, Try.ntmps13
  go_wp2_with fail
  refine (markLeaseS_c _ x.here _ _ _ M0.out (HNN.out.1) (by omega) (by omega)).mono ?_
  rintro e w1 ⟨rfl, hMk, hCk⟩
  have HK1 := hide hCk
  have HC := hide (HC.out.trans (hCk.mono (fun b hb => .inl (by simp [hb]))))
  have N0 := hide hMk
  have M1 := hide (M1.out.move (fun b hb => hCk.block b (M1.out.lt b hb) (fun hb2 => HNN.out.2.2 _ hb2 _ (.inl hb) rfl)))
  have M2 := hide (M2.out.move (fun b hb => hCk.block b (M2.out.lt b hb) (fun hb2 => HNN.out.2.2 _ hb2 _ (.inr hb) rfl)))
  clear hMk hCk
  have hbx1 : ∀ o, w1.cell? ⟨w.heap.size, o, none⟩ = (w.alloc (.cells #[v0, v1, v2] 37)).cell? ⟨w.heap.size, o, none⟩ := fun o => World.cell?_of_block (HK1.out.block w.heap.size (by simp) (fun hb => absurd (LT0.out _ hb) (by omega)))
  have hsz1 : w.heap.size < w1.heap.size := by have := HK1.out.size; simp only [World.size_alloc] at this; omega
  go_wp2_with fail
  refine (markLeaseS_c _ x.typing _ _ _ M1.out (HNN.out.2.1.1) (by omega) (by omega)).mono ?_
  rintro e w2 ⟨rfl, hMk, hCk⟩
  have HK2 := hide hCk
  have HC := hide (HC.out.trans (hCk.mono (fun b hb => .inl (by simp [hb]))))
  have N1 := hide hMk
  have N0 := hide (N0.out.move (fun b hb => hCk.block b (N0.out.lt b hb) (fun hb2 => HNN.out.2.2 _ hb _ (.inl hb2) rfl)))
  have M2 := hide (M2.out.move (fun b hb => hCk.block b (M2.out.lt b hb) (fun hb2 => HNN.out.2.1.2.2 _ hb2 _ hb rfl)))
  clear hMk hCk
  have hbx2 : ∀ o, w2.cell? ⟨w.heap.size, o, none⟩ = w1.cell? ⟨w.heap.size, o, none⟩ := fun o => World.cell?_of_block (HK2.out.block w.heap.size hsz1 (fun hb => absurd (LT1.out _ hb) (by omega)))
  have hsz2 : w.heap.size < w2.heap.size := Nat.lt_of_lt_of_le hsz1 HK2.out.size
  go_wp2_with fail
  refine (markMarkS_c _ x.marks _ _ _ M2.out (HNN.out.2.1.2.1) (by omega) (by omega)).mono ?_
  rintro e w3 ⟨rfl, hMk, hCk⟩
  have HK3 := hide hCk
  have HC := hide (HC.out.trans (hCk.mono (fun b hb => .inl (by simp [hb]))))
  have N2 := hide hMk
  have N0 := hide (N0.out.move (fun b hb => hCk.block b (N0.out.lt b hb) (fun hb2 => HNN.out.2.2 _ hb _ (.inr hb2) rfl)))
  have N1 := hide (N1.out.move (fun b hb => hCk.block b (N1.out.lt b hb) (fun hb2 => HNN.out.2.1.2.2 _ hb _ hb2 rfl)))
  clear hMk hCk
  go_wp2_with fail
  go_ret
  refine ⟨?_, presence_M_mk (x := tmkPresence k x) N0.out N1.out N2.out, HC.out⟩
  simp only [tcntPresence]
  exact ret_int (by first | rfl | omega)
end Go.Proofs.Ytodmongmaoeknaa
namespace Go.Proofs.Ytodmongmaoeknaa
open Go Go.RowKit Go.ChangeShapes Go.WideShapes Go.Deep
set_option linter.unusedVariables false

theorem opens_lease : Opens Try.prog leaseD (fun _ => True) 87 := by
  intro H enc W held fuel cs y h
  obtain ⟨hl, hf⟩ := open_fields Try.underlying87 (by kernel_rfl) (by kernel_rfl) h
  obtain ⟨v0, n0, z0, c0, t0⟩ := hf 0 _ rfl
  obtain ⟨v1, n1, z1, c1, t1⟩ := hf 1 _ rfl
  obtain ⟨x0, hx0, -, -⟩ := DataW.trod_int Try.underlying2 t0
  obtain ⟨x1, hx1, -, -⟩ := DataW.trod_int Try.underlying2 t1
  simp only [List.cons.injEq, and_true] at hx0 hx1
  subst hx0 hx1
  match cs, hl with
  | [_, _], _ =>
    simp at c0 c1
    subst c0 c1
    exact ⟨⟨x0, x1⟩, rfl, trivial⟩
theorem opens_mark : Opens Try.prog markD (fun _ => True) 89 := by
  intro H enc W held fuel cs y h
  obtain ⟨hl, hf⟩ := open_fields Try.underlying89 (by kernel_rfl) (by kernel_rfl) h
  obtain ⟨v0, n0, z0, c0, t0⟩ := hf 0 _ rfl
  obtain ⟨v1, n1, z1, c1, t1⟩ := hf 1 _ rfl
  obtain ⟨x0, hx0, -, -⟩ := DataW.trod_int Try.underlying2 t0
  obtain ⟨x1, hx1, -, -⟩ := DataW.trod_int Try.underlying2 t1
  simp only [List.cons.injEq, and_true] at hx0 hx1
  subst hx0 hx1
  match cs, hl with
  | [_, _], _ =>
    simp at c0 c1
    subst c0 c1
    exact ⟨⟨x0, x1⟩, rfl, trivial⟩
set_option maxRecDepth 100000 in
theorem open_presence {H : Type} {enc : TypeId × Value → H} {W : World} {held : Bool} {b0 : Nat} {v : Value} {d : DataW H} {ps : List MemPlace} (hv : Value.okWide Try.prog W .any b0 25 v)
    (h : DataW.Trod enc Try.prog W 0 (fun _ => true) held 25 v d ps) : ∃ (x : Presence) (v0 v1 v2 : Value), v = .agg #[v0, v1, v2] ∧ SliceK leaseD W v0 x.here ∧ SliceK leaseD W v1 x.typing ∧ SliceK markD W v2 x.marks := by
  obtain ⟨cs, rfl, hsz⟩ := okWide_struct Try.underlying25 hv
  obtain ⟨fuel, h⟩ := h
  obtain ⟨hl, hf⟩ := open_fields Try.underlying25 (by kernel_rfl) (by kernel_rfl) h
  obtain ⟨v0, n0, z0, c0, t0⟩ := hf 0 _ rfl
  obtain ⟨v1, n1, z1, c1, t1⟩ := hf 1 _ rfl
  obtain ⟨v2, n2, z2, c2, t2⟩ := hf 2 _ rfl
  obtain ⟨x0, hx0, -⟩ := opens_slice Try.underlying22 (by kernel_rfl) (by decide) opens_lease H enc W held n0 v0 _ t0
  obtain ⟨x1, hx1, -⟩ := opens_slice Try.underlying22 (by kernel_rfl) (by decide) opens_lease H enc W held n1 v1 _ t1
  obtain ⟨x2, hx2, -⟩ := opens_slice Try.underlying23 (by kernel_rfl) (by decide) opens_mark H enc W held n2 v2 _ t2
  obtain ⟨l⟩ := cs
  simp only [Value.cells] at c0 c1 c2 hl
  match l, hl with
  | [_, _, _], _ =>
    simp at c0 c1 c2
    subst c0 c1 c2
    exact ⟨⟨x0, x1, x2⟩, _, _, _, rfl, hx0, hx1, hx2⟩
end Go.Proofs.Ytodmongmaoeknaa
