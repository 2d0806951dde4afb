/- What a member has seen of a log: the program and the reference. -/
import Derived.Test.YtggonapnfiboeaaLogs
import Derived.Test.YtggonapnfiboeaaSpecLog
namespace Go.Proofs.Ytggonapnfiboeaa
open Go Go.RowKit Go.BigFrame
attribute [local go_sem] Calm.cell Calm.frozen
set_option linter.unusedVariables false
set_option linter.unusedSimpArgs false

theorem Made.none {α : Type} {d : Dt α} {e : TypeId} (w w' : World) : Made d e w w' (.slice none 0 0) [] := ⟨[], .inl ⟨rfl, rfl, rfl⟩, by simp, by simp⟩
/-- A returned row that was made behind w, and a Bool; nothing else has turned. -/
def RetMade2 {α : Type} (d : Dt α) (e : TypeId) (w : World) (xs : List α) (ok : Bool) (r : Ending) (w' : World) : Prop :=
  ∃ v, r = .returned (.tuple #[v, .bool ok]) ∧ Made d e w w' v xs ∧ Below w.heap.size w w'

def seenP (member since : Int) (m : Message) : Bool := decide (since ≤ m.number) && (!m.gone || decide (m.sender = member))
def seenOk (l : Log) (member since : Int) : Bool := validLogB l && inB member 1 1000 && inB since 0 1000000000
def seenL (l : Log) (member since : Int) : List Int := if seenOk l member since then pickNums (seenP member since) l.messages else []
theorem seenL_yes {l : Log} {member since : Int} (h : seenOk l member since = true) : seenL l member since = pickNums (seenP member since) l.messages := by simp [seenL, h]
theorem seenL_no {l : Log} {member since : Int} (h : seenOk l member since = false) : seenL l member since = [] := by simp [seenL, h]
theorem validLog_40 {l : Log} (h : validLogB l = true) : l.messages.length ≤ 40 := by
  simp only [validLogB, Bool.and_eq_true, decide_eq_true_eq] at h; omega

set_option maxHeartbeats 1000000 in
theorem seenBy1_c (m : Message) (v7 : Value) (b4 b5 : Nat) (member since : Int) (W : World) (h4 : W.cell? ⟨b4, 0, none⟩ = some (.int .i64 member)) (h5 : W.cell? ⟨b5, 0, none⟩ = some (.int .i64 since)) (H7 : SliceK intD W v7 m.likes) :
    Calls Try.prog 28 (#[.agg (msgArr m v7)] ++ #[.pointer (some ⟨b5, 0, none⟩), .pointer (some ⟨b4, 0, none⟩)]) W fun e W' => e = .returned (.bool (seenP member since m)) ∧ Below W.heap.size W W' := by
  show Calls Try.prog 28 #[.agg #[.int .i64 m.number, .int .i64 m.sender, .int .i64 m.at_, .string m.text, .int .i64 m.edits, .bool m.gone, .int .i64 m.reply, v7], .pointer (some ⟨b5, 0, none⟩), .pointer (some ⟨b4, 0, none⟩)] W _
  obtain ⟨A, c, rfl⟩ := H7.shape
  have hl4 := World.block_lt_of_cell? W _ h4
  have hl5 := World.block_lt_of_cell? W _ h5
  simp only [] at hl4 hl5
  clear H7
  go_enter Try.func28, Try.ntmps28
  go_wp2_with fail
  all_goals
    go_ret
    refine ⟨?_, (Below.refl _ _).alloc (Nat.le_refl _) _⟩
    refine ret_bool ?_
    first
    | (simp [seenP, *]; done)
    | (simp [seenP, *]; omega)
    | (rw [Bool.eq_iff_iff]; simp [seenP, *]; done)
    | (rw [Bool.eq_iff_iff]; simp [seenP, *]; omega)
set_option maxHeartbeats 4000000 in
theorem seenBy_c (l : Log) (v1 : Value) (member since : Int) (w : World) (h1 : SliceK messageD w v1 l.messages) (ht : okTexts l.messages) :
    Calls Try.prog 8 #[.agg #[.int .i64 l.next, v1], .int .i64 member, .int .i64 since] w (RetMade2 intD 2 w (seenL l member since) (seenOk l member since)) := by
  obtain ⟨A, c, rfl⟩ := h1.shape
  have H1 := hide h1
  have HT := hide ht
  clear h1 ht
  have HW := hide ((((Below.refl w.heap.size w).alloc (Nat.le_refl _) (.cells #[.int .i64 l.next, .slice A l.messages.length c] 31)).alloc (by simp) (.cells #[.int .i64 member] 2)).alloc (by simp; omega) (.cells #[.int .i64 since] 2))
  have HBX := hide (((RowAt.box (d := logD) (x := l) (log_K_mk H1.out) (arr := #[.int .i64 l.next, .slice A l.messages.length c]) rfl 31).below ((Below.refl _ _).alloc (Nat.le_refl _) (.cells #[.int .i64 member] 2))).below ((Below.refl _ _).alloc (Nat.le_refl _) (.cells #[.int .i64 since] 2)))
  have HC4 := hide (show (((w.alloc (.cells #[.int .i64 l.next, .slice A l.messages.length c] 31)).alloc (.cells #[.int .i64 member] 2)).alloc (.cells #[.int .i64 since] 2)).cell? ⟨w.heap.size + 1, 0, none⟩ = some (.int .i64 member) by go_simp)
  have HC5 := hide (show (((w.alloc (.cells #[.int .i64 l.next, .slice A l.messages.length c] 31)).alloc (.cells #[.int .i64 member] 2)).alloc (.cells #[.int .i64 since] 2)).cell? ⟨w.heap.size + 1 + 1, 0, none⟩ = some (.int .i64 since) by go_simp)
  by_cases hv : validLogB l = true
  · have h40 := validLog_40 hv
    have HV := hide hv
    clear hv
    have eg := enters_of Try.func28 (by kernel_rfl) rfl
    go_enter Try.func8, Try.ntmps8
    go_wp2_with (first
      | (go_at_call 24
         refine (validLog_c l _ _ (H1.out.below HW.out) HT.out).mono ?_
         rintro e w1 ⟨rfl, hb⟩
         rw [HV.out]
         obtain ⟨iq, rfl⟩ : ∃ i : Calm _, w1 = i.world := ⟨⟨w1, hb⟩, rfl⟩
         clear hb
         have hz := iq.size
         simp only [World.size_alloc] at hz)
      | (go_at_call 25; refine (isMember_c _ _).mono ?_; rintro e w' ⟨rfl, rfl⟩)
      | (go_at_call 26; refine (in_c _ _ _ _).mono ?_; rintro e w' ⟨rfl, rfl⟩)
      | (go_at_call 27
         refine (numbers_c _ _ (seenP member since) l _ _ _ (HBX.out.below iq.below) h40 eg (fun m v7 W hbW h7 => seenBy1_c m v7 _ _ member since W (cell_below hbW (cell_below iq.below HC4.out)) (cell_below hbW (cell_below iq.below HC5.out)) h7)).mono ?_
         rintro e w2 ⟨v, rfl, hmade, hb2⟩
         obtain ⟨A2, c2, rfl⟩ := hmade.shape
         have HMD := hide hmade
         have HB2 := hide hb2
         clear hmade hb2))
    all_goals
      go_ret2
      try simp only [Bool.not_eq_true', Bool.not_eq_false'] at *
      first
      | (rw [seenL_yes (by simp [seenOk, HV.out, *]), show seenOk l member since = true by simp [seenOk, HV.out, *]]
         have hz1 := HW.out.size
         have hz2 := iq.size
         exact ⟨_, rfl, HMD.out.lower (Nat.le_trans hz1 hz2), (HW.out.trans (iq.below.mono hz1)).trans (HB2.out.mono (Nat.le_trans hz1 hz2))⟩)
      | (rw [seenL_no (by simp [seenOk, HV.out, *]), show seenOk l member since = false by simp [seenOk, HV.out, *]]
         exact ⟨_, rfl, Made.none _ _, HW.out.trans (iq.below.mono HW.out.size)⟩)
  · have HV := hide (show validLogB l = false by simpa using hv)
    clear hv
    go_enter Try.func8, Try.ntmps8
    go_wp2_with (first
      | (go_at_call 24
         refine (validLog_c l _ _ (H1.out.below HW.out) HT.out).mono ?_
         rintro e w1 ⟨rfl, hb⟩
         rw [HV.out]
         obtain ⟨iq, rfl⟩ : ∃ i : Calm _, w1 = i.world := ⟨⟨w1, hb⟩, rfl⟩
         clear hb))
    go_ret2
    rw [seenL_no (by simp [seenOk, HV.out]), show seenOk l member since = false by simp [seenOk, HV.out]]
    exact ⟨_, rfl, Made.none _ _, HW.out.trans (iq.below.mono HW.out.size)⟩
theorem seenP_no1 {member since : Int} {m : Message} (h : m.number < since) : seenP member since m = false := by simp [seenP]; intro h2; omega
theorem seenP_no2 {member since : Int} {m : Message} (h : m.gone = true) (h2 : ¬ m.sender = member) : seenP member since m = false := by simp [seenP, h, h2]
theorem seenP_yes1 {member since : Int} {m : Message} (h : since ≤ m.number) (h2 : m.gone = false) : seenP member since m = true := by simp [seenP, h, h2]
theorem seenP_yes2 {member since : Int} {m : Message} (h : since ≤ m.number) (h2 : m.sender = member) : seenP member since m = true := by simp [seenP, h, h2]
set_option maxHeartbeats 4000000 in
theorem specSeenBy_c (l : Log) (v1 : Value) (member since : Int) (w : World) (h1 : SliceK messageD w v1 l.messages) (ht : okTexts l.messages) :
    Calls Try.prog 6 #[.agg #[.int .i64 l.next, v1], .int .i64 member, .int .i64 since] w (RetMade2 intD 2 w (seenL l member since) (seenOk l member since)) := by
  have HBX := hide (RowAt.box (d := logD) (x := l) (log_K_mk h1) (arr := #[.int .i64 l.next, v1]) rfl 31)
  obtain ⟨A, c, rfl, hl, hm, hra⟩ := h1
  have HA := hide hra
  have HT := hide ht
  clear hra ht
  have HW := hide ((Below.refl w.heap.size w).alloc (Nat.le_refl _) (.cells #[.int .i64 l.next, .slice A l.messages.length c] 31))
  by_cases hok : seenOk l member since = true
  · have hok2 := hok
    simp only [seenOk, Bool.and_eq_true] at hok2
    obtain ⟨⟨hv, hmem⟩, hsin⟩ := hok2
    have h40 := validLog_40 hv
    have HV := hide hv
    have HME := hide hmem
    have HSI := hide hsin
    have HOK := hide hok
    clear hok hv hmem hsin
    go_enter Try.func6, Try.ntmps6
    go_wp2_with (first
      | (go_at_call 20
         refine (l03Is_c l _ _ _ HBX.out HT.out).mono ?_
         rintro e w1 ⟨rfl, hb⟩
         rw [HV.out]
         obtain ⟨iq, rfl⟩ : ∃ i : Calm _, w1 = i.world := ⟨⟨w1, hb⟩, rfl⟩
         clear hb
         have hz := iq.size
         simp only [World.size_alloc] at hz
         have hbq1 : iq.world.cell? ⟨w.heap.size, 1, none⟩ = some (.slice A l.messages.length c) := by go_simp
         have hlz : w.heap.size < iq.world.heap.size := by omega)
      | (go_at_call 21; refine (l01Member_c _ _).mono ?_; rintro e w' ⟨rfl, rfl⟩; rw [HME.out])
      | (go_at_call 22; refine (l00In_is HSI.out _).mono ?_; rintro e w' ⟨rfl, rfl⟩))
    have HWQ := hide (HW.out.trans (iq.below.mono (by simp)))
    go_loopg [8, 27] l.messages.length (fun gg s8 s27 wr => ∃ k : Nat, k ≤ l.messages.length ∧ l.messages.length - k ≤ gg ∧ s27 = .int .i64 k ∧ Hid (Made intD 2 iq.world wr s8 (pickNums (seenP member since) (l.messages.take k))) ∧ Hid (Below iq.world.heap.size iq.world wr))
    case atStart => exact ⟨0, Nat.zero_le _, by omega, rfl, hide ⟨_, emptyM _, by simp, by simp⟩, (Below.refl _ _).alloc (Nat.le_refl _) _⟩
    case round =>
      obtain ⟨k, hk, hg, rfl, HM, HB⟩ := hrel
      have hb1 := cell_below HB.out hbq1
      have hlr : w.heap.size < wr.heap.size := Nat.lt_of_lt_of_le hlz HB.out.size
      by_cases hlt : k < l.messages.length
      · obtain ⟨m, hx⟩ : ∃ m, l.messages[k]? = some m := ⟨_, List.getElem?_eq_getElem hlt⟩
        rcases HA.out with hnil | ⟨q, o2, rfl, hra⟩
        · rw [hnil] at hlt; simp at hlt
        obtain ⟨v7, h7, hq, hc0, hc1, hc2, hc3, hc4, hc5, hc6, hc7⟩ := message_at hra (HWQ.out.trans (HB.out.mono HWQ.out.size)) hx
        obtain ⟨A7, c7, rfl⟩ := h7.shape
        obtain ⟨F, hM, hF, hFB⟩ := HM.out
        obtain ⟨A5, c5, rfl⟩ := hM.toK.shape
        have HX := hide hx
        have HM2 := hide (And.intro hM (And.intro hF hFB))
        have hlt2 : (k : Int) < (l.messages.length : Int) := by omega
        have hpl : (pickNums (seenP member since) (l.messages.take k)).length < 1048576 := by have := pickNums_len (seenP member since) (l.messages.take k); simp at this; omega
        clear hx hra HA h7 hM hF hFB HM hbq1
        by_cases h1 : since ≤ m.number
        · by_cases h2 : m.gone = true
          · by_cases h3 : m.sender = member
            · have HPM := hide (seenP_yes2 h1 h3)
              go_wp2_with (
                (at_builtin
                 obtain ⟨hM, hF, hFB⟩ := HM2.out
                 refine wpList_app_int _ rfl _ _ _ rfl Try.underlying26 infoInt _ _ F rfl (hM.move fun b hb => (((Below.refl wr.heap.size wr).alloc (Nat.le_refl _) _).alloc (by simp) _).block b (hM.lt b hb)) hF _ _ m.number rfl (by go_simp) hpl ?_
                 intro g2 cap2 w2 F2 hap
                 have HAP := hide hap
                 clear hap hM hF hFB))
              go_roundg (l.messages.length - (k + 1))
              case measure => omega
              case rel =>
                obtain ⟨hM, hF, hFB⟩ := HM2.out
                have hap := HAP.out
                have hz2 := HB.out.size
                have hge : ∀ x ∈ F2, iq.world.heap.size ≤ x := fun x hx2 => by
                  rcases hap.from_ x hx2 with h | h | h
                  · exact hFB x h
                  · simp at h
                  · rw [h]; simp; omega
                refine ⟨k + 1, by omega, by omega, by go_num, hide ⟨F2, ?_, hap.nodup, hge⟩, hide ((HB.out.trans ((((Below.refl wr.heap.size wr).alloc (Nat.le_refl _) _).alloc (by simp) _).mono HB.out.size)).trans (hap.chg.below (by simp; omega) hFB))⟩
                rw [pickNums_yes HX.out HPM.out]
                have := hap.m
                rwa [show (pickNums (seenP member since) (l.messages.take k)).length + 1 = (pickNums (seenP member since) (l.messages.take k) ++ [m.number]).length by simp] at this ⊢
            · have HPM := hide (seenP_no2 (since := since) h2 h3)
              go_wp2_with fail
              go_roundg (l.messages.length - (k + 1))
              case measure => omega
              case rel =>
                obtain ⟨hM, hF, hFB⟩ := HM2.out
                refine ⟨k + 1, by omega, by omega, by go_num, hide ⟨F, ?_, hF, hFB⟩, hide (HB.out.trans (((Below.refl wr.heap.size wr).alloc (Nat.le_refl _) _).mono HB.out.size))⟩
                rw [pickNums_no HX.out HPM.out]
                exact hM.move fun b hb => ((Below.refl wr.heap.size wr).alloc (Nat.le_refl _) _).block b (hM.lt b hb)
          · have h2' : m.gone = false := by simpa using h2
            have HPM := hide (seenP_yes1 (member := member) h1 h2')
            clear h2
            go_wp2_with (
              (at_builtin
               obtain ⟨hM, hF, hFB⟩ := HM2.out
               refine wpList_app_int _ rfl _ _ _ rfl Try.underlying26 infoInt _ _ F rfl (hM.move fun b hb => (((Below.refl wr.heap.size wr).alloc (Nat.le_refl _) _).alloc (by simp) _).block b (hM.lt b hb)) hF _ _ m.number rfl (by go_simp) hpl ?_
               intro g2 cap2 w2 F2 hap
               have HAP := hide hap
               clear hap hM hF hFB))
            go_roundg (l.messages.length - (k + 1))
            case measure => omega
            case rel =>
              obtain ⟨hM, hF, hFB⟩ := HM2.out
              have hap := HAP.out
              have hz2 := HB.out.size
              have hge : ∀ x ∈ F2, iq.world.heap.size ≤ x := fun x hx2 => by
                rcases hap.from_ x hx2 with h | h | h
                · exact hFB x h
                · simp at h
                · rw [h]; simp; omega
              refine ⟨k + 1, by omega, by omega, by go_num, hide ⟨F2, ?_, hap.nodup, hge⟩, hide ((HB.out.trans ((((Below.refl wr.heap.size wr).alloc (Nat.le_refl _) _).alloc (by simp) _).mono HB.out.size)).trans (hap.chg.below (by simp; omega) hFB))⟩
              rw [pickNums_yes HX.out HPM.out]
              have := hap.m
              rwa [show (pickNums (seenP member since) (l.messages.take k)).length + 1 = (pickNums (seenP member since) (l.messages.take k) ++ [m.number]).length by simp] at this ⊢
        · have HPM := hide (seenP_no1 (member := member) (Int.not_le.1 h1))
          go_wp2_with fail
          go_roundg (l.messages.length - (k + 1))
          case measure => omega
          case rel =>
            obtain ⟨hM, hF, hFB⟩ := HM2.out
            refine ⟨k + 1, by omega, by omega, by go_num, hide ⟨F, ?_, hF, hFB⟩, hide (HB.out.trans (((Below.refl wr.heap.size wr).alloc (Nat.le_refl _) _).mono HB.out.size))⟩
            rw [pickNums_no HX.out HPM.out]
            exact hM.move fun b hb => ((Below.refl wr.heap.size wr).alloc (Nat.le_refl _) _).block b (hM.lt b hb)
      · have : k = l.messages.length := by omega
        subst this
        have hm2 := HM.out
        rw [List.take_length] at hm2
        obtain ⟨A5, c5, rfl⟩ := hm2.shape
        have HM2 := hide hm2
        clear HM hm2 HA
        go_wp2_with fail
        go_ret2
        rw [seenL_yes HOK.out, HOK.out]
        exact ⟨_, rfl, HM2.out.lower (by have := HWQ.out.size; exact this), HWQ.out.trans (HB.out.mono HWQ.out.size)⟩
  · have HOK := hide (show seenOk l member since = false by simpa using hok)
    clear hok
    go_enter Try.func6, Try.ntmps6
    go_wp2_with (first
      | (go_at_call 20
         refine (l03Is_c l _ _ _ HBX.out HT.out).mono ?_
         rintro e w1 ⟨rfl, hb⟩
         obtain ⟨iq, rfl⟩ : ∃ i : Calm _, w1 = i.world := ⟨⟨w1, hb⟩, rfl⟩
         clear hb
         have hz := iq.size
         simp only [World.size_alloc] at hz
         have hbq1 : iq.world.cell? ⟨w.heap.size, 1, none⟩ = some (.slice A l.messages.length c) := by go_simp
         have hlz : w.heap.size < iq.world.heap.size := by omega)
      | (go_at_call 21; refine (l01Member_c _ _).mono ?_; rintro e w' ⟨rfl, rfl⟩)
      | (go_at_call 22; refine (l00In_c _ _ _ _).mono ?_; rintro e w' ⟨rfl, rfl⟩))
    all_goals first
    | (exfalso
       try simp only [Bool.not_eq_true', Bool.not_eq_false'] at *
       have h9 := HOK.out
       simp [seenOk, *] at h9
       done)
    | (go_ret2
       rw [seenL_no HOK.out, HOK.out]
       exact ⟨_, rfl, Made.none _ _, HW.out.trans (iq.below.mono (by simp))⟩)
end Go.Proofs.Ytggonapnfiboeaa
