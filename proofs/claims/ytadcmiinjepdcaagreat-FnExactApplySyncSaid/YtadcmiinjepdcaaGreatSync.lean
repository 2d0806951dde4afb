/- What a device is sent is applied: the program and the reference. -/
import Derived.Test.YtadcmiinjepdcaaGreatHist
namespace Go.Proofs.YtadcmiinjepdcaaGreat
open Go Go.RowKit Go.BigFrame
attribute [local go_sem] Calm.cell Calm.frozen
set_option linter.unusedVariables false
set_option linter.unusedSimpArgs false

def fewB (l : Log) : Prop := l.messages.length ≤ 1048576 ∧ ∀ m ∈ l.messages, m.likes.length ≤ 1048576
set_option maxHeartbeats 4000000 in
set_option maxRecDepth 100000 in
theorem l03OwnB_c (l : Log) (b o : Nat) (w : World) (hp : RowAt logD w b o [l]) (hf : fewB l) :
    Calls Tryz.prog 44 #[.pointer (some ⟨b, o, none⟩)] w (RetElem logD w l) := by
  obtain ⟨v1, h1, hbz, hb0, hb1⟩ := log_at hp (Below.refl _ _) (j := 0) rfl
  simp only [Nat.zero_mul, Nat.add_zero] at hb0 hb1
  obtain ⟨A, c, rfl, hl, hm, hra⟩ := h1
  have HA := hide hra
  have h40 := hf.1
  have HF := hide hf.2
  clear hra hp hf
  have hbz1 : b < w.heap.size + 1 := by omega
  have hbz2 : b < w.heap.size + 1 + 1 := by omega
  have hbz3 : b < w.heap.size + 1 + 1 + 1 := by omega
  go_enter Tryz.func44, Tryz.ntmps44
  go_wp2_with fail
  go_loopg [17] l.messages.length (fun gg s17 wr => ∃ k : Nat, k ≤ l.messages.length ∧ l.messages.length - k ≤ gg ∧ s17 = .int .i64 k ∧ Hid (OwnAt wr w.heap.size (w.heap.size + 1 + 1) l.next (l.messages.take k)) ∧ Hid (Below w.heap.size w wr))
  case atStart =>
    refine ⟨0, Nat.zero_le _, by omega, rfl, hide ⟨.slice (some ⟨w.heap.size + 1, 0, none⟩) 0 0, [w.heap.size + 1], ?_, ?_, by simp, by simp, by simp, by omega, ?_⟩, hide ((((Below.refl _ _).alloc (Nat.le_refl _) _).alloc (by simp) _).alloc (by simp; omega) _)⟩
    · have := alloc_new ((w.alloc (.cells #[.int .i64 0, .slice none 0 0] 31)).alloc (.cells #[] 90)) (.cells #[.int .i64 l.next, .slice (some ⟨w.heap.size + 1, 0, none⟩) 0 0] 31)
      simpa using this
    · have := emptyM (d := messageD) (e := 90) (w.alloc (.cells #[.int .i64 0, .slice none 0 0] 31))
      simp only [World.size_alloc] at this
      exact this.move fun x hx => alloc_old _ _ (by simp at hx ⊢; omega)
    · rw [alloc_old _ _ (by simp; omega), alloc_old _ _ (by simp)]
      exact alloc_new w _
  case round =>
    obtain ⟨k, hk, hg, rfl, HO, HB⟩ := hrel
    have hb1 := cell_below HB.out hb1
    have hbr := Nat.lt_of_lt_of_le hbz HB.out.size
    clear hbz1 hbz2 hbz3
    obtain ⟨sv, F, h3, hM, hF, hFB, h3F, h03, h0⟩ := HO.out
    obtain ⟨A5, c5, rfl⟩ := hM.toK.shape
    have htl : (l.messages.take k).length = k := by rw [List.length_take]; omega
    rw [htl] at hM h3
    have x0 : wr.cell? ⟨w.heap.size + 1 + 1, 0, none⟩ = some (.int .i64 l.next) := by rw [cell_block h3]; rfl
    have x1 : wr.cell? ⟨w.heap.size + 1 + 1, 1, none⟩ = some (.slice A5 k c5) := by rw [cell_block h3]; rfl
    have hl3 := block_lt h3
    by_cases hlt : k < l.messages.length
    · obtain ⟨m, hx⟩ : ∃ m, l.messages[k]? = some m := ⟨_, List.getElem?_eq_getElem hlt⟩
      rcases HA.out with hnil | ⟨q, o2, rfl, hra⟩
      · rw [hnil] at hlt; simp at hlt
      obtain ⟨v7, h7, hq, hc0, hc1, hc2, hc3, hc4, hc5, hc6, hc7⟩ := message_at hra HB.out hx
      obtain ⟨A7, c7, rfl⟩ := h7.shape
      have HX := hide hx
      have H7 := hide h7
      have HLK := hide (HF.out m (List.mem_of_getElem? hx))
      have HS := hide (And.intro h3 (And.intro hFB (And.intro h3F (And.intro h03 h0))))
      have HM := hide (And.intro hM hF)
      have hlt2 : (k : Int) < (l.messages.length : Int) := by omega
      have hbr1 : b < wr.heap.size + 1 := by omega
      clear hx hra HA h7 hM hF hFB h3F h03 h0 h3
      have HBX := hide ((Below.refl wr.heap.size wr).alloc (Nat.le_refl _) (.cells #[.int .i64 m.number, .int .i64 m.sender, .int .i64 m.at_, .string m.text, .int .i64 m.edits, .bool m.gone, .int .i64 m.reply, .slice A7 m.likes.length c7] 90))
      go_wp2_with (first
        | (go_at_call 63
           refine (l00Own_c _ m.likes _ (H7.out.below HBX.out) HLK.out).mono ?_
           rintro e w1 ⟨v, rfl, hmd, hb⟩
           obtain ⟨A9, c9, rfl⟩ := hmd.shape
           have hzs := hb.size
           have HMD := hide hmd
           have HBW := hide hb
           simp only [World.size_alloc] at hzs
           have hblk : w1.heap[wr.heap.size]? = some (.cells #[.int .i64 m.number, .int .i64 m.sender, .int .i64 m.at_, .string m.text, .int .i64 m.edits, .bool m.gone, .int .i64 m.reply, .slice A7 m.likes.length c7] 90 (0, 0)) := (hb.block _ (by simp)).trans (alloc_new wr _)
           have y0 : w1.cell? ⟨wr.heap.size, 0, none⟩ = some (.int .i64 m.number) := by rw [cell_block hblk]; rfl
           have y1 : w1.cell? ⟨wr.heap.size, 1, none⟩ = some (.int .i64 m.sender) := by rw [cell_block hblk]; rfl
           have y2 : w1.cell? ⟨wr.heap.size, 2, none⟩ = some (.int .i64 m.at_) := by rw [cell_block hblk]; rfl
           have y3 : w1.cell? ⟨wr.heap.size, 3, none⟩ = some (.string m.text) := by rw [cell_block hblk]; rfl
           have y4 : w1.cell? ⟨wr.heap.size, 4, none⟩ = some (.int .i64 m.edits) := by rw [cell_block hblk]; rfl
           have y5 : w1.cell? ⟨wr.heap.size, 5, none⟩ = some (.bool m.gone) := by rw [cell_block hblk]; rfl
           have y6 : w1.cell? ⟨wr.heap.size, 6, none⟩ = some (.int .i64 m.reply) := by rw [cell_block hblk]; rfl
           have y7 : w1.cell? ⟨wr.heap.size, 7, none⟩ = some (.slice A7 m.likes.length c7) := by rw [cell_block hblk]; rfl
           have f7 : w1.frozen? ⟨wr.heap.size, 7, none⟩ = false := frozen_block hblk
           have h3' : w1.heap[w.heap.size + 1 + 1]? = wr.heap[w.heap.size + 1 + 1]? := (hb.block _ (by simp; omega)).trans (alloc_old wr _ hl3)
           have z1 : w1.cell? ⟨w.heap.size + 1 + 1, 1, none⟩ = some (.slice A5 k c5) := by rw [cell_block (h3'.trans HS.out.1)]; rfl
           have hne : ¬ w.heap.size + 1 + 1 = wr.heap.size := by omega
           have hne2 : ¬ wr.heap.size = w.heap.size + 1 + 1 := by omega
           clear hmd hb hc0 hc1 hc2 hc3 hc4 hc5 hc6 hc7 hblk h3' x0 x1 hb1)
        | (at_builtin
           obtain ⟨hM, hF⟩ := HM.out
           obtain ⟨F9, hM9, hF9, hge9⟩ := HMD.out
           have hW : Chg [] wr ((w1.setCell ⟨wr.heap.size, 7, none⟩ (.slice A9 m.likes.length c9)).alloc (.cells #[.int .i64 m.number, .int .i64 m.sender, .int .i64 m.at_, .string m.text, .int .i64 m.edits, .bool m.gone, .int .i64 m.reply, .slice A9 m.likes.length c9] 90)) :=
             (Chg.setCell (p := ⟨wr.heap.size, 7, none⟩) (((Chg.refl [] wr).alloc _).then HBW.out) (.inr (Nat.le_refl _)) _).alloc _
           have h9 : ∀ b ∈ F9, wr.heap.size < b := fun b hb => by have := hge9 b hb; simp at this; omega
           refine wpList_app (d := messageD) _ rfl _ _ _ rfl (.agg #[(.int .i64 0), (.int .i64 0), (.int .i64 0), (.string ⟨#[]⟩), (.int .i64 0), (.bool false), (.int .i64 0), (.slice none 0 0)]) 8 88 Tryz.underlying29 infoMsg rfl (by omega) rfl _ (l.messages.take k) F rfl
             (hM.move fun b hb => hW.block b (hM.lt b hb) (by simp)) hF ⟨w1.heap.size, 0, none⟩ 1 _ rfl [m] [#[.int .i64 m.number, .int .i64 m.sender, .int .i64 m.at_, .string m.text, .int .i64 m.edits, .bool m.gone, .int .i64 m.reply, .slice A9 m.likes.length c9].toList] [F9] rfl
             (.cons (message_M_mk (hM9.move fun b hb => (alloc_old _ _ (by have := hM9.lt b hb; simpa using this)).trans (Below.heap_setCell w1 _ _ b (by intro e; have h1 := h9 b hb; have h2 : b = wr.heap.size := e; omega)))) .nil) (by simpa using hF9)
             (fun b hb hb2 => by have h1 := h9 b (by simpa using hb); have h2 := hM.lt b hb2; omega)
             (fun j u hu => by
               rw [addr_add]
               have h := World.cell?_alloc_new (w1.setCell ⟨wr.heap.size, 7, none⟩ (.slice A9 m.likes.length c9)) #[.int .i64 m.number, .int .i64 m.sender, .int .i64 m.at_, .string m.text, .int .i64 m.edits, .bool m.gone, .int .i64 m.reply, .slice A9 m.likes.length c9] 90 j
               simp only [World.size_setCell] at h
               rw [h]; simpa using hu) (by omega) (by simp; unfold maxLen; omega) (by simp; omega) ?_
           intro g cap w2 F2 hap
           rw [htl] at hap ⊢
           have ho := own_step HS.out.1 HS.out.2.1 HS.out.2.2.1 HS.out.2.2.2.1 HS.out.2.2.2.2 hW (fun b hb => Nat.le_of_lt (h9 b hb)) (by simpa using hap)
           have HO2 := hide ho.1
           have HC2 := hide ho.2.1
           have z2 : w2.cell? ⟨w.heap.size + 1 + 1, 1, none⟩ = some (.slice A5 k c5) := by rw [cell_block ho.2.2]; rfl
           have f2 : w2.frozen? ⟨w.heap.size + 1 + 1, 1, none⟩ = false := frozen_block ho.2.2
           clear hM hF hM9 hF9 hge9 hW h9 hap ho))
      go_roundg (l.messages.length - (k + 1))
      case measure => omega
      case rel =>
        refine ⟨k + 1, by omega, by omega, by go_num, hide ?_, hide (HB.out.trans (HC2.out.below (B := w.heap.size) HB.out.size (fun b hb => ?_)))⟩
        · rw [List.take_add_one, HX.out]
          exact HO2.out
        · rcases List.mem_cons.1 hb with h | h
          · omega
          · exact Nat.le_of_lt (HS.out.2.1 b h)
    · have : k = l.messages.length := by omega
      subst this
      have q0 : wr.cell? ⟨w.heap.size, 0, none⟩ = some (.int .i64 0) := by rw [cell_block h0]; rfl
      have q1 : wr.cell? ⟨w.heap.size, 1, none⟩ = some (.slice none 0 0) := by rw [cell_block h0]; rfl
      have g0 : ∀ o, wr.frozen? ⟨w.heap.size, o, none⟩ = false := fun o => frozen_block h0
      rw [List.take_length] at hM
      have HM := hide (And.intro hM (And.intro hF (And.intro hFB h0)))
      clear HA hM hF hFB h3F h03 h0 h3
      go_wp2_with fail
      have HZ : Hid (∀ wz, Chg [w.heap.size] wr wz → RetElem logD w l (.returned (.agg #[.int .i64 l.next, .slice A5 l.messages.length c5])) wz) := by
        intro wz hch
        obtain ⟨hM, hF, hFB, h0⟩ := HM.out
        refine ⟨_, F, rfl, log_M_mk (hM.move fun b hb => hch.block b (hM.lt b hb) (by have := hFB b hb; simp; omega)), hF, fun b hb => Nat.le_of_lt (hFB b hb), ?_⟩
        exact HB.out.trans (hch.below HB.out.size (by simp))
      refine bodyPost_ret (v := .agg #[.int .i64 l.next, .slice A5 l.messages.length c5]) (by simp [results, Tryz.results44, go_sem, q0, q1, g0]) rfl (HZ.out _ ?_)
      (repeat (with_reducible refine Chg.setCell ?_ (.inl (by simp)) _))
      exact Chg.refl _ _

def syOk (l : Log) (s : Sync) : Bool := validLogB l && (if s.kind = 0 then true else if s.kind = 1 then reOk l s.events else if s.kind = 2 then validLogB s.whole else false)
def syL (l : Log) (s : Sync) : Log := if syOk l s then (if s.kind = 0 then l else if s.kind = 1 then reL l s.events else s.whole) else noLog
theorem syL_no {l : Log} {s : Sync} (h : syOk l s = false) : syL l s = noLog := by simp [syL, h]
theorem sy_0 {l : Log} {s : Sync} (hv : validLogB l = true) (h0 : s.kind = 0) : syOk l s = true ∧ syL l s = l := by simp [syL, syOk, hv, h0]
theorem sy_1 {l : Log} {s : Sync} (hv : validLogB l = true) (h1 : s.kind = 1) : syOk l s = reOk l s.events ∧ syL l s = reL l s.events := by
  have h : syOk l s = reOk l s.events := by simp [syOk, hv, h1]
  refine ⟨h, ?_⟩
  unfold syL; rw [h]
  by_cases hr : reOk l s.events = true
  · simp [hr, h1]
  · rw [if_neg hr, reL_no (by simpa using hr)]
theorem sy_2 {l : Log} {s : Sync} (hv : validLogB l = true) (h2 : s.kind = 2) : syOk l s = validLogB s.whole := by simp [syOk, hv, h2]
theorem sy_2y {l : Log} {s : Sync} (hv : validLogB l = true) (h2 : s.kind = 2) (hw : validLogB s.whole = true) : syL l s = s.whole := by simp [syL, syOk, hv, h2, hw]
theorem sy_9 {l : Log} {s : Sync} (h0 : ¬ s.kind = 0) (h1 : ¬ s.kind = 1) (h2 : ¬ s.kind = 2) : syOk l s = false := by simp [syOk, h0, h1, h2]
theorem sy_cnt (l : Log) (s : Sync) : tcntLog (syL l s) ≤ 1080 := by
  unfold syL
  split
  · rename_i h
    simp only [syOk, Bool.and_eq_true] at h
    split
    · exact valid_cnt h.1
    · split
      · exact re_cnt _ _
      · rename_i h0 h1
        have h3 := h.2
        rw [if_neg h0, if_neg h1] at h3
        split at h3
        · exact valid_cnt h3
        · cases h3
  · exact noLog_cnt
def okSy (s : Sync) : Prop := (∀ e ∈ s.events, e.text.size ≤ 1048576) ∧ okTexts s.whole.messages ∧ fewB s.whole
theorem sync_part {w : World} {b o : Nat} {s : Sync} (hp : RowAt syncD w b o [s]) : RowAt logD w b (o + 2) [s.whole] := by
  obtain ⟨v1, v3, h1, h3, hb, c0, c1, c2, c3⟩ := sync_at hp (Below.refl _ _) (j := 0) rfl
  simp only [Nat.zero_mul, Nat.add_zero] at c0 c1 c2 c3
  intro j x hj
  cases j with
  | succ j => simp at hj
  | zero =>
    simp at hj; subst hj
    refine ⟨_, log_K_mk h3, fun i u hi => ?_⟩
    match i, hi with
    | 0, hi => simp at hi; subst hi; simpa using c2
    | 1, hi => simp at hi; subst hi; simpa using c3
set_option maxHeartbeats 8000000 in
set_option maxRecDepth 100000 in
theorem applySync_c (l : Log) (s : Sync) (v : Value) (v1 v3 : Value) (w : World) (h1 : SliceK messageD w v l.messages) (he : SliceK eventD w v1 s.events) (h3 : SliceK messageD w v3 s.whole.messages) (ht : okTexts l.messages) (hs : okSy s) :
    Calls Tryz.prog 23 #[.agg #[.int .i64 l.next, v], .agg #[.int .i64 s.kind, v1, .int .i64 s.whole.next, v3]] w (RetElem2 logD w (syL l s) (syOk l s)) := by
  obtain ⟨A, c, rfl⟩ := h1.shape
  obtain ⟨A1, c1, rfl⟩ := he.shape
  obtain ⟨A3, c3, rfl⟩ := h3.shape
  have HT := hide ht
  have HS := hide hs
  have HB1 := hide (((RowAt.box (d := logD) (x := l) (log_K_mk h1) (arr := #[.int .i64 l.next, .slice A l.messages.length c]) rfl 31).below ((Below.refl _ _).alloc (Nat.le_refl _) (.cells #[.int .i64 s.kind, .slice A1 s.events.length c1, .int .i64 s.whole.next, .slice A3 s.whole.messages.length c3] 53))).below ((Below.refl _ _).alloc (Nat.le_refl _) (.cells #[.int .i64 0, .slice none 0 0] 31)))
  have HB2 := hide ((RowAt.box (w := w.alloc (.cells #[.int .i64 l.next, .slice A l.messages.length c] 31)) (d := syncD) (x := s) (sync_K_mk (he.below ((Below.refl _ _).alloc (Nat.le_refl _) _)) (h3.below ((Below.refl _ _).alloc (Nat.le_refl _) _))) (arr := #[.int .i64 s.kind, .slice A1 s.events.length c1, .int .i64 s.whole.next, .slice A3 s.whole.messages.length c3]) rfl 53).below ((Below.refl _ _).alloc (Nat.le_refl _) (.cells #[.int .i64 0, .slice none 0 0] 31)))
  have H1 := hide h1
  have HE := hide he
  have H3 := hide h3
  have HW := hide ((((Below.refl w.heap.size w).alloc (Nat.le_refl _) (.cells #[.int .i64 l.next, .slice A l.messages.length c] 31)).alloc (by simp <;> omega) (.cells #[.int .i64 s.kind, .slice A1 s.events.length c1, .int .i64 s.whole.next, .slice A3 s.whole.messages.length c3] 53)).alloc (by simp <;> omega) (.cells #[.int .i64 0, .slice none 0 0] 31))
  have HZB := hide (show (((w.alloc (.cells #[.int .i64 l.next, .slice A l.messages.length c] 31)).alloc (.cells #[.int .i64 s.kind, .slice A1 s.events.length c1, .int .i64 s.whole.next, .slice A3 s.whole.messages.length c3] 53)).alloc (.cells #[.int .i64 0, .slice none 0 0] 31)).heap[w.heap.size + 1 + 1]? = some (.cells #[.int .i64 0, .slice none 0 0] 31 (0, 0)) by
    have := alloc_new ((w.alloc (.cells #[.int .i64 l.next, .slice A l.messages.length c] 31)).alloc (.cells #[.int .i64 s.kind, .slice A1 s.events.length c1, .int .i64 s.whole.next, .slice A3 s.whole.messages.length c3] 53)) (.cells #[.int .i64 0, .slice none 0 0] 31)
    simpa using this)
  simp only [World.size_alloc] at HB1 HB2
  clear h1 he h3 ht hs
  by_cases hv : validLogB l = true
  · have HV := hide hv
    have HFEW := hide (fewL_of hv)
    by_cases h0 : s.kind = 0
    · rw [(sy_0 hv h0).1, (sy_0 hv h0).2]
      have hk : (s.kind == 0) = true := by simp [h0]
      clear hv h0
      go_enter Tryz.func23, Tryz.ntmps23
      go_wp2_with (first
        | (go_at_call 48
           refine (validLog_c l _ _ (H1.out.below HW.out) HT.out).mono ?_
           rintro e w8 ⟨rfl, hb⟩
           rw [HV.out]
           have HK1 := hide (HB1.out.below hb)
           have HK2 := hide (HB2.out.below hb)
           have HZ8 := hide ((hb.block _ (by simp)).trans HZB.out)
           have HW8 := hide (below_step HW.out hb)
           have hz8 := block_lt HZ8.out
           have l0 : w8.cell? ⟨w.heap.size, 0, none⟩ = some (.int .i64 l.next) := cell_below hb (by go_simp)
           have l1 : w8.cell? ⟨w.heap.size, 1, none⟩ = some (.slice A l.messages.length c) := cell_below hb (by go_simp)
           have s0 : w8.cell? ⟨w.heap.size + 1, 0, none⟩ = some (.int .i64 s.kind) := cell_below hb (by go_simp)
           have s1 : w8.cell? ⟨w.heap.size + 1, 1, none⟩ = some (.slice A1 s.events.length c1) := cell_below hb (by go_simp)
           have s2 : w8.cell? ⟨w.heap.size + 1, 2, none⟩ = some (.int .i64 s.whole.next) := cell_below hb (by go_simp)
           have s3 : w8.cell? ⟨w.heap.size + 1, 3, none⟩ = some (.slice A3 s.whole.messages.length c3) := cell_below hb (by go_simp)
           have p0 : w8.cell? ⟨w.heap.size + 1 + 1, 0, none⟩ = some (.int .i64 0) := by rw [cell_block HZ8.out]; rfl
           have p1 : w8.cell? ⟨w.heap.size + 1 + 1, 1, none⟩ = some (.slice none 0 0) := by rw [cell_block HZ8.out]; rfl
           have pf : ∀ o, w8.frozen? ⟨w.heap.size + 1 + 1, o, none⟩ = false := fun o => frozen_block HZ8.out
           clear hb)
        | (go_at_call 49
           refine (cloneLog_c l _ _ (H1.out.below HW8.out) HFEW.out).mono ?_
           rintro e w1 ⟨cs, F, rfl, hM, hF, hge, hb⟩
           obtain ⟨v9, F9, rfl, hFF, hS⟩ := log_M hM
           obtain ⟨A9, c9, rfl⟩ := hS.toK.shape
           clear p0 p1 pf
           have hz1 := hb.size
           try simp only [World.size_alloc] at hz1
           have hbl := (hb.block _ (by first | omega | (simp <;> omega))).trans HZ8.out
           have p0 : w1.cell? ⟨w.heap.size + 1 + 1, 0, none⟩ = some (.int .i64 0) := by rw [cell_block hbl]; rfl
           have p1 : w1.cell? ⟨w.heap.size + 1 + 1, 1, none⟩ = some (.slice none 0 0) := by rw [cell_block hbl]; rfl
           have pf : ∀ o, w1.frozen? ⟨w.heap.size + 1 + 1, o, none⟩ = false := fun o => frozen_block hbl
           have HE := hide (below_step HW8.out hb)
           have HMD := hide (And.intro hM (And.intro hF (show ∀ b ∈ F, w.heap.size + 1 + 1 < b from fun b hb => (by have := hge b hb; (try simp at this); omega))))
           clear hM hF hge hb hFF hS hbl))
      have HZ : Hid (∀ wz, Chg [w.heap.size + 1 + 1] w1 wz → RetElem2 logD w l true (.returned (.tuple #[.agg #[.int .i64 l.next, .slice A9 l.messages.length c9], .bool true])) wz) := by
        intro wz hch
        obtain ⟨hM, hF, hge⟩ := HMD.out
        exact ⟨_, F, rfl, Dt.M_move _ (fun b hb => hch.block b (logD.M_lt hM b hb) (by have := hge b hb; simp; omega)) hM, hF, fun b hb => by have := hge b hb; omega, HE.out.trans (hch.below HE.out.size (by simp <;> omega))⟩
      refine bodyPost_ret (v := .tuple #[.agg #[.int .i64 l.next, .slice A9 l.messages.length c9], .bool true]) (by simp [results, Tryz.results23, go_sem, p0, p1, pf]) rfl (HZ.out _ ?_)
      (repeat (with_reducible refine Chg.setCell ?_ (.inl (by simp)) _))
      exact Chg.refl _ _
    · by_cases h1 : s.kind = 1
      · rw [(sy_1 hv h1).1, (sy_1 hv h1).2]
        have hk : (s.kind == 1) = true := by simp [h1]
        have hk0 : (s.kind == 0) = false := by simp [h0]
        clear hv h0 h1
        go_enter Tryz.func23, Tryz.ntmps23
        go_wp2_with (first
          | (go_at_call 48
             refine (validLog_c l _ _ (H1.out.below HW.out) HT.out).mono ?_
             rintro e w8 ⟨rfl, hb⟩
             rw [HV.out]
             have HK1 := hide (HB1.out.below hb)
             have HK2 := hide (HB2.out.below hb)
             have HZ8 := hide ((hb.block _ (by simp)).trans HZB.out)
             have HW8 := hide (below_step HW.out hb)
             have hz8 := block_lt HZ8.out
             have l0 : w8.cell? ⟨w.heap.size, 0, none⟩ = some (.int .i64 l.next) := cell_below hb (by go_simp)
             have l1 : w8.cell? ⟨w.heap.size, 1, none⟩ = some (.slice A l.messages.length c) := cell_below hb (by go_simp)
             have s0 : w8.cell? ⟨w.heap.size + 1, 0, none⟩ = some (.int .i64 s.kind) := cell_below hb (by go_simp)
             have s1 : w8.cell? ⟨w.heap.size + 1, 1, none⟩ = some (.slice A1 s.events.length c1) := cell_below hb (by go_simp)
             have s2 : w8.cell? ⟨w.heap.size + 1, 2, none⟩ = some (.int .i64 s.whole.next) := cell_below hb (by go_simp)
             have s3 : w8.cell? ⟨w.heap.size + 1, 3, none⟩ = some (.slice A3 s.whole.messages.length c3) := cell_below hb (by go_simp)
             have p0 : w8.cell? ⟨w.heap.size + 1 + 1, 0, none⟩ = some (.int .i64 0) := by rw [cell_block HZ8.out]; rfl
             have p1 : w8.cell? ⟨w.heap.size + 1 + 1, 1, none⟩ = some (.slice none 0 0) := by rw [cell_block HZ8.out]; rfl
             have pf : ∀ o, w8.frozen? ⟨w.heap.size + 1 + 1, o, none⟩ = false := fun o => frozen_block HZ8.out
             clear hb)
          | (go_at_call 30
             refine (runEvents_c l s.events _ _ _ (H1.out.below HW8.out) (HE.out.below HW8.out) HT.out HS.out.1).mono ?_
             rintro e w1 ⟨cs, F, rfl, hM, hF, hge, hb⟩
             obtain ⟨v9, F9, rfl, hFF, hS⟩ := log_M hM
             obtain ⟨A9, c9, rfl⟩ := hS.toK.shape
             clear p0 p1 pf
             have hz1 := hb.size
             try simp only [World.size_alloc] at hz1
             have hbl := (hb.block _ (by first | omega | (simp <;> omega))).trans HZ8.out
             have p0 : w1.cell? ⟨w.heap.size + 1 + 1, 0, none⟩ = some (.int .i64 0) := by rw [cell_block hbl]; rfl
             have p1 : w1.cell? ⟨w.heap.size + 1 + 1, 1, none⟩ = some (.slice none 0 0) := by rw [cell_block hbl]; rfl
             have pf : ∀ o, w1.frozen? ⟨w.heap.size + 1 + 1, o, none⟩ = false := fun o => frozen_block hbl
             have HE := hide (below_step HW8.out hb)
             have HMD := hide (And.intro hM (And.intro hF (show ∀ b ∈ F, w.heap.size + 1 + 1 < b from fun b hb => (by have := hge b hb; (try simp at this); omega))))
             clear hM hF hge hb hFF hS hbl))
        have HZ : Hid (∀ wz, Chg [w.heap.size + 1 + 1] w1 wz → RetElem2 logD w (reL l s.events) (reOk l s.events) (.returned (.tuple #[.agg #[.int .i64 (reL l s.events).next, .slice A9 (reL l s.events).messages.length c9], .bool (reOk l s.events)])) wz) := by
          intro wz hch
          obtain ⟨hM, hF, hge⟩ := HMD.out
          exact ⟨_, F, rfl, Dt.M_move _ (fun b hb => hch.block b (logD.M_lt hM b hb) (by have := hge b hb; simp; omega)) hM, hF, fun b hb => by have := hge b hb; omega, HE.out.trans (hch.below HE.out.size (by simp <;> omega))⟩
        refine bodyPost_ret (v := .tuple #[.agg #[.int .i64 (reL l s.events).next, .slice A9 (reL l s.events).messages.length c9], .bool (reOk l s.events)]) (by simp [results, Tryz.results23, go_sem, p0, p1, pf]) rfl (HZ.out _ ?_)
        (repeat (with_reducible refine Chg.setCell ?_ (.inl (by simp)) _))
        exact Chg.refl _ _
      · by_cases h2 : s.kind = 2
        · by_cases hw : validLogB s.whole = true
          · rw [sy_2 hv h2, sy_2y hv h2 hw, hw]
            have HVW := hide hw
            have HFW := hide (fewL_of hw)
            have hk : (s.kind == 2) = true := by simp [h2]
            have hk0 : (s.kind == 0) = false := by simp [h0]
            have hk1 : (s.kind == 1) = false := by simp [h1]
            clear hv h0 h1 h2 hw
            go_enter Tryz.func23, Tryz.ntmps23
            go_wp2_with (first
              | (go_at_call 48
                 refine (validLog_c s.whole _ _ (H3.out.below HW8.out) HS.out.2.1).mono ?_
                 rintro e w9 ⟨rfl, hb⟩
                 rw [HVW.out]
                 have HZ9 := hide ((hb.block _ hz8).trans HZ8.out)
                 have HW9 := hide (below_step HW8.out hb)
                 have hz9 := block_lt HZ9.out
                 have t2 := cell_below hb s2
                 have t3 := cell_below hb s3
                 clear p0 p1 pf hb)
              | (go_at_call 48
                 refine (validLog_c l _ _ (H1.out.below HW.out) HT.out).mono ?_
                 rintro e w8 ⟨rfl, hb⟩
                 rw [HV.out]
                 have HK1 := hide (HB1.out.below hb)
                 have HK2 := hide (HB2.out.below hb)
                 have HZ8 := hide ((hb.block _ (by simp)).trans HZB.out)
                 have HW8 := hide (below_step HW.out hb)
                 have hz8 := block_lt HZ8.out
                 have l0 : w8.cell? ⟨w.heap.size, 0, none⟩ = some (.int .i64 l.next) := cell_below hb (by go_simp)
                 have l1 : w8.cell? ⟨w.heap.size, 1, none⟩ = some (.slice A l.messages.length c) := cell_below hb (by go_simp)
                 have s0 : w8.cell? ⟨w.heap.size + 1, 0, none⟩ = some (.int .i64 s.kind) := cell_below hb (by go_simp)
                 have s1 : w8.cell? ⟨w.heap.size + 1, 1, none⟩ = some (.slice A1 s.events.length c1) := cell_below hb (by go_simp)
                 have s2 : w8.cell? ⟨w.heap.size + 1, 2, none⟩ = some (.int .i64 s.whole.next) := cell_below hb (by go_simp)
                 have s3 : w8.cell? ⟨w.heap.size + 1, 3, none⟩ = some (.slice A3 s.whole.messages.length c3) := cell_below hb (by go_simp)
                 have p0 : w8.cell? ⟨w.heap.size + 1 + 1, 0, none⟩ = some (.int .i64 0) := by rw [cell_block HZ8.out]; rfl
                 have p1 : w8.cell? ⟨w.heap.size + 1 + 1, 1, none⟩ = some (.slice none 0 0) := by rw [cell_block HZ8.out]; rfl
                 have pf : ∀ o, w8.frozen? ⟨w.heap.size + 1 + 1, o, none⟩ = false := fun o => frozen_block HZ8.out
                 clear hb)
              | (go_at_call 49
                 refine (cloneLog_c s.whole _ _ (H3.out.below HW9.out) HFW.out).mono ?_
                 rintro e w1 ⟨cs, F, rfl, hM, hF, hge, hb⟩
                 obtain ⟨v9, F9, rfl, hFF, hS⟩ := log_M hM
                 obtain ⟨A9, c9, rfl⟩ := hS.toK.shape
                 have hz1 := hb.size
                 try simp only [World.size_alloc] at hz1
                 have hbl := (hb.block _ (by first | omega | (simp <;> omega))).trans HZ9.out
                 have p0 : w1.cell? ⟨w.heap.size + 1 + 1, 0, none⟩ = some (.int .i64 0) := by rw [cell_block hbl]; rfl
                 have p1 : w1.cell? ⟨w.heap.size + 1 + 1, 1, none⟩ = some (.slice none 0 0) := by rw [cell_block hbl]; rfl
                 have pf : ∀ o, w1.frozen? ⟨w.heap.size + 1 + 1, o, none⟩ = false := fun o => frozen_block hbl
                 have HE := hide (below_step HW9.out hb)
                 have HMD := hide (And.intro hM (And.intro hF (show ∀ b ∈ F, w.heap.size + 1 + 1 < b from fun b hb => (by have := hge b hb; (try simp at this); omega))))
                 clear hM hF hge hb hFF hS hbl))
            have HZ : Hid (∀ wz, Chg [w.heap.size + 1 + 1] w1 wz → RetElem2 logD w s.whole true (.returned (.tuple #[.agg #[.int .i64 s.whole.next, .slice A9 s.whole.messages.length c9], .bool true])) wz) := by
              intro wz hch
              obtain ⟨hM, hF, hge⟩ := HMD.out
              exact ⟨_, F, rfl, Dt.M_move _ (fun b hb => hch.block b (logD.M_lt hM b hb) (by have := hge b hb; simp; omega)) hM, hF, fun b hb => by have := hge b hb; omega, HE.out.trans (hch.below HE.out.size (by simp <;> omega))⟩
            refine bodyPost_ret (v := .tuple #[.agg #[.int .i64 s.whole.next, .slice A9 s.whole.messages.length c9], .bool true]) (by simp [results, Tryz.results23, go_sem, p0, p1, pf]) rfl (HZ.out _ ?_)
            (repeat (with_reducible refine Chg.setCell ?_ (.inl (by simp)) _))
            exact Chg.refl _ _
          · have HVW := hide (show validLogB s.whole = false by simpa using hw)
            have HOK := hide (show syOk l s = false by rw [sy_2 hv h2, HVW.out])
            have HL := hide (syL_no HOK.out)
            have hk : (s.kind == 2) = true := by simp [h2]
            have hk0 : (s.kind == 0) = false := by simp [h0]
            have hk1 : (s.kind == 1) = false := by simp [h1]
            clear hv h0 h1 h2 hw
            go_enter Tryz.func23, Tryz.ntmps23
            go_wp2_with (first
              | (go_at_call 48
                 refine (validLog_c s.whole _ _ (H3.out.below HW8.out) HS.out.2.1).mono ?_
                 rintro e w9 ⟨rfl, hb⟩
                 rw [HVW.out]
                 have HZ9 := hide ((hb.block _ hz8).trans HZ8.out)
                 have HE9 := hide (below_step HW8.out hb)
                 clear p0 p1 pf
                 have p0 : w9.cell? ⟨w.heap.size + 1 + 1, 0, none⟩ = some (.int .i64 0) := by rw [cell_block HZ9.out]; rfl
                 have p1 : w9.cell? ⟨w.heap.size + 1 + 1, 1, none⟩ = some (.slice none 0 0) := by rw [cell_block HZ9.out]; rfl
                 have pf : ∀ o, w9.frozen? ⟨w.heap.size + 1 + 1, o, none⟩ = false := fun o => frozen_block HZ9.out
                 clear hb)
              | (go_at_call 48
                 refine (validLog_c l _ _ (H1.out.below HW.out) HT.out).mono ?_
                 rintro e w8 ⟨rfl, hb⟩
                 rw [HV.out]
                 have HK1 := hide (HB1.out.below hb)
                 have HK2 := hide (HB2.out.below hb)
                 have HZ8 := hide ((hb.block _ (by simp)).trans HZB.out)
                 have HW8 := hide (below_step HW.out hb)
                 have hz8 := block_lt HZ8.out
                 have l0 : w8.cell? ⟨w.heap.size, 0, none⟩ = some (.int .i64 l.next) := cell_below hb (by go_simp)
                 have l1 : w8.cell? ⟨w.heap.size, 1, none⟩ = some (.slice A l.messages.length c) := cell_below hb (by go_simp)
                 have s0 : w8.cell? ⟨w.heap.size + 1, 0, none⟩ = some (.int .i64 s.kind) := cell_below hb (by go_simp)
                 have s1 : w8.cell? ⟨w.heap.size + 1, 1, none⟩ = some (.slice A1 s.events.length c1) := cell_below hb (by go_simp)
                 have s2 : w8.cell? ⟨w.heap.size + 1, 2, none⟩ = some (.int .i64 s.whole.next) := cell_below hb (by go_simp)
                 have s3 : w8.cell? ⟨w.heap.size + 1, 3, none⟩ = some (.slice A3 s.whole.messages.length c3) := cell_below hb (by go_simp)
                 have p0 : w8.cell? ⟨w.heap.size + 1 + 1, 0, none⟩ = some (.int .i64 0) := by rw [cell_block HZ8.out]; rfl
                 have p1 : w8.cell? ⟨w.heap.size + 1 + 1, 1, none⟩ = some (.slice none 0 0) := by rw [cell_block HZ8.out]; rfl
                 have pf : ∀ o, w8.frozen? ⟨w.heap.size + 1 + 1, o, none⟩ = false := fun o => frozen_block HZ8.out
                 clear hb))
            have HE := HE9
            have HZ : Hid (∀ wz, Chg [w.heap.size + 1 + 1] w9 wz → RetElem2 logD w (syL l s) (syOk l s) (.returned (.tuple #[.agg #[.int .i64 0, .slice none 0 0], .bool false])) wz) := by
              intro wz hch
              rw [HL.out, HOK.out]
              exact ⟨_, [], rfl, noLog_M wz, by simp, by simp, HE.out.trans (hch.below HE.out.size (by simp <;> omega))⟩
            refine bodyPost_ret (v := .tuple #[.agg #[.int .i64 0, .slice none 0 0], .bool false]) (by simp [results, Tryz.results23, go_sem, p0, p1, pf]) rfl (HZ.out _ ?_)
            (repeat (with_reducible refine Chg.setCell ?_ (.inl (by simp)) _))
            exact Chg.refl _ _
        · have HOK := hide (sy_9 (l := l) h0 h1 h2)
          have HL := hide (syL_no HOK.out)
          have hk : (s.kind == 2) = false := by simp [h2]
          have hk0 : (s.kind == 0) = false := by simp [h0]
          have hk1 : (s.kind == 1) = false := by simp [h1]
          clear hv h0 h1 h2
          go_enter Tryz.func23, Tryz.ntmps23
          go_wp2_with (go_at_call 48
                       refine (validLog_c l _ _ (H1.out.below HW.out) HT.out).mono ?_
                       rintro e w8 ⟨rfl, hb⟩
                       rw [HV.out]
                       have HK1 := hide (HB1.out.below hb)
                       have HK2 := hide (HB2.out.below hb)
                       have HZ8 := hide ((hb.block _ (by simp)).trans HZB.out)
                       have HW8 := hide (below_step HW.out hb)
                       have hz8 := block_lt HZ8.out
                       have l0 : w8.cell? ⟨w.heap.size, 0, none⟩ = some (.int .i64 l.next) := cell_below hb (by go_simp)
                       have l1 : w8.cell? ⟨w.heap.size, 1, none⟩ = some (.slice A l.messages.length c) := cell_below hb (by go_simp)
                       have s0 : w8.cell? ⟨w.heap.size + 1, 0, none⟩ = some (.int .i64 s.kind) := cell_below hb (by go_simp)
                       have s1 : w8.cell? ⟨w.heap.size + 1, 1, none⟩ = some (.slice A1 s.events.length c1) := cell_below hb (by go_simp)
                       have s2 : w8.cell? ⟨w.heap.size + 1, 2, none⟩ = some (.int .i64 s.whole.next) := cell_below hb (by go_simp)
                       have s3 : w8.cell? ⟨w.heap.size + 1, 3, none⟩ = some (.slice A3 s.whole.messages.length c3) := cell_below hb (by go_simp)
                       have p0 : w8.cell? ⟨w.heap.size + 1 + 1, 0, none⟩ = some (.int .i64 0) := by rw [cell_block HZ8.out]; rfl
                       have p1 : w8.cell? ⟨w.heap.size + 1 + 1, 1, none⟩ = some (.slice none 0 0) := by rw [cell_block HZ8.out]; rfl
                       have pf : ∀ o, w8.frozen? ⟨w.heap.size + 1 + 1, o, none⟩ = false := fun o => frozen_block HZ8.out
                       clear hb)
          have HE := HW8
          have HZ : Hid (∀ wz, Chg [w.heap.size + 1 + 1] w8 wz → RetElem2 logD w (syL l s) (syOk l s) (.returned (.tuple #[.agg #[.int .i64 0, .slice none 0 0], .bool false])) wz) := by
            intro wz hch
            rw [HL.out, HOK.out]
            exact ⟨_, [], rfl, noLog_M wz, by simp, by simp, HE.out.trans (hch.below HE.out.size (by simp <;> omega))⟩
          refine bodyPost_ret (v := .tuple #[.agg #[.int .i64 0, .slice none 0 0], .bool false]) (by simp [results, Tryz.results23, go_sem, p0, p1, pf]) rfl (HZ.out _ ?_)
          (repeat (with_reducible refine Chg.setCell ?_ (.inl (by simp)) _))
          exact Chg.refl _ _
  · have HV := hide (show validLogB l = false by simpa using hv)
    have HOK := hide (show syOk l s = false by simp [syOk, HV.out])
    have HL := hide (syL_no HOK.out)
    clear hv
    go_enter Tryz.func23, Tryz.ntmps23
    go_wp2_with (go_at_call 48
                 refine (validLog_c l _ _ (H1.out.below HW.out) HT.out).mono ?_
                 rintro e w8 ⟨rfl, hb⟩
                 rw [HV.out]
                 have HK1 := hide (HB1.out.below hb)
                 have HK2 := hide (HB2.out.below hb)
                 have HZ8 := hide ((hb.block _ (by simp)).trans HZB.out)
                 have HW8 := hide (below_step HW.out hb)
                 have hz8 := block_lt HZ8.out
                 have l0 : w8.cell? ⟨w.heap.size, 0, none⟩ = some (.int .i64 l.next) := cell_below hb (by go_simp)
                 have l1 : w8.cell? ⟨w.heap.size, 1, none⟩ = some (.slice A l.messages.length c) := cell_below hb (by go_simp)
                 have s0 : w8.cell? ⟨w.heap.size + 1, 0, none⟩ = some (.int .i64 s.kind) := cell_below hb (by go_simp)
                 have s1 : w8.cell? ⟨w.heap.size + 1, 1, none⟩ = some (.slice A1 s.events.length c1) := cell_below hb (by go_simp)
                 have s2 : w8.cell? ⟨w.heap.size + 1, 2, none⟩ = some (.int .i64 s.whole.next) := cell_below hb (by go_simp)
                 have s3 : w8.cell? ⟨w.heap.size + 1, 3, none⟩ = some (.slice A3 s.whole.messages.length c3) := cell_below hb (by go_simp)
                 have p0 : w8.cell? ⟨w.heap.size + 1 + 1, 0, none⟩ = some (.int .i64 0) := by rw [cell_block HZ8.out]; rfl
                 have p1 : w8.cell? ⟨w.heap.size + 1 + 1, 1, none⟩ = some (.slice none 0 0) := by rw [cell_block HZ8.out]; rfl
                 have pf : ∀ o, w8.frozen? ⟨w.heap.size + 1 + 1, o, none⟩ = false := fun o => frozen_block HZ8.out
                 clear hb)
    have HE := HW8
    have HZ : Hid (∀ wz, Chg [w.heap.size + 1 + 1] w8 wz → RetElem2 logD w (syL l s) (syOk l s) (.returned (.tuple #[.agg #[.int .i64 0, .slice none 0 0], .bool false])) wz) := by
      intro wz hch
      rw [HL.out, HOK.out]
      exact ⟨_, [], rfl, noLog_M wz, by simp, by simp, HE.out.trans (hch.below HE.out.size (by simp <;> omega))⟩
    refine bodyPost_ret (v := .tuple #[.agg #[.int .i64 0, .slice none 0 0], .bool false]) (by simp [results, Tryz.results23, go_sem, p0, p1, pf]) rfl (HZ.out _ ?_)
    (repeat (with_reducible refine Chg.setCell ?_ (.inl (by simp)) _))
    exact Chg.refl _ _
set_option maxHeartbeats 8000000 in
set_option maxRecDepth 100000 in
theorem specApplySync_c (l : Log) (s : Sync) (v : Value) (v1 v3 : Value) (w : World) (h1 : SliceK messageD w v l.messages) (he : SliceK eventD w v1 s.events) (h3 : SliceK messageD w v3 s.whole.messages) (ht : okTexts l.messages) (hs : okSy s) :
    Calls Tryz.prog 20 #[.agg #[.int .i64 l.next, v], .agg #[.int .i64 s.kind, v1, .int .i64 s.whole.next, v3]] w (RetElem2 logD w (syL l s) (syOk l s)) := by
  obtain ⟨A, c, rfl⟩ := h1.shape
  obtain ⟨A1, c1, rfl⟩ := he.shape
  obtain ⟨A3, c3, rfl⟩ := h3.shape
  have HT := hide ht
  have HS := hide hs
  have HB1 := hide (((RowAt.box (d := logD) (x := l) (log_K_mk h1) (arr := #[.int .i64 l.next, .slice A l.messages.length c]) rfl 31).below ((Below.refl _ _).alloc (Nat.le_refl _) (.cells #[.int .i64 s.kind, .slice A1 s.events.length c1, .int .i64 s.whole.next, .slice A3 s.whole.messages.length c3] 53))).below ((Below.refl _ _).alloc (Nat.le_refl _) (.cells #[.int .i64 0, .slice none 0 0] 31)))
  have HB2 := hide ((RowAt.box (w := w.alloc (.cells #[.int .i64 l.next, .slice A l.messages.length c] 31)) (d := syncD) (x := s) (sync_K_mk (he.below ((Below.refl _ _).alloc (Nat.le_refl _) _)) (h3.below ((Below.refl _ _).alloc (Nat.le_refl _) _))) (arr := #[.int .i64 s.kind, .slice A1 s.events.length c1, .int .i64 s.whole.next, .slice A3 s.whole.messages.length c3]) rfl 53).below ((Below.refl _ _).alloc (Nat.le_refl _) (.cells #[.int .i64 0, .slice none 0 0] 31)))
  have H1 := hide h1
  have HE := hide he
  have H3 := hide h3
  have HW := hide ((((Below.refl w.heap.size w).alloc (Nat.le_refl _) (.cells #[.int .i64 l.next, .slice A l.messages.length c] 31)).alloc (by simp <;> omega) (.cells #[.int .i64 s.kind, .slice A1 s.events.length c1, .int .i64 s.whole.next, .slice A3 s.whole.messages.length c3] 53)).alloc (by simp <;> omega) (.cells #[.int .i64 0, .slice none 0 0] 31))
  have HZB := hide (show (((w.alloc (.cells #[.int .i64 l.next, .slice A l.messages.length c] 31)).alloc (.cells #[.int .i64 s.kind, .slice A1 s.events.length c1, .int .i64 s.whole.next, .slice A3 s.whole.messages.length c3] 53)).alloc (.cells #[.int .i64 0, .slice none 0 0] 31)).heap[w.heap.size + 1 + 1]? = some (.cells #[.int .i64 0, .slice none 0 0] 31 (0, 0)) by
    have := alloc_new ((w.alloc (.cells #[.int .i64 l.next, .slice A l.messages.length c] 31)).alloc (.cells #[.int .i64 s.kind, .slice A1 s.events.length c1, .int .i64 s.whole.next, .slice A3 s.whole.messages.length c3] 53)) (.cells #[.int .i64 0, .slice none 0 0] 31)
    simpa using this)
  simp only [World.size_alloc] at HB1 HB2
  clear h1 he h3 ht hs
  by_cases hv : validLogB l = true
  · have HV := hide hv
    have HFEW := hide (fewL_of hv)
    by_cases h0 : s.kind = 0
    · rw [(sy_0 hv h0).1, (sy_0 hv h0).2]
      have hk : (s.kind == 0) = true := by simp [h0]
      clear hv h0
      go_enter Tryz.func20, Tryz.ntmps20
      go_wp2_with (first
        | (go_at_call 43
           refine (l03Is_c l _ _ _ HB1.out HT.out).mono ?_
           rintro e w8 ⟨rfl, hb⟩
           rw [HV.out]
           have HK1 := hide (HB1.out.below hb)
           have HK2 := hide (HB2.out.below hb)
           have HZ8 := hide ((hb.block _ (by simp)).trans HZB.out)
           have HW8 := hide (below_step HW.out hb)
           have hz8 := block_lt HZ8.out
           have l0 : w8.cell? ⟨w.heap.size, 0, none⟩ = some (.int .i64 l.next) := cell_below hb (by go_simp)
           have l1 : w8.cell? ⟨w.heap.size, 1, none⟩ = some (.slice A l.messages.length c) := cell_below hb (by go_simp)
           have s0 : w8.cell? ⟨w.heap.size + 1, 0, none⟩ = some (.int .i64 s.kind) := cell_below hb (by go_simp)
           have s1 : w8.cell? ⟨w.heap.size + 1, 1, none⟩ = some (.slice A1 s.events.length c1) := cell_below hb (by go_simp)
           have s2 : w8.cell? ⟨w.heap.size + 1, 2, none⟩ = some (.int .i64 s.whole.next) := cell_below hb (by go_simp)
           have s3 : w8.cell? ⟨w.heap.size + 1, 3, none⟩ = some (.slice A3 s.whole.messages.length c3) := cell_below hb (by go_simp)
           have p0 : w8.cell? ⟨w.heap.size + 1 + 1, 0, none⟩ = some (.int .i64 0) := by rw [cell_block HZ8.out]; rfl
           have p1 : w8.cell? ⟨w.heap.size + 1 + 1, 1, none⟩ = some (.slice none 0 0) := by rw [cell_block HZ8.out]; rfl
           have pf : ∀ o, w8.frozen? ⟨w.heap.size + 1 + 1, o, none⟩ = false := fun o => frozen_block HZ8.out
           clear hb)
        | (go_at_call 44
           refine (l03Own_c l _ _ _ HK1.out HFEW.out).mono ?_
           rintro e w1 ⟨cs, F, rfl, hM, hF, hge, hb⟩
           obtain ⟨v9, F9, rfl, hFF, hS⟩ := log_M hM
           obtain ⟨A9, c9, rfl⟩ := hS.toK.shape
           clear p0 p1 pf
           have hz1 := hb.size
           try simp only [World.size_alloc] at hz1
           have hbl := (hb.block _ (by first | omega | (simp <;> omega))).trans HZ8.out
           have p0 : w1.cell? ⟨w.heap.size + 1 + 1, 0, none⟩ = some (.int .i64 0) := by rw [cell_block hbl]; rfl
           have p1 : w1.cell? ⟨w.heap.size + 1 + 1, 1, none⟩ = some (.slice none 0 0) := by rw [cell_block hbl]; rfl
           have pf : ∀ o, w1.frozen? ⟨w.heap.size + 1 + 1, o, none⟩ = false := fun o => frozen_block hbl
           have HE := hide (below_step HW8.out hb)
           have HMD := hide (And.intro hM (And.intro hF (show ∀ b ∈ F, w.heap.size + 1 + 1 < b from fun b hb => (by have := hge b hb; (try simp at this); omega))))
           clear hM hF hge hb hFF hS hbl))
      have HZ : Hid (∀ wz, Chg [w.heap.size + 1 + 1] w1 wz → RetElem2 logD w l true (.returned (.tuple #[.agg #[.int .i64 l.next, .slice A9 l.messages.length c9], .bool true])) wz) := by
        intro wz hch
        obtain ⟨hM, hF, hge⟩ := HMD.out
        exact ⟨_, F, rfl, Dt.M_move _ (fun b hb => hch.block b (logD.M_lt hM b hb) (by have := hge b hb; simp; omega)) hM, hF, fun b hb => by have := hge b hb; omega, HE.out.trans (hch.below HE.out.size (by simp <;> omega))⟩
      refine bodyPost_ret (v := .tuple #[.agg #[.int .i64 l.next, .slice A9 l.messages.length c9], .bool true]) (by simp [results, Tryz.results20, go_sem, p0, p1, pf]) rfl (HZ.out _ ?_)
      (repeat (with_reducible refine Chg.setCell ?_ (.inl (by simp)) _))
      exact Chg.refl _ _
    · by_cases h1 : s.kind = 1
      · rw [(sy_1 hv h1).1, (sy_1 hv h1).2]
        have hk : (s.kind == 1) = true := by simp [h1]
        have hk0 : (s.kind == 0) = false := by simp [h0]
        clear hv h0 h1
        go_enter Tryz.func20, Tryz.ntmps20
        go_wp2_with (first
          | (go_at_call 43
             refine (l03Is_c l _ _ _ HB1.out HT.out).mono ?_
             rintro e w8 ⟨rfl, hb⟩
             rw [HV.out]
             have HK1 := hide (HB1.out.below hb)
             have HK2 := hide (HB2.out.below hb)
             have HZ8 := hide ((hb.block _ (by simp)).trans HZB.out)
             have HW8 := hide (below_step HW.out hb)
             have hz8 := block_lt HZ8.out
             have l0 : w8.cell? ⟨w.heap.size, 0, none⟩ = some (.int .i64 l.next) := cell_below hb (by go_simp)
             have l1 : w8.cell? ⟨w.heap.size, 1, none⟩ = some (.slice A l.messages.length c) := cell_below hb (by go_simp)
             have s0 : w8.cell? ⟨w.heap.size + 1, 0, none⟩ = some (.int .i64 s.kind) := cell_below hb (by go_simp)
             have s1 : w8.cell? ⟨w.heap.size + 1, 1, none⟩ = some (.slice A1 s.events.length c1) := cell_below hb (by go_simp)
             have s2 : w8.cell? ⟨w.heap.size + 1, 2, none⟩ = some (.int .i64 s.whole.next) := cell_below hb (by go_simp)
             have s3 : w8.cell? ⟨w.heap.size + 1, 3, none⟩ = some (.slice A3 s.whole.messages.length c3) := cell_below hb (by go_simp)
             have p0 : w8.cell? ⟨w.heap.size + 1 + 1, 0, none⟩ = some (.int .i64 0) := by rw [cell_block HZ8.out]; rfl
             have p1 : w8.cell? ⟨w.heap.size + 1 + 1, 1, none⟩ = some (.slice none 0 0) := by rw [cell_block HZ8.out]; rfl
             have pf : ∀ o, w8.frozen? ⟨w.heap.size + 1 + 1, o, none⟩ = false := fun o => frozen_block HZ8.out
             clear hb)
          | (go_at_call 45
             refine (specRunEvents_c l s.events _ _ _ (H1.out.below HW8.out) (HE.out.below HW8.out) HT.out HS.out.1).mono ?_
             rintro e w1 ⟨cs, F, rfl, hM, hF, hge, hb⟩
             obtain ⟨v9, F9, rfl, hFF, hS⟩ := log_M hM
             obtain ⟨A9, c9, rfl⟩ := hS.toK.shape
             clear p0 p1 pf
             have hz1 := hb.size
             try simp only [World.size_alloc] at hz1
             have hbl := (hb.block _ (by first | omega | (simp <;> omega))).trans HZ8.out
             have p0 : w1.cell? ⟨w.heap.size + 1 + 1, 0, none⟩ = some (.int .i64 0) := by rw [cell_block hbl]; rfl
             have p1 : w1.cell? ⟨w.heap.size + 1 + 1, 1, none⟩ = some (.slice none 0 0) := by rw [cell_block hbl]; rfl
             have pf : ∀ o, w1.frozen? ⟨w.heap.size + 1 + 1, o, none⟩ = false := fun o => frozen_block hbl
             have HE := hide (below_step HW8.out hb)
             have HMD := hide (And.intro hM (And.intro hF (show ∀ b ∈ F, w.heap.size + 1 + 1 < b from fun b hb => (by have := hge b hb; (try simp at this); omega))))
             clear hM hF hge hb hFF hS hbl))
        have HZ : Hid (∀ wz, Chg [w.heap.size + 1 + 1] w1 wz → RetElem2 logD w (reL l s.events) (reOk l s.events) (.returned (.tuple #[.agg #[.int .i64 (reL l s.events).next, .slice A9 (reL l s.events).messages.length c9], .bool (reOk l s.events)])) wz) := by
          intro wz hch
          obtain ⟨hM, hF, hge⟩ := HMD.out
          exact ⟨_, F, rfl, Dt.M_move _ (fun b hb => hch.block b (logD.M_lt hM b hb) (by have := hge b hb; simp; omega)) hM, hF, fun b hb => by have := hge b hb; omega, HE.out.trans (hch.below HE.out.size (by simp <;> omega))⟩
        refine bodyPost_ret (v := .tuple #[.agg #[.int .i64 (reL l s.events).next, .slice A9 (reL l s.events).messages.length c9], .bool (reOk l s.events)]) (by simp [results, Tryz.results20, go_sem, p0, p1, pf]) rfl (HZ.out _ ?_)
        (repeat (with_reducible refine Chg.setCell ?_ (.inl (by simp)) _))
        exact Chg.refl _ _
      · by_cases h2 : s.kind = 2
        · by_cases hw : validLogB s.whole = true
          · rw [sy_2 hv h2, sy_2y hv h2 hw, hw]
            have HVW := hide hw
            have hk : (s.kind == 2) = true := by simp [h2]
            have hk0 : (s.kind == 0) = false := by simp [h0]
            have hk1 : (s.kind == 1) = false := by simp [h1]
            clear hv h0 h1 h2 hw
            go_enter Tryz.func20, Tryz.ntmps20
            go_wp2_with (first
              | (go_at_call 43
                 refine (l03Is_c l _ _ _ HB1.out HT.out).mono ?_
                 rintro e w8 ⟨rfl, hb⟩
                 rw [HV.out]
                 have HK1 := hide (HB1.out.below hb)
                 have HK2 := hide (HB2.out.below hb)
                 have HZ8 := hide ((hb.block _ (by simp)).trans HZB.out)
                 have HW8 := hide (below_step HW.out hb)
                 have hz8 := block_lt HZ8.out
                 have l0 : w8.cell? ⟨w.heap.size, 0, none⟩ = some (.int .i64 l.next) := cell_below hb (by go_simp)
                 have l1 : w8.cell? ⟨w.heap.size, 1, none⟩ = some (.slice A l.messages.length c) := cell_below hb (by go_simp)
                 have s0 : w8.cell? ⟨w.heap.size + 1, 0, none⟩ = some (.int .i64 s.kind) := cell_below hb (by go_simp)
                 have s1 : w8.cell? ⟨w.heap.size + 1, 1, none⟩ = some (.slice A1 s.events.length c1) := cell_below hb (by go_simp)
                 have s2 : w8.cell? ⟨w.heap.size + 1, 2, none⟩ = some (.int .i64 s.whole.next) := cell_below hb (by go_simp)
                 have s3 : w8.cell? ⟨w.heap.size + 1, 3, none⟩ = some (.slice A3 s.whole.messages.length c3) := cell_below hb (by go_simp)
                 have p0 : w8.cell? ⟨w.heap.size + 1 + 1, 0, none⟩ = some (.int .i64 0) := by rw [cell_block HZ8.out]; rfl
                 have p1 : w8.cell? ⟨w.heap.size + 1 + 1, 1, none⟩ = some (.slice none 0 0) := by rw [cell_block HZ8.out]; rfl
                 have pf : ∀ o, w8.frozen? ⟨w.heap.size + 1 + 1, o, none⟩ = false := fun o => frozen_block HZ8.out
                 clear hb)
              | (go_at_call 44
                 refine (l03OwnB_c s.whole _ _ _ (sync_part HK2.out) HS.out.2.2).mono ?_
                 rintro e w4 ⟨cs, F, rfl, hM, hF, hge, hb⟩
                 obtain ⟨v9, F9, rfl, hFF, hS⟩ := log_M hM
                 obtain ⟨A9, c9, rfl⟩ := hS.toK.shape
                 have HZ4 := hide ((hb.block _ hz8).trans HZ8.out)
                 have HW4 := hide (below_step HW8.out hb)
                 have hz4 := block_lt HZ4.out
                 have HM4 := hide (And.intro hS.toK (And.intro hM (And.intro hF (show ∀ b ∈ F, w.heap.size + 1 + 1 < b from fun b hb => (by have := hge b hb; omega)))))
                 clear hM hF hge hb hFF hS p0 p1 pf)
              | (go_at_call 46
                 refine (giveYes_c s.whole _ _ HM4.out.1 HS.out.2.1 HVW.out).mono ?_
                 rintro e w1 ⟨rfl, hb⟩
                 have hbl := (hb.block _ hz4).trans HZ4.out
                 have p0 : w1.cell? ⟨w.heap.size + 1 + 1, 0, none⟩ = some (.int .i64 0) := by rw [cell_block hbl]; rfl
                 have p1 : w1.cell? ⟨w.heap.size + 1 + 1, 1, none⟩ = some (.slice none 0 0) := by rw [cell_block hbl]; rfl
                 have pf : ∀ o, w1.frozen? ⟨w.heap.size + 1 + 1, o, none⟩ = false := fun o => frozen_block hbl
                 have HMD := hide (And.intro (Dt.by HM4.out.2.1 hb) (And.intro HM4.out.2.2.1 HM4.out.2.2.2))
                 have HE := hide (below_step HW4.out hb)
                 clear hb hbl))
            have HZ : Hid (∀ wz, Chg [w.heap.size + 1 + 1] w1 wz → RetElem2 logD w s.whole true (.returned (.tuple #[.agg #[.int .i64 s.whole.next, .slice A9 s.whole.messages.length c9], .bool true])) wz) := by
              intro wz hch
              obtain ⟨hM, hF, hge⟩ := HMD.out
              exact ⟨_, F, rfl, Dt.M_move _ (fun b hb => hch.block b (logD.M_lt hM b hb) (by have := hge b hb; simp; omega)) hM, hF, fun b hb => by have := hge b hb; omega, HE.out.trans (hch.below HE.out.size (by simp <;> omega))⟩
            refine bodyPost_ret (v := .tuple #[.agg #[.int .i64 s.whole.next, .slice A9 s.whole.messages.length c9], .bool true]) (by simp [results, Tryz.results20, go_sem, p0, p1, pf]) rfl (HZ.out _ ?_)
            (repeat (with_reducible refine Chg.setCell ?_ (.inl (by simp)) _))
            exact Chg.refl _ _
          · have HVW := hide (show validLogB s.whole = false by simpa using hw)
            have HOK := hide (show syOk l s = false by rw [sy_2 hv h2, HVW.out])
            have HL := hide (syL_no HOK.out)
            have hk : (s.kind == 2) = true := by simp [h2]
            have hk0 : (s.kind == 0) = false := by simp [h0]
            have hk1 : (s.kind == 1) = false := by simp [h1]
            clear hv h0 h1 h2 hw
            go_enter Tryz.func20, Tryz.ntmps20
            go_wp2_with (first
              | (go_at_call 43
                 refine (l03Is_c l _ _ _ HB1.out HT.out).mono ?_
                 rintro e w8 ⟨rfl, hb⟩
                 rw [HV.out]
                 have HK1 := hide (HB1.out.below hb)
                 have HK2 := hide (HB2.out.below hb)
                 have HZ8 := hide ((hb.block _ (by simp)).trans HZB.out)
                 have HW8 := hide (below_step HW.out hb)
                 have hz8 := block_lt HZ8.out
                 have l0 : w8.cell? ⟨w.heap.size, 0, none⟩ = some (.int .i64 l.next) := cell_below hb (by go_simp)
                 have l1 : w8.cell? ⟨w.heap.size, 1, none⟩ = some (.slice A l.messages.length c) := cell_below hb (by go_simp)
                 have s0 : w8.cell? ⟨w.heap.size + 1, 0, none⟩ = some (.int .i64 s.kind) := cell_below hb (by go_simp)
                 have s1 : w8.cell? ⟨w.heap.size + 1, 1, none⟩ = some (.slice A1 s.events.length c1) := cell_below hb (by go_simp)
                 have s2 : w8.cell? ⟨w.heap.size + 1, 2, none⟩ = some (.int .i64 s.whole.next) := cell_below hb (by go_simp)
                 have s3 : w8.cell? ⟨w.heap.size + 1, 3, none⟩ = some (.slice A3 s.whole.messages.length c3) := cell_below hb (by go_simp)
                 have p0 : w8.cell? ⟨w.heap.size + 1 + 1, 0, none⟩ = some (.int .i64 0) := by rw [cell_block HZ8.out]; rfl
                 have p1 : w8.cell? ⟨w.heap.size + 1 + 1, 1, none⟩ = some (.slice none 0 0) := by rw [cell_block HZ8.out]; rfl
                 have pf : ∀ o, w8.frozen? ⟨w.heap.size + 1 + 1, o, none⟩ = false := fun o => frozen_block HZ8.out
                 clear hb)
              | (go_at_call 44
                 refine (l03OwnB_c s.whole _ _ _ (sync_part HK2.out) HS.out.2.2).mono ?_
                 rintro e w4 ⟨cs, F, rfl, hM, hF, hge, hb⟩
                 obtain ⟨v9, F9, rfl, hFF, hS⟩ := log_M hM
                 obtain ⟨A9, c9, rfl⟩ := hS.toK.shape
                 have HZ4 := hide ((hb.block _ hz8).trans HZ8.out)
                 have HW4 := hide (below_step HW8.out hb)
                 have hz4 := block_lt HZ4.out
                 have HM4 := hide (And.intro hS.toK (And.intro hM (And.intro hF (show ∀ b ∈ F, w.heap.size + 1 + 1 < b from fun b hb => (by have := hge b hb; omega)))))
                 clear hM hF hge hb hFF hS p0 p1 pf)
              | (go_at_call 46
                 refine (giveNo_c s.whole _ _ HM4.out.1 HS.out.2.1 HVW.out).mono ?_
                 rintro e w1 ⟨rfl, hb⟩
                 have hbl := (hb.block _ hz4).trans HZ4.out
                 have p0 : w1.cell? ⟨w.heap.size + 1 + 1, 0, none⟩ = some (.int .i64 0) := by rw [cell_block hbl]; rfl
                 have p1 : w1.cell? ⟨w.heap.size + 1 + 1, 1, none⟩ = some (.slice none 0 0) := by rw [cell_block hbl]; rfl
                 have pf : ∀ o, w1.frozen? ⟨w.heap.size + 1 + 1, o, none⟩ = false := fun o => frozen_block hbl
                 have HE1 := hide (below_step HW4.out hb)
                 clear hb hbl))
            have HE := HE1
            have HZ : Hid (∀ wz, Chg [w.heap.size + 1 + 1] w1 wz → RetElem2 logD w (syL l s) (syOk l s) (.returned (.tuple #[.agg #[.int .i64 0, .slice none 0 0], .bool false])) wz) := by
              intro wz hch
              rw [HL.out, HOK.out]
              exact ⟨_, [], rfl, noLog_M wz, by simp, by simp, HE.out.trans (hch.below HE.out.size (by simp <;> omega))⟩
            refine bodyPost_ret (v := .tuple #[.agg #[.int .i64 0, .slice none 0 0], .bool false]) (by simp [results, Tryz.results20, go_sem, p0, p1, pf]) rfl (HZ.out _ ?_)
            (repeat (with_reducible refine Chg.setCell ?_ (.inl (by simp)) _))
            exact Chg.refl _ _
        · have HOK := hide (sy_9 (l := l) h0 h1 h2)
          have HL := hide (syL_no HOK.out)
          have hk : (s.kind == 2) = false := by simp [h2]
          have hk0 : (s.kind == 0) = false := by simp [h0]
          have hk1 : (s.kind == 1) = false := by simp [h1]
          clear hv h0 h1 h2
          go_enter Tryz.func20, Tryz.ntmps20
          go_wp2_with (go_at_call 43
                       refine (l03Is_c l _ _ _ HB1.out HT.out).mono ?_
                       rintro e w8 ⟨rfl, hb⟩
                       rw [HV.out]
                       have HK1 := hide (HB1.out.below hb)
                       have HK2 := hide (HB2.out.below hb)
                       have HZ8 := hide ((hb.block _ (by simp)).trans HZB.out)
                       have HW8 := hide (below_step HW.out hb)
                       have hz8 := block_lt HZ8.out
                       have l0 : w8.cell? ⟨w.heap.size, 0, none⟩ = some (.int .i64 l.next) := cell_below hb (by go_simp)
                       have l1 : w8.cell? ⟨w.heap.size, 1, none⟩ = some (.slice A l.messages.length c) := cell_below hb (by go_simp)
                       have s0 : w8.cell? ⟨w.heap.size + 1, 0, none⟩ = some (.int .i64 s.kind) := cell_below hb (by go_simp)
                       have s1 : w8.cell? ⟨w.heap.size + 1, 1, none⟩ = some (.slice A1 s.events.length c1) := cell_below hb (by go_simp)
                       have s2 : w8.cell? ⟨w.heap.size + 1, 2, none⟩ = some (.int .i64 s.whole.next) := cell_below hb (by go_simp)
                       have s3 : w8.cell? ⟨w.heap.size + 1, 3, none⟩ = some (.slice A3 s.whole.messages.length c3) := cell_below hb (by go_simp)
                       have p0 : w8.cell? ⟨w.heap.size + 1 + 1, 0, none⟩ = some (.int .i64 0) := by rw [cell_block HZ8.out]; rfl
                       have p1 : w8.cell? ⟨w.heap.size + 1 + 1, 1, none⟩ = some (.slice none 0 0) := by rw [cell_block HZ8.out]; rfl
                       have pf : ∀ o, w8.frozen? ⟨w.heap.size + 1 + 1, o, none⟩ = false := fun o => frozen_block HZ8.out
                       clear hb)
          have HE := HW8
          have HZ : Hid (∀ wz, Chg [w.heap.size + 1 + 1] w8 wz → RetElem2 logD w (syL l s) (syOk l s) (.returned (.tuple #[.agg #[.int .i64 0, .slice none 0 0], .bool false])) wz) := by
            intro wz hch
            rw [HL.out, HOK.out]
            exact ⟨_, [], rfl, noLog_M wz, by simp, by simp, HE.out.trans (hch.below HE.out.size (by simp <;> omega))⟩
          refine bodyPost_ret (v := .tuple #[.agg #[.int .i64 0, .slice none 0 0], .bool false]) (by simp [results, Tryz.results20, go_sem, p0, p1, pf]) rfl (HZ.out _ ?_)
          (repeat (with_reducible refine Chg.setCell ?_ (.inl (by simp)) _))
          exact Chg.refl _ _
  · have HV := hide (show validLogB l = false by simpa using hv)
    have HOK := hide (show syOk l s = false by simp [syOk, HV.out])
    have HL := hide (syL_no HOK.out)
    clear hv
    go_enter Tryz.func20, Tryz.ntmps20
    go_wp2_with (go_at_call 43
                 refine (l03Is_c l _ _ _ HB1.out HT.out).mono ?_
                 rintro e w8 ⟨rfl, hb⟩
                 rw [HV.out]
                 have HK1 := hide (HB1.out.below hb)
                 have HK2 := hide (HB2.out.below hb)
                 have HZ8 := hide ((hb.block _ (by simp)).trans HZB.out)
                 have HW8 := hide (below_step HW.out hb)
                 have hz8 := block_lt HZ8.out
                 have l0 : w8.cell? ⟨w.heap.size, 0, none⟩ = some (.int .i64 l.next) := cell_below hb (by go_simp)
                 have l1 : w8.cell? ⟨w.heap.size, 1, none⟩ = some (.slice A l.messages.length c) := cell_below hb (by go_simp)
                 have s0 : w8.cell? ⟨w.heap.size + 1, 0, none⟩ = some (.int .i64 s.kind) := cell_below hb (by go_simp)
                 have s1 : w8.cell? ⟨w.heap.size + 1, 1, none⟩ = some (.slice A1 s.events.length c1) := cell_below hb (by go_simp)
                 have s2 : w8.cell? ⟨w.heap.size + 1, 2, none⟩ = some (.int .i64 s.whole.next) := cell_below hb (by go_simp)
                 have s3 : w8.cell? ⟨w.heap.size + 1, 3, none⟩ = some (.slice A3 s.whole.messages.length c3) := cell_below hb (by go_simp)
                 have p0 : w8.cell? ⟨w.heap.size + 1 + 1, 0, none⟩ = some (.int .i64 0) := by rw [cell_block HZ8.out]; rfl
                 have p1 : w8.cell? ⟨w.heap.size + 1 + 1, 1, none⟩ = some (.slice none 0 0) := by rw [cell_block HZ8.out]; rfl
                 have pf : ∀ o, w8.frozen? ⟨w.heap.size + 1 + 1, o, none⟩ = false := fun o => frozen_block HZ8.out
                 clear hb)
    have HE := HW8
    have HZ : Hid (∀ wz, Chg [w.heap.size + 1 + 1] w8 wz → RetElem2 logD w (syL l s) (syOk l s) (.returned (.tuple #[.agg #[.int .i64 0, .slice none 0 0], .bool false])) wz) := by
      intro wz hch
      rw [HL.out, HOK.out]
      exact ⟨_, [], rfl, noLog_M wz, by simp, by simp, HE.out.trans (hch.below HE.out.size (by simp <;> omega))⟩
    refine bodyPost_ret (v := .tuple #[.agg #[.int .i64 0, .slice none 0 0], .bool false]) (by simp [results, Tryz.results20, go_sem, p0, p1, pf]) rfl (HZ.out _ ?_)
    (repeat (with_reducible refine Chg.setCell ?_ (.inl (by simp)) _))
    exact Chg.refl _ _
end Go.Proofs.YtadcmiinjepdcaaGreat
