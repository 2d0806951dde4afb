/- A message is edited: the program and the reference. -/
import Derived.Test.YtodmongmaoeknaaGreatLive
namespace Go.Proofs.YtodmongmaoeknaaGreat
open Go Go.RowKit Go.BigFrame
attribute [local go_sem] Calm.cell Calm.frozen
set_option linter.unusedVariables false
set_option linter.unusedSimpArgs false

def edM (t : ByteArray) (m : Message) : Message := { m with text := t, edits := m.edits + 1 }
def edF (s : Int) (t : ByteArray) (m : Message) : Message × Bool := if m.sender = s ∧ (m.text.toList == t.toList) = false then (edM t m, true) else (m, false)
theorem edF_yes {s : Int} {t : ByteArray} {m : Message} (h1 : m.sender = s) (h2 : (m.text.toList == t.toList) = false) : edF s t m = (edM t m, true) := by simp [edF, h1]; exact by simpa using h2
theorem edF_no1 {s : Int} {t : ByteArray} {m : Message} (h1 : ¬ m.sender = s) : edF s t m = (m, false) := by simp [edF, h1]
theorem edF_no2 {s : Int} {t : ByteArray} {m : Message} (h2 : (m.text.toList == t.toList) = true) : edF s t m = (m, false) := by
  unfold edF; rw [h2]; simp
theorem edF_text {s : Int} {t : ByteArray} {m : Message} (h1 : m.text.size ≤ 9223372036854775807) (h2 : t.size ≤ 1048576) : (edF s t m).1.text.size ≤ 9223372036854775807 := by
  unfold edF; split
  · show t.size ≤ _; omega
  · exact h1
def editL (l : Log) (n s : Int) (t : ByteArray) : Log := wmL l n (edF s t)
def editOk (l : Log) (n s : Int) (t : ByteArray) : Bool := wmOk l n (edF s t)
theorem edit_cnt (l : Log) (n s : Int) (t : ByteArray) : tcntLog (editL l n s t) ≤ 1080 := wmL_cnt _ _ _
theorem valid_edits {m : Message} (h : validMessageB m = true) : 0 ≤ m.edits ∧ m.edits ≤ 1000000000 := by
  simp only [validMessageB, Bool.and_eq_true] at h
  exact inB_iff.1 h.1.1.1.1.1.2

set_option maxHeartbeats 4000000 in
set_option maxRecDepth 100000 in
theorem edit1_c (s : Int) (t : ByteArray) (b6 b7 : Nat) (w : World) (h6 : w.cell? ⟨b6, 0, none⟩ = some (.int .i64 s)) (ht : w.cell? ⟨b7, 0, none⟩ = some (.string t)) : Turns 87 #[.pointer (some ⟨b6, 0, none⟩), .pointer (some ⟨b7, 0, none⟩)] (edF s t) w := by
  intro ms k m b cap F W hb hS hF hFge hx hv
  show Calls Tryz.prog 87 #[.pointer (some ⟨b, k * 8, none⟩), .pointer (some ⟨b6, 0, none⟩), .pointer (some ⟨b7, 0, none⟩)] W _
  obtain ⟨cs, G, hE⟩ := hS.elem hF hx
  obtain ⟨v7, F7, rfl, rfl, h7⟩ := message_M hE.M
  obtain ⟨A7, c7, rfl⟩ := h7.toK.shape
  have h6' := cell_below hb h6
  have ht' := cell_below hb ht
  have hl6' := World.block_lt_of_cell? w _ h6
  have hl6 := World.block_lt_of_cell? W _ h6'
  have hlt' := World.block_lt_of_cell? w _ ht
  have hlt := World.block_lt_of_cell? W _ ht'
  simp only [] at hl6 hl6' hlt hlt'
  have hbb := hFge b hE.mem
  have hne6 : ¬ b6 = b := by omega
  have hne6' : ¬ b = b6 := by omega
  have hne7 : ¬ b7 = b := by omega
  have hne7' : ¬ b = b7 := by omega
  have hlb := hE.lt
  have hfz := hE.frozen
  have g0 := hE.cell 0 _ rfl
  have g1 := hE.cell 1 _ rfl
  have g2 := hE.cell 2 _ rfl
  have g3 := hE.cell 3 _ rfl
  have g4 := hE.cell 4 _ rfl
  have g5 := hE.cell 5 _ rfl
  have g6 := hE.cell 6 _ rfl
  have g7 := hE.cell 7 _ rfl
  simp only [show messageD.sz = 8 from rfl, Nat.add_zero] at g0 g1 g2 g3 g4 g5 g6 g7
  have hve := valid_edits hv
  have hwr : IntKind.i64.wrap (m.edits + 1) = m.edits + 1 := IntWalk.i64_in _ (by omega)
  have HE := hide (And.intro hE (And.intro h7 (And.intro hS (And.intro hF hx))))
  clear hS hF hFge hE h7 h6 ht hb hx hve
  by_cases hs : m.sender = s
  · by_cases htx : (m.text.toList == t.toList) = true
    · have hs2 : (m.sender != s) = false := by simp [hs]
      go_enter Tryz.func87, Tryz.ntmps87
      go_wp2_with fail
      (refine wp_region_calm (by kernel_rfl) (by kernel_rfl) ?_; (repeat (first | go_big_quiet_skip | (go_big_quiet_want; go_big_quiet_op; (first | go_big_quiet_on | (apply Exists.intro; refine ⟨fun ic => ?_, ?_⟩; (focus (fail; done)); go_big_quiet_on))))); refine wpQuiet_nil ?_; intro wq hwq; obtain ⟨iq, hwe⟩ := hwq; subst hwe)
      go_wp2_with fail
      go_ret
      rw [edF_no2 htx]
      refine ⟨rfl, ?_⟩
      obtain ⟨hE, h7, hS, hF, hx⟩ := HE.out
      rw [set_same hx]
      exact ⟨F, hS.by iq.below, hF, fun y hy => .inl hy, .of_below iq.below _⟩
    · have htx' : (m.text.toList == t.toList) = false := by simpa using htx
      have hs2 : (m.sender != s) = false := by simp [hs]
      clear htx
      have HYES := hide (edF_yes hs htx')
      clear hs
      go_enter Tryz.func87, Tryz.ntmps87
      go_wp2_with fail
      (refine wp_region_calm (by kernel_rfl) (by kernel_rfl) ?_; (repeat (first | go_big_quiet_skip | (go_big_quiet_want; go_big_quiet_op; (first | go_big_quiet_on | (apply Exists.intro; refine ⟨fun ic => ?_, ?_⟩; (focus (fail; done)); go_big_quiet_on))))); refine wpQuiet_nil ?_; intro wq hwq; obtain ⟨iq, hwe⟩ := hwq; subst hwe)
      go_wp2_with fail
      go_ret
      rw [HYES.out]
      refine ⟨rfl, ?_⟩
      obtain ⟨hE, h7, hS, hF, hx⟩ := HE.out
      have hG := hE.out
      exact hE.turn ((iq.world.setCell ⟨b, k * 8 + 3, none⟩ (.string t)).setCell ⟨b, k * 8 + 4, none⟩ (.int .i64 (m.edits + 1))) [.int .i64 m.number, .int .i64 m.sender, .int .i64 m.at_, .string t, .int .i64 (m.edits + 1), .bool m.gone, .int .i64 m.reply, .slice A7 m.likes.length c7] (edM t m) G
        ((((Wrote.refl _ _ _ _ W).below iq.below).set (k * 8 + 3) _ (by simp [show messageD.sz = 8 from rfl]) (by simp [show messageD.sz = 8 from rfl])).set (k * 8 + 4) _ (by simp [show messageD.sz = 8 from rfl]) (by simp [show messageD.sz = 8 from rfl]))
        ((((Chg.refl (b :: G) W).trans (.of_below iq.below _)).setCell (p := ⟨b, k * 8 + 3, none⟩) (.inl List.mem_cons_self) _).setCell (p := ⟨b, k * 8 + 4, none⟩) (.inl List.mem_cons_self) _)
        (message_M_mk (x := edM t m) ((h7.by iq.below).move fun y hy => (Below.heap_setCell _ _ _ y (fun e => hG (by have h : y = b := e; exact h ▸ hy))).trans (Below.heap_setCell _ _ _ y (fun e => hG (by have h : y = b := e; exact h ▸ hy)))))
        (eight (P := fun i u => ((iq.world.setCell ⟨b, k * 8 + 3, none⟩ (.string t)).setCell ⟨b, k * 8 + 4, none⟩ (.int .i64 (m.edits + 1))).cell? ⟨b, k * 8 + i, none⟩ = some u) (by go_simp) (by go_simp) (by go_simp) (by go_simp) (by go_simp) (by go_simp) (by go_simp) (by go_simp))
        hE.nodup (fun y hy => .inl hy)
  · have hs2 : (m.sender != s) = true := by simp [hs]
    go_enter Tryz.func87, Tryz.ntmps87
    go_wp2_with fail
    (refine wp_region_calm (by kernel_rfl) (by kernel_rfl) ?_; (repeat (first | go_big_quiet_skip | (go_big_quiet_want; go_big_quiet_op; (first | go_big_quiet_on | (apply Exists.intro; refine ⟨fun ic => ?_, ?_⟩; (focus (fail; done)); go_big_quiet_on))))); refine wpQuiet_nil ?_; intro wq hwq; obtain ⟨iq, hwe⟩ := hwq; subst hwe)
    go_wp2_with fail
    go_ret
    rw [edF_no1 hs]
    refine ⟨rfl, ?_⟩
    obtain ⟨hE, h7, hS, hF, hx⟩ := HE.out
    rw [set_same hx]
    exact ⟨F, hS.by iq.below, hF, fun y hy => .inl hy, .of_below iq.below _⟩
set_option maxHeartbeats 4000000 in
set_option maxRecDepth 100000 in
theorem editMessage_c (l : Log) (v1 : Value) (n : Int) (s : Int) (t : ByteArray) (w : World) (h1 : SliceK messageD w v1 l.messages) (ht : okTexts l.messages) (hs_t : t.size ≤ 1048576) :
    Calls Tryz.prog 60 #[.agg #[.int .i64 l.next, v1], .int .i64 n, .int .i64 s, .string t] w (RetElem2 logD w (editL l n s t) (editOk l n s t)) := by
  show Calls Tryz.prog 60 #[.agg #[.int .i64 l.next, v1], .int .i64 n, .int .i64 s, .string t] w (RetElem2 logD w (wmL l n (edF s t)) (wmOk l n (edF s t)))
  obtain ⟨A, c, rfl⟩ := h1.shape
  have H1 := hide h1
  have HT := hide ht
  clear h1 ht
  have HW := hide (((((Below.refl w.heap.size w).alloc (Nat.le_refl _) (.cells #[.int .i64 l.next, .slice A l.messages.length c] 31)).alloc (by simp <;> omega) (.cells #[.int .i64 s] 2)).alloc (by simp <;> omega) (.cells #[.string t] 9)).alloc (by simp <;> omega) (.cells #[.int .i64 0, .slice none 0 0] 31))
  have HC0 := hide (show ((((w.alloc (.cells #[.int .i64 l.next, .slice A l.messages.length c] 31)).alloc (.cells #[.int .i64 s] 2)).alloc (.cells #[.string t] 9)).alloc (.cells #[.int .i64 0, .slice none 0 0] 31)).cell? ⟨w.heap.size + 1, 0, none⟩ = some (.int .i64 s) by go_simp)
  have HC1 := hide (show ((((w.alloc (.cells #[.int .i64 l.next, .slice A l.messages.length c] 31)).alloc (.cells #[.int .i64 s] 2)).alloc (.cells #[.string t] 9)).alloc (.cells #[.int .i64 0, .slice none 0 0] 31)).cell? ⟨w.heap.size + 1 + 1, 0, none⟩ = some (.string t) by go_simp)
  have HZB := hide (show ((((w.alloc (.cells #[.int .i64 l.next, .slice A l.messages.length c] 31)).alloc (.cells #[.int .i64 s] 2)).alloc (.cells #[.string t] 9)).alloc (.cells #[.int .i64 0, .slice none 0 0] 31)).heap[w.heap.size + 1 + 1 + 1]? = some (.cells #[.int .i64 0, .slice none 0 0] 31 (0, 0)) by
    have := alloc_new (((w.alloc (.cells #[.int .i64 l.next, .slice A l.messages.length c] 31)).alloc (.cells #[.int .i64 s] 2)).alloc (.cells #[.string t] 9)) (.cells #[.int .i64 0, .slice none 0 0] 31)
    simpa using this)
  have eg := enters_of Tryz.func87 (by kernel_rfl) rfl
  go_enter Tryz.func60, Tryz.ntmps60
  go_wp2_with (
    go_at_call 86
    refine (withMessage_c _ _ (edF s t) l _ n _ (H1.out.below HW.out) HT.out (fun m hm => edF_text (HT.out m hm) hs_t) eg (edit1_c s t _ _ _ HC0.out HC1.out)).mono ?_
    rintro e w1 ⟨cs, F, rfl, hM, hF, hge, hb⟩
    obtain ⟨v9, F9, rfl, hFF, hS⟩ := log_M hM
    obtain ⟨A9, c9, rfl⟩ := hS.toK.shape
    have hz1 := hb.size
    simp only [World.size_alloc] at hz1
    have hbl := (hb.block _ (by simp <;> omega)).trans HZB.out
    have p0 : w1.cell? ⟨w.heap.size + 1 + 1 + 1, 0, none⟩ = some (.int .i64 0) := by rw [cell_block hbl]; rfl
    have p1 : w1.cell? ⟨w.heap.size + 1 + 1 + 1, 1, none⟩ = some (.slice none 0 0) := by rw [cell_block hbl]; rfl
    have pf : ∀ o, w1.frozen? ⟨w.heap.size + 1 + 1 + 1, o, none⟩ = false := fun o => frozen_block hbl
    have HE := hide (below_step HW.out hb)
    have HMD := hide (And.intro hM (And.intro hF (show ∀ b ∈ F, w.heap.size + 1 + 1 + 1 < b from fun b hb => (by have := hge b hb; simp at this; omega))))
    clear hM hF hge hb hFF hS hbl)
  have HZ : Hid (∀ wz, Chg [w.heap.size + 1 + 1 + 1] w1 wz → RetElem2 logD w (wmL l n (edF s t)) (wmOk l n (edF s t)) (.returned (.tuple #[.agg #[.int .i64 (wmL l n (edF s t)).next, .slice A9 (wmL l n (edF s t)).messages.length c9], .bool (wmOk l n (edF s t))])) wz) := by
    intro wz hch
    obtain ⟨hM, hF, hge⟩ := HMD.out
    exact ⟨_, F, rfl, Dt.M_move _ (fun b hb => hch.block b (logD.M_lt hM b hb) (by have := hge b hb; simp; omega)) hM, hF, fun b hb => by have := hge b hb; omega, HE.out.trans (hch.below HE.out.size (by simp <;> omega))⟩
  refine bodyPost_ret (v := .tuple #[.agg #[.int .i64 (wmL l n (edF s t)).next, .slice A9 (wmL l n (edF s t)).messages.length c9], .bool (wmOk l n (edF s t))]) (by simp [results, Tryz.results60, go_sem, p0, p1, pf]) rfl (HZ.out _ ?_)
  (repeat (with_reducible refine Chg.setCell ?_ (.inl (by simp)) _))
  exact Chg.refl _ _
set_option maxHeartbeats 8000000 in
set_option maxRecDepth 100000 in
theorem l03Edit_c (l : Log) (b o : Nat) (n s : Int) (t : ByteArray) (w : World) (hp : RowAt logD w b o [l]) (ht : okTexts l.messages) (hv : validLogB l = true) (hst : t.size ≤ 1048576) :
    Calls Tryz.prog 50 #[.pointer (some ⟨b, o, none⟩), .int .i64 n, .int .i64 s, .string t] w (RetElem2 logD w (wmL l n (edF s t)) (wmOk l n (edF s t))) := by
  obtain ⟨v1, h1, hbz, hb0, hb1⟩ := log_at hp (Below.refl _ _) (j := 0) rfl
  simp only [Nat.zero_mul, Nat.add_zero] at hb0 hb1
  obtain ⟨A, c, rfl, hl, hm, hra⟩ := h1
  have HP := hide hp
  have HV := hide hv
  have HT := hide ht
  have HFEW := hide (fewL_of hv)
  have HA0 := hide ((Below.refl w.heap.size w).alloc (Nat.le_refl _) (.cells #[.int .i64 0, .slice none 0 0] 31))
  clear hp hv ht
  by_cases hn : 0 ≤ idxP (numIs n) l.messages
  · obtain ⟨k, m, hk, hlk, hx, hmn⟩ := idx_found hn
    have hlt2 : (k : Int) < (l.messages.length : Int) := by omega
    have HX := hide hx
    have HRA := hide hra
    have HOKE := hide (wmOk_at (f := edF s t) HV.out hk hx)
    clear hn hx hmn hra
    by_cases hg : m.gone = true
    · have hlive := live_gone hk HX.out hg
      have HOK := hide (show wmOk l n (edF s t) = false by rw [HOKE.out, hg]; rfl)
      go_enter Tryz.func50, Tryz.ntmps50
      go_wp2_with (go_at_call 75
                   refine (l03Live_c l _ _ n _ (HP.out.below HA0.out)).mono ?_
                   rintro e w1 ⟨rfl, hb⟩
                   rw [hlive]
                   have HB1 := hide (HA0.out.trans (hb.mono HA0.out.size))
                   have hz1 := hb.size
                   simp only [World.size_alloc] at hz1
                   have b1 := cell_below HB1.out hb1
                   have hbl := (hb.block _ (by simp)).trans (alloc_new w _)
                   have HBL1 := hide hbl
                   have p0 : w1.cell? ⟨w.heap.size, 0, none⟩ = some (.int .i64 0) := by rw [cell_block hbl]; rfl
                   have p1 : w1.cell? ⟨w.heap.size, 1, none⟩ = some (.slice none 0 0) := by rw [cell_block hbl]; rfl
                   have pf : ∀ o, w1.frozen? ⟨w.heap.size, o, none⟩ = false := fun o => frozen_block hbl
                   have HE := HB1
                   skip
                   clear hb hbl)
      have HZ : Hid (∀ wz, Chg [w.heap.size] w1 wz → RetElem2 logD w (wmL l n (edF s t)) (wmOk l n (edF s t)) (.returned (.tuple #[.agg #[.int .i64 0, .slice none 0 0], .bool false])) wz) := by
        intro wz hch
        rw [wmL_no HOK.out, HOK.out]
        exact ⟨_, [], rfl, noLog_M wz, by simp, by simp, HE.out.trans (hch.below HE.out.size (by simp))⟩
      refine bodyPost_ret (v := .tuple #[.agg #[.int .i64 0, .slice none 0 0], .bool false]) (by simp [results, Tryz.results50, go_sem, p0, p1, pf]) rfl (HZ.out _ ?_)
      (repeat (with_reducible refine Chg.setCell ?_ (.inl (by simp)) _))
      exact Chg.refl _ _
    · have hg' : m.gone = false := by simpa using hg
      have hlive := live_at hk HX.out hg'
      clear hg
      rcases HRA.out with hnil | ⟨q, o2, rfl, hra⟩
      · rw [hnil] at hlk; simp at hlk
      have HRB := hide hra
      clear hra
      have hve := valid_edits (valid_msgs HV.out (List.mem_of_getElem? HX.out))
      have hwr : IntKind.i64.wrap (m.edits + 1) = m.edits + 1 := IntWalk.i64_in _ (by omega)
      clear hve
      by_cases hs : m.sender = s
      · have hs2 : (m.sender != s) = false := by simp [hs]
        by_cases htx : (m.text.toList == t.toList) = true
        · have HOK := hide (show wmOk l n (edF s t) = false by rw [HOKE.out, edF_no2 htx]; simp)
          clear hs
          go_enter Tryz.func50, Tryz.ntmps50
          go_wp2_with (go_at_call 75
                       refine (l03Live_c l _ _ n _ (HP.out.below HA0.out)).mono ?_
                       rintro e w1 ⟨rfl, hb⟩
                       rw [hlive]
                       have HB1 := hide (HA0.out.trans (hb.mono HA0.out.size))
                       have hz1 := hb.size
                       simp only [World.size_alloc] at hz1
                       have b1 := cell_below HB1.out hb1
                       have hbl := (hb.block _ (by simp)).trans (alloc_new w _)
                       have HBL1 := hide hbl
                       have p0 : w1.cell? ⟨w.heap.size, 0, none⟩ = some (.int .i64 0) := by rw [cell_block hbl]; rfl
                       have p1 : w1.cell? ⟨w.heap.size, 1, none⟩ = some (.slice none 0 0) := by rw [cell_block hbl]; rfl
                       have pf : ∀ o, w1.frozen? ⟨w.heap.size, o, none⟩ = false := fun o => frozen_block hbl
                       have HE := HB1
                       obtain ⟨v7, h7, hq, hc0, hc1, hc2, hc3, hc4, hc5, hc6, hc7⟩ := message_at HRB.out HB1.out HX.out
                       clear hb hbl)
          have HZ : Hid (∀ wz, Chg [w.heap.size] w1 wz → RetElem2 logD w (wmL l n (edF s t)) (wmOk l n (edF s t)) (.returned (.tuple #[.agg #[.int .i64 0, .slice none 0 0], .bool false])) wz) := by
            intro wz hch
            rw [wmL_no HOK.out, HOK.out]
            exact ⟨_, [], rfl, noLog_M wz, by simp, by simp, HE.out.trans (hch.below HE.out.size (by simp))⟩
          refine bodyPost_ret (v := .tuple #[.agg #[.int .i64 0, .slice none 0 0], .bool false]) (by simp [results, Tryz.results50, go_sem, p0, p1, pf]) rfl (HZ.out _ ?_)
          (repeat (with_reducible refine Chg.setCell ?_ (.inl (by simp)) _))
          exact Chg.refl _ _
        · have htx' : (m.text.toList == t.toList) = false := by simpa using htx
          clear htx
          have HYES := hide (edF_yes hs htx')
          clear hs
          have HT2 := hide (show okTexts (setMsg l k (edF s t m).1).messages from fun y hy => by
            rcases List.mem_or_eq_of_mem_set hy with h | h
            · exact HT.out y h
            · rw [h]; exact edF_text (HT.out m (List.mem_of_getElem? HX.out)) hst)
          by_cases hv2 : validLogB (setMsg l k (edF s t m).1) = true
          · have HV2 := hide hv2
            have HOK := hide (show wmOk l n (edF s t) = true by rw [HOKE.out, hg', hv2, HYES.out]; rfl)
            have HL := hide (wmL_yes HOK.out hk HX.out)
            clear hv2
            go_enter Tryz.func50, Tryz.ntmps50
            go_wp2_with (first
              | (go_at_call 75
                 refine (l03Live_c l _ _ n _ (HP.out.below HA0.out)).mono ?_
                 rintro e w1 ⟨rfl, hb⟩
                 rw [hlive]
                 have HB1 := hide (HA0.out.trans (hb.mono HA0.out.size))
                 have hz1 := hb.size
                 simp only [World.size_alloc] at hz1
                 have b1 := cell_below HB1.out hb1
                 have hbl := (hb.block _ (by simp)).trans (alloc_new w _)
                 have HBL1 := hide hbl
                 have p0 : w1.cell? ⟨w.heap.size, 0, none⟩ = some (.int .i64 0) := by rw [cell_block hbl]; rfl
                 have p1 : w1.cell? ⟨w.heap.size, 1, none⟩ = some (.slice none 0 0) := by rw [cell_block hbl]; rfl
                 have pf : ∀ o, w1.frozen? ⟨w.heap.size, o, none⟩ = false := fun o => frozen_block hbl
                 have HE := HB1
                 obtain ⟨v7, h7, hq, hc0, hc1, hc2, hc3, hc4, hc5, hc6, hc7⟩ := message_at HRB.out HB1.out HX.out
                 clear hb hbl)
              | (go_at_call 32
                 refine (l03Own_c l _ _ _ (HP.out.below HB1.out) HFEW.out).mono ?_
                 rintro e w2 ⟨cs2, F2, rfl, hM2, hF2, hge2, hb⟩
                 obtain ⟨v2, F2', rfl, rfl, hS2⟩ := log_M hM2
                 rcases hS2.row with ⟨_, hnil, _⟩ | ⟨b9, c2, cur9, css9, Fs9, rfl, hrow, hFe⟩
                 · rw [hnil] at hlk; simp at hlk
                 obtain ⟨cse, Ge, hE⟩ := hS2.elem hF2 HX.out
                 obtain ⟨ve, Fe, rfl, rfl, hse⟩ := message_M hE.M
                 obtain ⟨Ae, ce, rfl⟩ := hse.toK.shape
                 have g0 := hE.cell 0 _ rfl
                 have g1 := hE.cell 1 _ rfl
                 have g2 := hE.cell 2 _ rfl
                 have g3 := hE.cell 3 _ rfl
                 have g4 := hE.cell 4 _ rfl
                 have g5 := hE.cell 5 _ rfl
                 have g6 := hE.cell 6 _ rfl
                 have g7 := hE.cell 7 _ rfl
                 simp only [show messageD.sz = 8 from rfl, Nat.add_zero] at g0 g1 g2 g3 g4 g5 g6 g7
                 have hfz := hE.frozen
                 have hbe := hE.lt
                 have hz2 := hb.size
                 have hne9 : ¬ b9 = w2.heap.size := by omega
                 have hne8 : ¬ w2.heap.size = b9 := by omega
                 have hbe1 : b9 < w2.heap.size + 1 := by omega
                 have hge9 : ∀ x ∈ F2, w.heap.size + 1 ≤ x := fun x hx => (by have := hge2 x hx; omega)
                 have HE2 := hide (HE.out.trans (hb.mono HE.out.size))
                 have hbl := (hb.block _ (by omega)).trans HBL1.out
                 have HBL2 := hide hbl
                 have HELEM := hide (And.intro hE (And.intro hse (And.intro hF2 hge9)))
                 clear hb hbl hM2 hF2 hge2 hge9 hrow hFe hS2 hE hse p0 p1 pf HE)
              | (go_at_call 74
                 obtain ⟨hE, hse, hF2, hge9⟩ := HELEM.out
                 have hT := (by rw [HYES.out]; exact hE.turn (((w2.setCell ⟨b9, k * 8 + 3, none⟩ (.string t)).setCell ⟨b9, k * 8 + 4, none⟩ (.int .i64 (m.edits + 1))).alloc (.cells #[.int .i64 l.next, .slice (some ⟨b9, 0, none⟩) l.messages.length c2] 31)) [.int .i64 m.number, .int .i64 m.sender, .int .i64 m.at_, .string t, .int .i64 (m.edits + 1), .bool m.gone, .int .i64 m.reply, .slice Ae m.likes.length ce] (edM t m) Ge ((((Wrote.refl _ _ _ _ w2).set (k * 8 + 3) _ (by simp [show messageD.sz = 8 from rfl]) (by simp [show messageD.sz = 8 from rfl])).set (k * 8 + 4) _ (by simp [show messageD.sz = 8 from rfl]) (by simp [show messageD.sz = 8 from rfl])).alloc _) ((((Chg.refl (b9 :: Ge) w2).setCell (p := ⟨b9, k * 8 + 3, none⟩) (.inl List.mem_cons_self) _).setCell (p := ⟨b9, k * 8 + 4, none⟩) (.inl List.mem_cons_self) _).alloc _) (message_M_mk (x := edM t m) (hse.move fun y hy => (alloc_old _ _ (by have h := hse.lt y hy; simpa using h)).trans ((Below.heap_setCell _ _ _ y (fun e => hE.out (by have h : y = b9 := e; exact h ▸ hy))).trans (Below.heap_setCell _ _ _ y (fun e => hE.out (by have h : y = b9 := e; exact h ▸ hy)))))) (eight (P := fun i u => (((w2.setCell ⟨b9, k * 8 + 3, none⟩ (.string t)).setCell ⟨b9, k * 8 + 4, none⟩ (.int .i64 (m.edits + 1))).alloc (.cells #[.int .i64 l.next, .slice (some ⟨b9, 0, none⟩) l.messages.length c2] 31)).cell? ⟨b9, k * 8 + i, none⟩ = some u) (by go_simp) (by go_simp) (by go_simp) (by go_simp) (by go_simp) (by go_simp) (by go_simp) (by go_simp)) hE.nodup (fun y hy => .inl hy) : ∃ F', SliceM messageD 82 (((w2.setCell ⟨b9, k * 8 + 3, none⟩ (.string t)).setCell ⟨b9, k * 8 + 4, none⟩ (.int .i64 (m.edits + 1))).alloc (.cells #[.int .i64 l.next, .slice (some ⟨b9, 0, none⟩) l.messages.length c2] 31)) (.slice (some ⟨b9, 0, none⟩) l.messages.length c2) (l.messages.set k (edF s t m).1) F' ∧ F'.Nodup ∧ (∀ y ∈ F', y ∈ F2 ∨ w2.heap.size ≤ y) ∧ Chg F2 w2 (((w2.setCell ⟨b9, k * 8 + 3, none⟩ (.string t)).setCell ⟨b9, k * 8 + 4, none⟩ (.int .i64 (m.edits + 1))).alloc (.cells #[.int .i64 l.next, .slice (some ⟨b9, 0, none⟩) l.messages.length c2] 31)))
                 obtain ⟨F5, hS5, hF5, hfr5, hc5⟩ := hT
                 have hz5 := hc5.size
                 refine (giveYes_c (setMsg l k (edF s t m).1) _ _ (by have h := hS5.toK; exact h) HT2.out HV2.out).mono ?_
                 rintro e w5 ⟨rfl, hb⟩
                 have hge5 : ∀ x ∈ F5, w.heap.size + 1 ≤ x := fun x hx => (by rcases hfr5 x hx with h | h; exact hge9 x h; omega)
                 have HS5 := hide (And.intro (hS5.by hb) (And.intro hF5 hge5))
                 have HE := hide ((HE2.out.trans (hc5.below (B := w.heap.size) HE2.out.size (fun x hx => by have := hge9 x hx; omega))).trans (hb.mono (by have := HE2.out.size; omega)))
                 have hbl := (hb.block _ (by omega)).trans ((hc5.block _ (by omega) (fun h => by have := hge9 _ h; omega)).trans HBL2.out)
                 have p0 : w5.cell? ⟨w.heap.size, 0, none⟩ = some (.int .i64 0) := by rw [cell_block hbl]; rfl
                 have p1 : w5.cell? ⟨w.heap.size, 1, none⟩ = some (.slice none 0 0) := by rw [cell_block hbl]; rfl
                 have pf : ∀ o, w5.frozen? ⟨w.heap.size, o, none⟩ = false := fun o => frozen_block hbl
                 clear hb hbl hE hse hF2 hge9 hS5 hF5 hfr5 hc5 hge5 hz5))
            have HZ : Hid (∀ wz, Chg [w.heap.size] w5 wz → RetElem2 logD w (wmL l n (edF s t)) (wmOk l n (edF s t)) (.returned (.tuple #[.agg #[.int .i64 l.next, .slice (some ⟨b9, 0, none⟩) l.messages.length c2], .bool true])) wz) := by
              intro wz hch
              rw [HL.out, HOK.out]
              obtain ⟨hS, hF, hge⟩ := HS5.out
              have hS' := hS.move fun b hb => hch.block b (hS.lt b hb) (by have := hge b hb; simp; omega)
              have hlen : (setMsg l k ((edF s t) m).1).messages.length = l.messages.length := by simp [setMsg]
              exact ⟨_, F5, rfl, log_M_mk (x := setMsg l k ((edF s t) m).1) hS', hF, fun b hb => by have := hge b hb; omega, HE.out.trans (hch.below HE.out.size (by simp))⟩
            refine bodyPost_ret (v := .tuple #[.agg #[.int .i64 l.next, .slice (some ⟨b9, 0, none⟩) l.messages.length c2], .bool true]) (by simp [results, Tryz.results50, go_sem, p0, p1, pf, setMsg]) rfl (HZ.out _ ?_)
            (repeat (with_reducible refine Chg.setCell ?_ (.inl (by simp)) _))
            exact Chg.refl _ _
          · have HV2 := hide (show validLogB (setMsg l k (edF s t m).1) = false by simpa using hv2)
            have HOK := hide (show wmOk l n (edF s t) = false by rw [HOKE.out, HV2.out]; simp)
            clear hv2
            go_enter Tryz.func50, Tryz.ntmps50
            go_wp2_with (first
              | (go_at_call 75
                 refine (l03Live_c l _ _ n _ (HP.out.below HA0.out)).mono ?_
                 rintro e w1 ⟨rfl, hb⟩
                 rw [hlive]
                 have HB1 := hide (HA0.out.trans (hb.mono HA0.out.size))
                 have hz1 := hb.size
                 simp only [World.size_alloc] at hz1
                 have b1 := cell_below HB1.out hb1
                 have hbl := (hb.block _ (by simp)).trans (alloc_new w _)
                 have HBL1 := hide hbl
                 have p0 : w1.cell? ⟨w.heap.size, 0, none⟩ = some (.int .i64 0) := by rw [cell_block hbl]; rfl
                 have p1 : w1.cell? ⟨w.heap.size, 1, none⟩ = some (.slice none 0 0) := by rw [cell_block hbl]; rfl
                 have pf : ∀ o, w1.frozen? ⟨w.heap.size, o, none⟩ = false := fun o => frozen_block hbl
                 have HE := HB1
                 obtain ⟨v7, h7, hq, hc0, hc1, hc2, hc3, hc4, hc5, hc6, hc7⟩ := message_at HRB.out HB1.out HX.out
                 clear hb hbl)
              | (go_at_call 32
                 refine (l03Own_c l _ _ _ (HP.out.below HB1.out) HFEW.out).mono ?_
                 rintro e w2 ⟨cs2, F2, rfl, hM2, hF2, hge2, hb⟩
                 obtain ⟨v2, F2', rfl, rfl, hS2⟩ := log_M hM2
                 rcases hS2.row with ⟨_, hnil, _⟩ | ⟨b9, c2, cur9, css9, Fs9, rfl, hrow, hFe⟩
                 · rw [hnil] at hlk; simp at hlk
                 obtain ⟨cse, Ge, hE⟩ := hS2.elem hF2 HX.out
                 obtain ⟨ve, Fe, rfl, rfl, hse⟩ := message_M hE.M
                 obtain ⟨Ae, ce, rfl⟩ := hse.toK.shape
                 have g0 := hE.cell 0 _ rfl
                 have g1 := hE.cell 1 _ rfl
                 have g2 := hE.cell 2 _ rfl
                 have g3 := hE.cell 3 _ rfl
                 have g4 := hE.cell 4 _ rfl
                 have g5 := hE.cell 5 _ rfl
                 have g6 := hE.cell 6 _ rfl
                 have g7 := hE.cell 7 _ rfl
                 simp only [show messageD.sz = 8 from rfl, Nat.add_zero] at g0 g1 g2 g3 g4 g5 g6 g7
                 have hfz := hE.frozen
                 have hbe := hE.lt
                 have hz2 := hb.size
                 have hne9 : ¬ b9 = w2.heap.size := by omega
                 have hne8 : ¬ w2.heap.size = b9 := by omega
                 have hbe1 : b9 < w2.heap.size + 1 := by omega
                 have hge9 : ∀ x ∈ F2, w.heap.size + 1 ≤ x := fun x hx => (by have := hge2 x hx; omega)
                 have HE2 := hide (HE.out.trans (hb.mono HE.out.size))
                 have hbl := (hb.block _ (by omega)).trans HBL1.out
                 have HBL2 := hide hbl
                 have HELEM := hide (And.intro hE (And.intro hse (And.intro hF2 hge9)))
                 clear hb hbl hM2 hF2 hge2 hge9 hrow hFe hS2 hE hse p0 p1 pf HE)
              | (go_at_call 74
                 obtain ⟨hE, hse, hF2, hge9⟩ := HELEM.out
                 have hT := (by rw [HYES.out]; exact hE.turn (((w2.setCell ⟨b9, k * 8 + 3, none⟩ (.string t)).setCell ⟨b9, k * 8 + 4, none⟩ (.int .i64 (m.edits + 1))).alloc (.cells #[.int .i64 l.next, .slice (some ⟨b9, 0, none⟩) l.messages.length c2] 31)) [.int .i64 m.number, .int .i64 m.sender, .int .i64 m.at_, .string t, .int .i64 (m.edits + 1), .bool m.gone, .int .i64 m.reply, .slice Ae m.likes.length ce] (edM t m) Ge ((((Wrote.refl _ _ _ _ w2).set (k * 8 + 3) _ (by simp [show messageD.sz = 8 from rfl]) (by simp [show messageD.sz = 8 from rfl])).set (k * 8 + 4) _ (by simp [show messageD.sz = 8 from rfl]) (by simp [show messageD.sz = 8 from rfl])).alloc _) ((((Chg.refl (b9 :: Ge) w2).setCell (p := ⟨b9, k * 8 + 3, none⟩) (.inl List.mem_cons_self) _).setCell (p := ⟨b9, k * 8 + 4, none⟩) (.inl List.mem_cons_self) _).alloc _) (message_M_mk (x := edM t m) (hse.move fun y hy => (alloc_old _ _ (by have h := hse.lt y hy; simpa using h)).trans ((Below.heap_setCell _ _ _ y (fun e => hE.out (by have h : y = b9 := e; exact h ▸ hy))).trans (Below.heap_setCell _ _ _ y (fun e => hE.out (by have h : y = b9 := e; exact h ▸ hy)))))) (eight (P := fun i u => (((w2.setCell ⟨b9, k * 8 + 3, none⟩ (.string t)).setCell ⟨b9, k * 8 + 4, none⟩ (.int .i64 (m.edits + 1))).alloc (.cells #[.int .i64 l.next, .slice (some ⟨b9, 0, none⟩) l.messages.length c2] 31)).cell? ⟨b9, k * 8 + i, none⟩ = some u) (by go_simp) (by go_simp) (by go_simp) (by go_simp) (by go_simp) (by go_simp) (by go_simp) (by go_simp)) hE.nodup (fun y hy => .inl hy) : ∃ F', SliceM messageD 82 (((w2.setCell ⟨b9, k * 8 + 3, none⟩ (.string t)).setCell ⟨b9, k * 8 + 4, none⟩ (.int .i64 (m.edits + 1))).alloc (.cells #[.int .i64 l.next, .slice (some ⟨b9, 0, none⟩) l.messages.length c2] 31)) (.slice (some ⟨b9, 0, none⟩) l.messages.length c2) (l.messages.set k (edF s t m).1) F' ∧ F'.Nodup ∧ (∀ y ∈ F', y ∈ F2 ∨ w2.heap.size ≤ y) ∧ Chg F2 w2 (((w2.setCell ⟨b9, k * 8 + 3, none⟩ (.string t)).setCell ⟨b9, k * 8 + 4, none⟩ (.int .i64 (m.edits + 1))).alloc (.cells #[.int .i64 l.next, .slice (some ⟨b9, 0, none⟩) l.messages.length c2] 31)))
                 obtain ⟨F5, hS5, hF5, hfr5, hc5⟩ := hT
                 have hz5 := hc5.size
                 refine (giveNo_c (setMsg l k (edF s t m).1) _ _ (by have h := hS5.toK; exact h) HT2.out HV2.out).mono ?_
                 rintro e w5 ⟨rfl, hb⟩
                 have hge5 : ∀ x ∈ F5, w.heap.size + 1 ≤ x := fun x hx => (by rcases hfr5 x hx with h | h; exact hge9 x h; omega)
                 have HS5 := hide (And.intro (hS5.by hb) (And.intro hF5 hge5))
                 have HE := hide ((HE2.out.trans (hc5.below (B := w.heap.size) HE2.out.size (fun x hx => by have := hge9 x hx; omega))).trans (hb.mono (by have := HE2.out.size; omega)))
                 have hbl := (hb.block _ (by omega)).trans ((hc5.block _ (by omega) (fun h => by have := hge9 _ h; omega)).trans HBL2.out)
                 have p0 : w5.cell? ⟨w.heap.size, 0, none⟩ = some (.int .i64 0) := by rw [cell_block hbl]; rfl
                 have p1 : w5.cell? ⟨w.heap.size, 1, none⟩ = some (.slice none 0 0) := by rw [cell_block hbl]; rfl
                 have pf : ∀ o, w5.frozen? ⟨w.heap.size, o, none⟩ = false := fun o => frozen_block hbl
                 clear hb hbl hE hse hF2 hge9 hS5 hF5 hfr5 hc5 hge5 hz5))
            have HZ : Hid (∀ wz, Chg [w.heap.size] w5 wz → RetElem2 logD w (wmL l n (edF s t)) (wmOk l n (edF s t)) (.returned (.tuple #[.agg #[.int .i64 0, .slice none 0 0], .bool false])) wz) := by
              intro wz hch
              rw [wmL_no HOK.out, HOK.out]
              exact ⟨_, [], rfl, noLog_M wz, by simp, by simp, HE.out.trans (hch.below HE.out.size (by simp))⟩
            refine bodyPost_ret (v := .tuple #[.agg #[.int .i64 0, .slice none 0 0], .bool false]) (by simp [results, Tryz.results50, go_sem, p0, p1, pf]) rfl (HZ.out _ ?_)
            (repeat (with_reducible refine Chg.setCell ?_ (.inl (by simp)) _))
            exact Chg.refl _ _
      · have HOK := hide (show wmOk l n (edF s t) = false by rw [HOKE.out, edF_no1 hs]; simp)
        have hs2 : (m.sender != s) = true := by simp [hs]
        go_enter Tryz.func50, Tryz.ntmps50
        go_wp2_with (go_at_call 75
                     refine (l03Live_c l _ _ n _ (HP.out.below HA0.out)).mono ?_
                     rintro e w1 ⟨rfl, hb⟩
                     rw [hlive]
                     have HB1 := hide (HA0.out.trans (hb.mono HA0.out.size))
                     have hz1 := hb.size
                     simp only [World.size_alloc] at hz1
                     have b1 := cell_below HB1.out hb1
                     have hbl := (hb.block _ (by simp)).trans (alloc_new w _)
                     have HBL1 := hide hbl
                     have p0 : w1.cell? ⟨w.heap.size, 0, none⟩ = some (.int .i64 0) := by rw [cell_block hbl]; rfl
                     have p1 : w1.cell? ⟨w.heap.size, 1, none⟩ = some (.slice none 0 0) := by rw [cell_block hbl]; rfl
                     have pf : ∀ o, w1.frozen? ⟨w.heap.size, o, none⟩ = false := fun o => frozen_block hbl
                     have HE := HB1
                     obtain ⟨v7, h7, hq, hc0, hc1, hc2, hc3, hc4, hc5, hc6, hc7⟩ := message_at HRB.out HB1.out HX.out
                     clear hb hbl)
        have HZ : Hid (∀ wz, Chg [w.heap.size] w1 wz → RetElem2 logD w (wmL l n (edF s t)) (wmOk l n (edF s t)) (.returned (.tuple #[.agg #[.int .i64 0, .slice none 0 0], .bool false])) wz) := by
          intro wz hch
          rw [wmL_no HOK.out, HOK.out]
          exact ⟨_, [], rfl, noLog_M wz, by simp, by simp, HE.out.trans (hch.below HE.out.size (by simp))⟩
        refine bodyPost_ret (v := .tuple #[.agg #[.int .i64 0, .slice none 0 0], .bool false]) (by simp [results, Tryz.results50, go_sem, p0, p1, pf]) rfl (HZ.out _ ?_)
        (repeat (with_reducible refine Chg.setCell ?_ (.inl (by simp)) _))
        exact Chg.refl _ _
  · have hn2 : idxP (numIs n) l.messages < 0 := by omega
    have HOK := hide (wmOk_none (f := edF s t) hn2)
    have hlive := live_none hn2
    clear hn hra
    go_enter Tryz.func50, Tryz.ntmps50
    go_wp2_with (go_at_call 75
                 refine (l03Live_c l _ _ n _ (HP.out.below HA0.out)).mono ?_
                 rintro e w1 ⟨rfl, hb⟩
                 rw [hlive]
                 have HB1 := hide (HA0.out.trans (hb.mono HA0.out.size))
                 have hz1 := hb.size
                 simp only [World.size_alloc] at hz1
                 have b1 := cell_below HB1.out hb1
                 have hbl := (hb.block _ (by simp)).trans (alloc_new w _)
                 have HBL1 := hide hbl
                 have p0 : w1.cell? ⟨w.heap.size, 0, none⟩ = some (.int .i64 0) := by rw [cell_block hbl]; rfl
                 have p1 : w1.cell? ⟨w.heap.size, 1, none⟩ = some (.slice none 0 0) := by rw [cell_block hbl]; rfl
                 have pf : ∀ o, w1.frozen? ⟨w.heap.size, o, none⟩ = false := fun o => frozen_block hbl
                 have HE := HB1
                 skip
                 clear hb hbl)
    have HZ : Hid (∀ wz, Chg [w.heap.size] w1 wz → RetElem2 logD w (wmL l n (edF s t)) (wmOk l n (edF s t)) (.returned (.tuple #[.agg #[.int .i64 0, .slice none 0 0], .bool false])) wz) := by
      intro wz hch
      rw [wmL_no HOK.out, HOK.out]
      exact ⟨_, [], rfl, noLog_M wz, by simp, by simp, HE.out.trans (hch.below HE.out.size (by simp))⟩
    refine bodyPost_ret (v := .tuple #[.agg #[.int .i64 0, .slice none 0 0], .bool false]) (by simp [results, Tryz.results50, go_sem, p0, p1, pf]) rfl (HZ.out _ ?_)
    (repeat (with_reducible refine Chg.setCell ?_ (.inl (by simp)) _))
    exact Chg.refl _ _
end Go.Proofs.YtodmongmaoeknaaGreat
