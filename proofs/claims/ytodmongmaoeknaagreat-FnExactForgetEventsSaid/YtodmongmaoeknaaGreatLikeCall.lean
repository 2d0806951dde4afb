/- A like is given: the calls of the program and of the reference. -/
import Derived.Test.YtodmongmaoeknaaGreatLikeSpec
import Derived.Test.YtodmongmaoeknaaGreatInsert
namespace Go.Proofs.YtodmongmaoeknaaGreat
open Go Go.RowKit Go.BigFrame
attribute [local go_sem] Calm.cell Calm.frozen
set_option linter.unusedVariables false
set_option linter.unusedSimpArgs false

theorem putS_low {n : Int} : ∀ (a s : List Int), (∀ x ∈ a, x < n) → a.foldl (putStep n) (s, false) = (s ++ a, false)
  | [], s, _ => by simp
  | x :: t, s, h => by
    have h1 : ¬ n < x := by have := h x List.mem_cons_self; omega
    have h2 : ¬ n ≤ x := by have := h x List.mem_cons_self; omega
    rw [List.foldl_cons, show putStep n (s, false) x = (s ++ [x], false) by simp [putStep, h1, h2], putS_low t (s ++ [x]) fun y hy => h y (List.mem_cons_of_mem _ hy)]
    simp
theorem putS_high {n : Int} : ∀ (a s : List Int), a.foldl (putStep n) (s, true) = (s ++ a, true)
  | [], s => by simp
  | x :: t, s => by
    rw [List.foldl_cons, show putStep n (s, true) x = (s ++ [x], true) by simp [putStep], putS_high t (s ++ [x])]
    simp
theorem put_ins {l : List Int} {n : Int} (h : Rises l) (hb : hasB l n = false) : putN n (dropN n l) = insN l (lbN l n) n := by
  have hi := lbN_is (n := n) h
  have hnm : n ∉ l := by simpa [hasB] using hb
  have hd : dropN n l = l := by
    unfold dropN
    rw [List.filter_eq_self]
    intro x hx
    simp; rintro rfl; exact hnm hx
  rw [hd]
  have hlo : ∀ x ∈ l.take (lbN l n), x < n := fun x hx => by
    obtain ⟨t, ht⟩ := List.getElem?_of_mem hx
    rw [List.getElem?_take] at ht
    split at ht
    · exact hi.2.1 t x ‹_› ht
    · cases ht
  have hp : putS n l = (l.drop (lbN l n)).foldl (putStep n) (l.take (lbN l n), false) := by
    conv => lhs; rw [← List.take_append_drop (lbN l n) l]
    unfold putS
    rw [List.foldl_append, putS_low _ _ hlo]; simp
  unfold putN insN
  rw [hp]
  rcases hdr : l.drop (lbN l n) with _ | ⟨y, t⟩
  · simp
  · have hy : l[lbN l n]? = some y := by
      have := List.getElem?_drop (xs := l) (i := lbN l n) (j := 0)
      rw [hdr] at this; simpa using this.symm
    have h1 : n ≤ y := hi.2.2 _ y (Nat.le_refl _) hy
    have h2 : n < y := by
      rcases Int.lt_or_eq_of_le h1 with h | h
      · exact h
      · exact absurd (h ▸ List.mem_of_getElem? hy) hnm
    rw [List.foldl_cons, show putStep n (l.take (lbN l n), false) y = (l.take (lbN l n) ++ [n] ++ [y], true) by simp [putStep, h1, h2], putS_high]
    simp
noncomputable def liI (b : Int) (m : Message) : Message × Bool := ({ m with likes := insN m.likes (lbN m.likes b) b }, !hasB m.likes b)
theorem liI_is {b : Int} {m : Message} (h : Rises m.likes) : (liI b m).2 = (liF b m).2 ∧ ((liF b m).2 = true → liI b m = liF b m) := by
  unfold liI
  by_cases hh : hasB m.likes b = true
  · rw [liF_no hh, hh]; simp
  · have hh' : hasB m.likes b = false := by simpa using hh
    rw [liF_yes hh', hh', put_ins h hh']; simp
theorem wm_same {l : Log} {n : Int} {f g : Message → Message × Bool} (hv : validLogB l = true) (h : ∀ m ∈ l.messages, (f m).2 = (g m).2 ∧ ((g m).2 = true → f m = g m)) : wmOk l n f = wmOk l n g ∧ wmL l n f = wmL l n g := by
  have h1 : wmOk l n f = wmOk l n g := by
    by_cases hn : 0 ≤ idxP (numIs n) l.messages
    · obtain ⟨k, m, hk, hlk, hx, hmn⟩ := idx_found hn
      rw [wmOk_at hv hk hx, wmOk_at hv hk hx]
      obtain ⟨h2, h3⟩ := h m (List.mem_of_getElem? hx)
      rw [h2]
      by_cases hg : (g m).2 = true
      · rw [h3 hg]
      · have : (g m).2 = false := by simpa using hg
        rw [this]; simp
    · rw [wmOk_none (by omega), wmOk_none (by omega)]
  refine ⟨h1, ?_⟩
  by_cases ho : wmOk l n g = true
  · by_cases hn : 0 ≤ idxP (numIs n) l.messages
    · obtain ⟨k, m, hk, hlk, hx, hmn⟩ := idx_found hn
      rw [wmL_yes ho hk hx, wmL_yes (h1.trans ho) hk hx]
      have h4 := ho
      rw [wmOk_at hv hk hx] at h4
      simp only [Bool.and_eq_true] at h4
      rw [(h m (List.mem_of_getElem? hx)).2 h4.1.2]
    · rw [wmOk_none (by omega)] at ho; cases ho
  · have ho' : wmOk l n g = false := by simpa using ho
    rw [wmL_no ho', wmL_no (h1.trans ho')]
theorem like_same (l : Log) (n b : Int) : wmOk l n (liI b) = wmOk l n (liF b) ∧ wmL l n (liI b) = wmL l n (liF b) := by
  by_cases hv : validLogB l = true
  · exact wm_same hv fun m hm => liI_is (valid_rises (valid_msgs hv hm))
  · have hv' : validLogB l = false := by simpa using hv
    exact ⟨by rw [wmOk_bad hv', wmOk_bad hv'], by rw [wmL_no (wmOk_bad hv'), wmL_no (wmOk_bad hv')]⟩

set_option maxHeartbeats 4000000 in
set_option maxRecDepth 100000 in
theorem like1_c (s : Int) (b5 : Nat) (w : World) (h5 : w.cell? ⟨b5, 0, none⟩ = some (.int .i64 s)) : Turns 89 #[.pointer (some ⟨b5, 0, none⟩)] (liI s) w := by
  intro ms k m b cap F W hb hS hF hFge hx hv
  show Calls Tryz.prog 89 #[.pointer (some ⟨b, k * 8, none⟩), .pointer (some ⟨b5, 0, none⟩)] W _
  obtain ⟨cs, G, hE⟩ := hS.elem hF hx
  obtain ⟨v7, F7, rfl, rfl, h7⟩ := message_M hE.M
  obtain ⟨A7, c7, rfl⟩ := h7.toK.shape
  have h5' := cell_below hb h5
  have hl5' := World.block_lt_of_cell? w _ h5
  have hl5 := World.block_lt_of_cell? W _ h5'
  simp only [] at hl5 hl5'
  have hbb := hFge b hE.mem
  have hne : ¬ b5 = b := by omega
  have hne' : ¬ b = b5 := by omega
  have hlb := hE.lt
  have hfz := hE.frozen
  have g0 := hE.cell 0 _ rfl
  have g1 := hE.cell 1 _ rfl
  have g2 := hE.cell 2 _ rfl
  have g3 := hE.cell 3 _ rfl
  have g4 := hE.cell 4 _ rfl
  have g5 := hE.cell 5 _ rfl
  have g6 := hE.cell 6 _ rfl
  have g7 := hE.cell 7 _ rfl
  simp only [show messageD.sz = 8 from rfl, Nat.add_zero] at g0 g1 g2 g3 g4 g5 g6 g7
  have HRI := hide (valid_rises hv)
  have hlk := valid_likes hv
  have HE := hide (And.intro hE (And.intro h7 (And.intro hS (And.intro hF hx))))
  clear hS hF hFge hE h7 h5 hb hx hv
  have hlbl := (lbN_is (n := s) HRI.out).1
  go_enter Tryz.func89, Tryz.ntmps89
  go_wp2_with fail
  (refine wp_region_calm (by kernel_rfl) (by kernel_rfl) ?_; (repeat (first | go_big_quiet_skip | (go_big_quiet_want; go_big_quiet_op; (first | go_big_quiet_on | (apply Exists.intro; refine ⟨fun ic => ?_, ?_⟩; (focus ((go_at_call 90; refine (binN_c _ m.likes _ _ (HE.out.2.1.toK.below ic.below) HRI.out (by omega)).mono ?_; rintro e w2 ⟨rfl, rfl⟩; exact ⟨rfl, Calm.same _⟩); done)); go_big_quiet_on))))); refine wpQuiet_nil ?_; intro wq hwq; obtain ⟨iq, hwe⟩ := hwq; subst hwe)
  go_wp2_with fail
  have HQ := hide iq.below
  have hqz := iq.size
  generalize iq.world = Wq at *
  clear iq
  have g0 := cell_below HQ.out g0
  have g1 := cell_below HQ.out g1
  have g2 := cell_below HQ.out g2
  have g3 := cell_below HQ.out g3
  have g4 := cell_below HQ.out g4
  have g5 := cell_below HQ.out g5
  have g6 := cell_below HQ.out g6
  have g7 := cell_below HQ.out g7
  have k5 := cell_below HQ.out h5'
  have hlbq : b < Wq.heap.size := by omega
  have hl5q : b5 < Wq.heap.size := by omega
  have HPB := hide (below_step HQ.out (((Below.refl Wq.heap.size Wq).alloc (Nat.le_refl _) (.cells #[.int .i64 s] 2)).drew))
  have hnq : ¬ b = Wq.heap.size := by omega
  have hnq5 : ¬ b5 = Wq.heap.size := by omega
  go_region_with (
    go_at_call 91
    refine (insert_c _ m.likes G (lbN m.likes s) Wq.heap.size s _ (HE.out.2.1.by HPB.out) HE.out.1.nodup hlbl (by omega) (alloc_new Wq _) (fun h => by have := HE.out.2.1.lt _ h; omega)).mono ?_
    rintro e w2 ⟨v', F', rfl, hS2, hn2, hfr2, hc2⟩
    obtain ⟨A8, c8, rfl⟩ := hS2.toK.shape
    have hGo := HE.out.1.out
    have q0 := hc2.cell hGo (cell_below (((Below.refl Wq.heap.size Wq).alloc (Nat.le_refl _) (.cells #[.int .i64 s] 2)).drew) g0)
    have q1 := hc2.cell hGo (cell_below (((Below.refl Wq.heap.size Wq).alloc (Nat.le_refl _) (.cells #[.int .i64 s] 2)).drew) g1)
    have q2 := hc2.cell hGo (cell_below (((Below.refl Wq.heap.size Wq).alloc (Nat.le_refl _) (.cells #[.int .i64 s] 2)).drew) g2)
    have q3 := hc2.cell hGo (cell_below (((Below.refl Wq.heap.size Wq).alloc (Nat.le_refl _) (.cells #[.int .i64 s] 2)).drew) g3)
    have q4 := hc2.cell hGo (cell_below (((Below.refl Wq.heap.size Wq).alloc (Nat.le_refl _) (.cells #[.int .i64 s] 2)).drew) g4)
    have q5 := hc2.cell hGo (cell_below (((Below.refl Wq.heap.size Wq).alloc (Nat.le_refl _) (.cells #[.int .i64 s] 2)).drew) g5)
    have q6 := hc2.cell hGo (cell_below (((Below.refl Wq.heap.size Wq).alloc (Nat.le_refl _) (.cells #[.int .i64 s] 2)).drew) g6)
    have q7 := hc2.cell hGo (cell_below (((Below.refl Wq.heap.size Wq).alloc (Nat.le_refl _) (.cells #[.int .i64 s] 2)).drew) g7)
    have hw : Wrote b (k * 8) (k * 8 + 8) 82 W w2 := ((Wrote.refl _ _ _ _ W).below HPB.out).chg hc2 hGo
    have qf : ∀ o, w2.frozen? ⟨b, o, none⟩ = false := fun o => (World.frozen?_of_block (a := ⟨b, o, none⟩) ((hc2.block b (Nat.lt_of_lt_of_le hlb HPB.out.size) hGo).trans (HPB.out.block b hlb))).trans (hfz o)
    have HS2 := hide (And.intro hS2 (And.intro hc2 (And.intro hw (And.intro hn2 hfr2))))
    clear hS2 hc2 hw hn2 hfr2)
  all_goals
    go_wp2_with fail
    go_ret
    refine ⟨rfl, ?_⟩
    obtain ⟨hE, h7, hS, hF, hx⟩ := HE.out
    obtain ⟨hS2, hc2, hw, hn2, hfr2⟩ := HS2.out
    refine hE.turn (w2.setCell ⟨b, k * 8 + 7, none⟩ (.slice A8 (insN m.likes (lbN m.likes s) s).length c8)) [.int .i64 m.number, .int .i64 m.sender, .int .i64 m.at_, .string m.text, .int .i64 m.edits, .bool m.gone, .int .i64 m.reply, .slice A8 (insN m.likes (lbN m.likes s) s).length c8] (liI s m).1 F'
      (hw.set (k * 8 + 7) _ (by omega) (by omega))
      (Chg.setCell (p := ⟨b, k * 8 + 7, none⟩) (((Chg.refl (b :: G) W).trans (.of_below HPB.out _)).trans (hc2.mono fun y hy => .inl (List.mem_cons_of_mem _ hy))) (.inl List.mem_cons_self) _)
      (message_M_mk (x := (liI s m).1) (hS2.move fun y hy => Below.heap_setCell _ _ _ y (fun e => by
        have h : y = b := e
        subst h
        rcases hfr2 y hy with h | h
        · exact hE.out h
        · have := HPB.out.size; omega)))
      (eight (P := fun i u => (w2.setCell ⟨b, k * 8 + 7, none⟩ (.slice A8 (insN m.likes (lbN m.likes s) s).length c8)).cell? ⟨b, k * 8 + i, none⟩ = some u) (by go_simp) (by go_simp) (by go_simp) (by go_simp) (by go_simp) (by go_simp) (by go_simp) (by go_simp))
      hn2 (fun y hy => by
        rcases hfr2 y hy with h | h
        · exact .inl h
        · exact .inr (by have := HPB.out.size; omega))
open Go Go.RowKit Go.BigFrame
attribute [local go_sem] Calm.cell Calm.frozen
set_option linter.unusedVariables false
set_option linter.unusedSimpArgs false

set_option maxHeartbeats 4000000 in
set_option maxRecDepth 100000 in
theorem likeMessage_c (l : Log) (v1 : Value) (n : Int) (s : Int) (w : World) (h1 : SliceK messageD w v1 l.messages) (ht : okTexts l.messages) :
    Calls Tryz.prog 62 #[.agg #[.int .i64 l.next, v1], .int .i64 n, .int .i64 s] w (RetElem2 logD w (likeL l n s) (likeOk l n s)) := by
  show Calls Tryz.prog 62 #[.agg #[.int .i64 l.next, v1], .int .i64 n, .int .i64 s] w (RetElem2 logD w (wmL l n (liF s)) (wmOk l n (liF s)))
  have hLS := like_same l n s
  rw [← hLS.1, ← hLS.2]
  clear hLS
  obtain ⟨A, c, rfl⟩ := h1.shape
  have H1 := hide h1
  have HT := hide ht
  clear h1 ht
  have HW := hide ((((Below.refl w.heap.size w).alloc (Nat.le_refl _) (.cells #[.int .i64 l.next, .slice A l.messages.length c] 31)).alloc (by simp <;> omega) (.cells #[.int .i64 s] 2)).alloc (by simp <;> omega) (.cells #[.int .i64 0, .slice none 0 0] 31))
  have HC0 := hide (show (((w.alloc (.cells #[.int .i64 l.next, .slice A l.messages.length c] 31)).alloc (.cells #[.int .i64 s] 2)).alloc (.cells #[.int .i64 0, .slice none 0 0] 31)).cell? ⟨w.heap.size + 1, 0, none⟩ = some (.int .i64 s) by go_simp)
  have HZB := hide (show (((w.alloc (.cells #[.int .i64 l.next, .slice A l.messages.length c] 31)).alloc (.cells #[.int .i64 s] 2)).alloc (.cells #[.int .i64 0, .slice none 0 0] 31)).heap[w.heap.size + 1 + 1]? = some (.cells #[.int .i64 0, .slice none 0 0] 31 (0, 0)) by
    have := alloc_new ((w.alloc (.cells #[.int .i64 l.next, .slice A l.messages.length c] 31)).alloc (.cells #[.int .i64 s] 2)) (.cells #[.int .i64 0, .slice none 0 0] 31)
    simpa using this)
  have eg := enters_of Tryz.func89 (by kernel_rfl) rfl
  go_enter Tryz.func62, Tryz.ntmps62
  go_wp2_with (
    go_at_call 86
    refine (withMessage_c _ _ (liI s) l _ n _ (H1.out.below HW.out) HT.out (fun m hm => HT.out m hm) eg (like1_c s _ _ HC0.out)).mono ?_
    rintro e w1 ⟨cs, F, rfl, hM, hF, hge, hb⟩
    obtain ⟨v9, F9, rfl, hFF, hS⟩ := log_M hM
    obtain ⟨A9, c9, rfl⟩ := hS.toK.shape
    have hz1 := hb.size
    simp only [World.size_alloc] at hz1
    have hbl := (hb.block _ (by simp <;> omega)).trans HZB.out
    have p0 : w1.cell? ⟨w.heap.size + 1 + 1, 0, none⟩ = some (.int .i64 0) := by rw [cell_block hbl]; rfl
    have p1 : w1.cell? ⟨w.heap.size + 1 + 1, 1, none⟩ = some (.slice none 0 0) := by rw [cell_block hbl]; rfl
    have pf : ∀ o, w1.frozen? ⟨w.heap.size + 1 + 1, o, none⟩ = false := fun o => frozen_block hbl
    have HE := hide (below_step HW.out hb)
    have HMD := hide (And.intro hM (And.intro hF (show ∀ b ∈ F, w.heap.size + 1 + 1 < b from fun b hb => (by have := hge b hb; simp at this; omega))))
    clear hM hF hge hb hFF hS hbl)
  have HZ : Hid (∀ wz, Chg [w.heap.size + 1 + 1] w1 wz → RetElem2 logD w (wmL l n (liI s)) (wmOk l n (liI s)) (.returned (.tuple #[.agg #[.int .i64 (wmL l n (liI s)).next, .slice A9 (wmL l n (liI s)).messages.length c9], .bool (wmOk l n (liI s))])) wz) := by
    intro wz hch
    obtain ⟨hM, hF, hge⟩ := HMD.out
    exact ⟨_, F, rfl, Dt.M_move _ (fun b hb => hch.block b (logD.M_lt hM b hb) (by have := hge b hb; simp; omega)) hM, hF, fun b hb => by have := hge b hb; omega, HE.out.trans (hch.below HE.out.size (by simp <;> omega))⟩
  refine bodyPost_ret (v := .tuple #[.agg #[.int .i64 (wmL l n (liI s)).next, .slice A9 (wmL l n (liI s)).messages.length c9], .bool (wmOk l n (liI s))]) (by simp [results, Tryz.results62, go_sem, p0, p1, pf]) rfl (HZ.out _ ?_)
  (repeat (with_reducible refine Chg.setCell ?_ (.inl (by simp)) _))
  exact Chg.refl _ _
end Go.Proofs.YtodmongmaoeknaaGreat
