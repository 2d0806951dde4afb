/- IndexMessage: the program and the reference. -/
import Derived.Test.YticjphaagmnahaaIxOf
namespace Go.Proofs.Yticjphaagmnahaa
open Go Go.RowKit Go.BigFrame
set_option linter.unusedVariables false
set_option linter.unusedSimpArgs false
set_option maxRecDepth 100000

theorem wordsG_size : ∀ (g : Nat) (l : List UInt8), ∀ x ∈ wordsG g l, x.size ≤ l.length
  | 0, l, x, hx => by simp [wordsG] at hx
  | g + 1, [], x, hx => by simp [wordsG] at hx
  | g + 1, c :: t, x, hx => by
    unfold wordsG at hx
    split at hx
    · rcases List.mem_cons.1 hx with rfl | hx
      · show (((c :: t).takeWhile isW).map lowerC).toArray.size ≤ _
        rw [List.size_toArray, List.length_map]
        exact (List.takeWhile_sublist isW).length_le
      · have h1 := wordsG_size g _ x hx
        rw [List.length_drop] at h1
        have := (List.dropWhile_sublist (l := c :: t) isW).length_le
        omega
    · have := wordsG_size g t x hx
      simp only [List.length_cons]; omega
theorem wordsOf_size {s x : ByteArray} (h : x ∈ wordsOf s) : x.size ≤ s.size := wordsG_size _ _ x h
theorem ipS_word {t : ByteArray} {n : Int} : ∀ (l : List Entry) (s : List Entry × Bool), ∀ e ∈ (l.foldl (ipStep t n) s).1, e.word = t ∨ (∃ y ∈ l, y.word = e.word) ∨ ∃ y ∈ s.1, y.word = e.word
  | [], s, e, he => .inr (.inr ⟨e, he, rfl⟩)
  | x :: l, s, e, he => by
    rw [List.foldl_cons] at he
    rcases ipS_word l _ e he with h | ⟨y, hy, h⟩ | ⟨y, hy, h⟩
    · exact .inl h
    · exact .inr (.inl ⟨y, List.mem_cons_of_mem _ hy, h⟩)
    · unfold ipStep at hy
      simp only [] at hy
      have hs : y ∈ s.1 → e.word = t ∨ (∃ y ∈ x :: l, y.word = e.word) ∨ ∃ y ∈ s.1, y.word = e.word := fun h5 => .inr (.inr ⟨y, h5, h⟩)
      have hx : y.word = x.word → e.word = t ∨ (∃ y ∈ x :: l, y.word = e.word) ∨ ∃ y ∈ s.1, y.word = e.word := fun h5 => .inr (.inl ⟨x, List.mem_cons_self, by rw [← h5]; exact h⟩)
      rcases List.mem_append.1 hy with hy | hy
      · split at hy
        · rcases List.mem_append.1 hy with hy | hy
          · exact hs hy
          · rw [List.mem_singleton] at hy
            subst hy
            exact .inl h.symm
        · exact hs hy
      · rw [List.mem_singleton] at hy
        split at hy <;> exact hx (by rw [hy])
theorem putW_word {t : ByteArray} {n : Int} {es : List Entry} : ∀ e ∈ putW t n es, e.word = t ∨ ∃ y ∈ es, y.word = e.word := by
  intro e he
  unfold putW at he
  have h2 : e ∈ (ipS t n es).1 → e.word = t ∨ ∃ y ∈ es, y.word = e.word := fun h => by
    rcases ipS_word es _ e h with h | h | ⟨y, hy, h⟩
    · exact .inl h
    · exact .inr h
    · simp at hy
  split at he
  · exact h2 he
  · rcases List.mem_append.1 he with he | he
    · exact h2 he
    · rw [List.mem_singleton] at he; subst he; exact .inl rfl
theorem putWs_word {n : Int} : ∀ (ws : List ByteArray) (es : List Entry), ∀ e ∈ putWs n ws es, e.word ∈ ws ∨ ∃ y ∈ es, y.word = e.word
  | [], es, e, he => .inr ⟨e, he, rfl⟩
  | t :: ws, es, e, he => by
    rcases putWs_word ws (putW t n es) e he with h | ⟨y, hy, h⟩
    · exact .inl (List.mem_cons_of_mem _ h)
    · rcases putW_word y hy with h2 | ⟨z, hz, h2⟩
      · exact .inl (by rw [← h, h2]; exact List.mem_cons_self)
      · exact .inr ⟨z, hz, by rw [h2, h]⟩
theorem addM_okIx {es : List Entry} {m : Message} (h : okIndex ⟨es⟩) (ht : m.text.size ≤ 80) : okIndex ⟨addM es m⟩ := by
  intro e he
  show e.word.size ≤ _
  rcases putWs_word _ _ e he with h2 | ⟨y, hy, h2⟩
  · have := wordsOf_size h2; omega
  · rw [← h2]; exact h y hy
theorem validIx_at {ix : Index} (h : validIxB ix = true) : ∀ e ∈ ix.entries, entOkB e = true := by
  intro e he
  obtain ⟨q, hq⟩ := adjB_all h he
  simp only [entF, Bool.and_eq_true] at hq
  exact hq.1
theorem validIx_num {ix : Index} (h : validIxB ix = true) : ∀ e ∈ ix.entries, 1 ≤ e.numbers.length ∧ e.numbers.length ≤ 40 := by
  intro e he
  have := validIx_at h e he
  simp only [entOkB, Bool.and_eq_true, decide_eq_true_eq] at this
  omega
theorem sizeAll_ge : ∀ (l : List Entry), (∀ e ∈ l, 1 ≤ e.numbers.length) → l.length ≤ sizeAll sizeEntry l
  | [], _ => Nat.le_refl _
  | x :: l, h => by
    have h1 := sizeAll_ge l fun e he => h e (List.mem_cons_of_mem _ he)
    have h2 := h x List.mem_cons_self
    simp only [sizeAll, List.length_cons, sizeEntry]; omega
/-- A valid index has not too many entries. -/
def fitIx (ix : Index) : Prop := validIxB ix = true → ix.entries.length ≤ 1000000
theorem fitIx_of {ix : Index} (h : sizeIndex ix ≤ 1048576) : fitIx ix := by
  intro hv
  have h1 := sizeAll_ge ix.entries fun e he => (validIx_num hv e he).1
  unfold sizeIndex at h; omega
theorem cntAll_le2 {f : Entry → Nat} {c : Nat} : ∀ (l : List Entry), (∀ e ∈ l, f e ≤ c) → cntAll f l ≤ c * l.length
  | [], _ => Nat.le_refl _
  | x :: l, h => by
    have h1 := cntAll_le2 l fun e he => h e (List.mem_cons_of_mem _ he)
    have h2 := h x List.mem_cons_self
    simp only [cntAll, List.length_cons, Nat.mul_add]; omega
def imOk (ix : Index) (m : Message) : Bool := validIxB ix && validMessageB m && validIxB ⟨addM ix.entries m⟩
def imV (ix : Index) (m : Message) : Index := if imOk ix m then ⟨addM ix.entries m⟩ else noIx
theorem riseB_of {p : Int → Bool} {l : List Int} (h : risesB p l = true) : Rises l := by
  have hn : ∀ (j : Nat) (x y : Int), l[j]? = some x → l[j + 1]? = some y → x < y := fun j x y hx hy => by
    have := (adjB_iff (riseF p) l none).1 h (j + 1) y hy
    rw [if_neg (by omega), Nat.add_sub_cancel, hx] at this
    simp only [riseF, Bool.and_eq_true, decide_eq_true_eq] at this
    exact this.2
  have hd : ∀ (d s : Nat) (x y : Int), l[s]? = some x → l[s + d + 1]? = some y → x < y := by
    intro d
    induction d with
    | zero => intro s x y hx hy; exact hn s x y hx hy
    | succ d ih =>
      intro s x y hx hy
      have hl := (List.getElem?_eq_some_iff.1 hy).1
      obtain ⟨z, hz⟩ : ∃ z, l[s + d + 1]? = some z := ⟨_, List.getElem?_eq_getElem (by omega)⟩
      exact Int.lt_trans (ih s x z hx hz) (hn (s + d + 1) z y hz hy)
  intro s t x y hst hx hy
  obtain ⟨d, rfl⟩ : ∃ d, t = s + d + 1 := ⟨t - s - 1, by omega⟩
  exact hd d s x y hx hy
theorem validIx_fit {ix : Index} (h : validIxB ix = true) : ixFit ix.entries.length 40 ix.entries := by
  refine ⟨Nat.le_refl _, rises_ix h, fun e he => ⟨?_, (validIx_num h e he).2⟩⟩
  have := validIx_at h e he
  simp only [entOkB, Bool.and_eq_true] at this
  exact riseB_of this.2
theorem im_cnt (ix : Index) (m : Message) (h : fitIx ix) : tcntIndex (imV ix m) ≤ 41000000000 := by
  unfold imV
  split
  · rename_i hok
    unfold imOk at hok
    simp only [Bool.and_eq_true] at hok
    have h1 := h hok.1.1
    have h2 := (addM_fit (m := m) (validIx_fit hok.1.1) (valid_small hok.1.2).1).1
    have h3 := cntAll_le2 (f := cntEntry) (c := 41) (addM ix.entries m) fun e he => by
      have h4 := (validIx_num hok.2 e he).2
      have h5 : cntEntry e = 1 + e.numbers.length := rfl
      omega
    show cntAll cntEntry (addM ix.entries m) ≤ _
    have : 41 * (addM ix.entries m).length ≤ 41 * (ix.entries.length + 80) := Nat.mul_le_mul_left _ h2
    omega
  · show cntAll cntEntry [] ≤ _
    exact Nat.zero_le _
theorem io_cnt (l : Log) : tcntIndex (ioV l) ≤ 41000000000 := by
  unfold ioV
  split
  · rename_i hok
    have hv : validLogB l = true := hok
    have h40 := validLog_40 hv
    have hf := ixEs_fit (ms := l.messages) (fun m hm => (valid_small (msgs_ok hv m hm)).1) l.messages.length (Nat.le_refl _)
    rw [List.take_length] at hf
    have h3 := cntAll_le2 (f := cntEntry) (c := 1 + 80 * l.messages.length) (ixEs l.messages) fun e he => by
      have h4 := (hf.2.2 e he).2
      have h5 : cntEntry e = 1 + e.numbers.length := rfl
      omega
    show cntAll cntEntry (ixEs l.messages) ≤ _
    have h6 : (1 + 80 * l.messages.length) * (ixEs l.messages).length ≤ 3201 * 3200 := Nat.mul_le_mul (by omega) (by have := hf.1; omega)
    omega
  · show cntAll cntEntry [] ≤ _
    exact Nat.zero_le _
theorem fewMessage_of {l : Message} (h : sizeMessage l ≤ 1048576) : fewMessage l := by
  unfold fewMessage; unfold sizeMessage at h; omega
theorem tcntMessage_le (l : Message) : tcntMessage l ≤ 8 * sizeMessage l := by
  unfold tcntMessage sizeMessage; omega
set_option maxHeartbeats 16000000 in
set_option maxRecDepth 100000 in
theorem specIndexMessage_c (ix : Index) (m : Message) (v1 v7 : Value) (w : World) (h1 : SliceK entryD w v1 ix.entries) (h7 : SliceK intD w v7 m.likes) (ht : okIndex ix) (ht2 : m.text.size ≤ 9223372036854775807) (hfi : fitIx ix) :
    Calls Try.prog 43 #[.agg #[v1], .agg #[.int .i64 m.number, .int .i64 m.sender, .int .i64 m.at_, .string m.text, .int .i64 m.edits, .bool m.gone, .int .i64 m.reply, v7]] w (RetElem2 indexD w (imV ix m) (imOk ix m)) := by
  obtain ⟨A1, c1, rfl⟩ := h1.shape
  obtain ⟨A7, c7, rfl⟩ := h7.shape
  have H1 := hide h1
  have H7 := hide h7
  have HT := hide ht
  have HT2 := hide ht2
  have HFI := hide hfi
  clear h1 h7 ht ht2 hfi
  have HS0 := hide (show St w (((w.alloc (.cells #[.slice A1 ix.entries.length c1] 33)).alloc (.cells #[.int .i64 m.number, .int .i64 m.sender, .int .i64 m.at_, .string m.text, .int .i64 m.edits, .bool m.gone, .int .i64 m.reply, .slice A7 m.likes.length c7] 47)).alloc (.cells #[.slice none 0 0] 33)) [blk (w.heap.size + 1 + 1) #[.slice none 0 0] 33, blk (w.heap.size + 1) #[.int .i64 m.number, .int .i64 m.sender, .int .i64 m.at_, .string m.text, .int .i64 m.edits, .bool m.gone, .int .i64 m.reply, .slice A7 m.likes.length c7] 47, blk w.heap.size #[.slice A1 ix.entries.length c1] 33] by (repeat (first | (with_reducible exact St.start w) | (with_reducible apply St.alloc) | (with_reducible apply St.set0) | (with_reducible apply St.set1) | (with_reducible apply St.set2) | (with_reducible apply St.set3) | (with_reducible apply St.drew) | (with_reducible apply St.drewN))); all_goals (try (first | rfl | (simp; done))))
  (try clear x0 xf xz z0 zf zz m0 m1 m2 m3 m4 m5 m6 m7 mz)
  have x0 := HS0.out.at0.c1
  have xf := HS0.out.at0.frozen
  have xz := HS0.out.at0.lt
  have z0 := HS0.out.at2.c1
  have zf := HS0.out.at2.frozen
  have zz := HS0.out.at2.lt
  have mb := HS0.out.at1
  have m0 := mb.cell 0
  have m1 := mb.cell 1
  have m2 := mb.cell 2
  have m3 := mb.cell 3
  have m4 := mb.cell 4
  have m5 := mb.cell 5
  have m6 := mb.cell 6
  have m7 := mb.cell 7
  simp only [List.getElem?_toArray, List.getElem?_cons_succ, List.getElem?_cons_zero] at m0 m1 m2 m3 m4 m5 m6 m7
  have mz := mb.lt
  clear mb
  by_cases hv : validIxB ix = true
  · have HV := hide hv
    by_cases hv2 : validMessageB m = true
    · have HV2 := hide hv2
      have hts := (valid_small hv2).1
      have HOKI := hide (addM_okIx (es := ix.entries) (m := m) HT.out hts)
      have hel := HFI.out hv
      have HFT := hide (validIx_fit hv)
      by_cases hv3 : validIxB ⟨addM ix.entries m⟩ = true
      · have HV3 := hide hv3
        have HOK := hide (show imOk ix m = true by unfold imOk; rw [hv, hv2, hv3]; rfl)
        have HP := hide (show imV ix m = ⟨addM ix.entries m⟩ by unfold imV; rw [HOK.out]; rfl)
        clear hv hv2 hv3
        go_enter Try.func43, Try.ntmps43
        go_wp2_with fail
        refine (l08Is_c ix _ _ _ (Blk.rowAt (d := indexD) (x := ix) HS0.out.at2 (index_K_mk (H1.out.below HS0.out.below)) rfl) HT.out).mono ?_
        rintro e w1 ⟨rfl, hb⟩
        rw [HV.out]
        have HS1 := hide (HS0.out.by hb)
        clear hb
        (try clear x0 xf xz z0 zf zz m0 m1 m2 m3 m4 m5 m6 m7 mz)
        have x0 := HS1.out.at0.c1
        have xf := HS1.out.at0.frozen
        have xz := HS1.out.at0.lt
        have z0 := HS1.out.at2.c1
        have zf := HS1.out.at2.frozen
        have zz := HS1.out.at2.lt
        have mb := HS1.out.at1
        have m0 := mb.cell 0
        have m1 := mb.cell 1
        have m2 := mb.cell 2
        have m3 := mb.cell 3
        have m4 := mb.cell 4
        have m5 := mb.cell 5
        have m6 := mb.cell 6
        have m7 := mb.cell 7
        simp only [List.getElem?_toArray, List.getElem?_cons_succ, List.getElem?_cons_zero] at m0 m1 m2 m3 m4 m5 m6 m7
        have mz := mb.lt
        clear mb
        go_wp2_with fail
        refine (specValidMessage_c m _ _ (H7.out.below HS1.out.below) HT2.out).mono ?_
        rintro e w2 ⟨rfl, hb⟩
        rw [HV2.out]
        have HS2 := hide (HS1.out.by hb)
        clear hb
        (try clear x0 xf xz z0 zf zz m0 m1 m2 m3 m4 m5 m6 m7 mz)
        have x0 := HS2.out.at0.c1
        have xf := HS2.out.at0.frozen
        have xz := HS2.out.at0.lt
        have z0 := HS2.out.at2.c1
        have zf := HS2.out.at2.frozen
        have zz := HS2.out.at2.lt
        have mb := HS2.out.at1
        have m0 := mb.cell 0
        have m1 := mb.cell 1
        have m2 := mb.cell 2
        have m3 := mb.cell 3
        have m4 := mb.cell 4
        have m5 := mb.cell 5
        have m6 := mb.cell 6
        have m7 := mb.cell 7
        simp only [List.getElem?_toArray, List.getElem?_cons_succ, List.getElem?_cons_zero] at m0 m1 m2 m3 m4 m5 m6 m7
        have mz := mb.lt
        clear mb
        go_wp2_with fail
        refine (l08Add_c ix m _ _ 0 ix.entries.length 40 _ (Blk.rowAt (d := indexD) (x := ix) HS2.out.at2 (index_K_mk (H1.out.below HS2.out.below)) rfl) (msgRow HS2.out.at1 (H7.out.below HS2.out.below)) HFT.out hts (by omega) (by omega)).mono ?_
        rintro e w3 hr
        obtain ⟨cs3, F3, rfl, hK3, hb3, hS3⟩ := HS2.out.elem hr
        obtain ⟨v3, rfl, hs3⟩ := index_K hK3
        obtain ⟨A3, c3, rfl⟩ := hs3.shape
        have HS3 := hide (show St w _ (ownD indexD ⟨addM ix.entries m⟩ [.slice A3 (addM ix.entries m).length c3] F3 :: [blk (w.heap.size + 1 + 1) #[.slice none 0 0] 33, blk (w.heap.size + 1) #[.int .i64 m.number, .int .i64 m.sender, .int .i64 m.at_, .string m.text, .int .i64 m.edits, .bool m.gone, .int .i64 m.reply, .slice A7 m.likes.length c7] 47, blk w.heap.size #[.slice A1 ix.entries.length c1] 33]) from hS3)
        have HSL := hide hs3
        clear hr hK3 hb3 hS3 hs3
        (try clear x0 xf xz z0 zf zz m0 m1 m2 m3 m4 m5 m6 m7 mz)
        have x0 := HS3.out.drop.at0.c1
        have xf := HS3.out.drop.at0.frozen
        have xz := HS3.out.drop.at0.lt
        have z0 := HS3.out.drop.at2.c1
        have zf := HS3.out.drop.at2.frozen
        have zz := HS3.out.drop.at2.lt
        have mb := HS3.out.drop.at1
        have m0 := mb.cell 0
        have m1 := mb.cell 1
        have m2 := mb.cell 2
        have m3 := mb.cell 3
        have m4 := mb.cell 4
        have m5 := mb.cell 5
        have m6 := mb.cell 6
        have m7 := mb.cell 7
        simp only [List.getElem?_toArray, List.getElem?_cons_succ, List.getElem?_cons_zero] at m0 m1 m2 m3 m4 m5 m6 m7
        have mz := mb.lt
        clear mb
        go_wp2_with fail
        obtain ⟨W4, hW4⟩ : ∃ V, V = (w3.alloc (.cells #[.slice A3 (addM ix.entries m).length c3] 33)) := ⟨_, rfl⟩
        rw [← hW4]
        have HS4 := hide (show St w W4 (blk w3.heap.size #[.slice A3 (addM ix.entries m).length c3] 33 :: ownD indexD ⟨addM ix.entries m⟩ [.slice A3 (addM ix.entries m).length c3] F3 :: [blk (w.heap.size + 1 + 1) #[.slice none 0 0] 33, blk (w.heap.size + 1) #[.int .i64 m.number, .int .i64 m.sender, .int .i64 m.at_, .string m.text, .int .i64 m.edits, .bool m.gone, .int .i64 m.reply, .slice A7 m.likes.length c7] 47, blk w.heap.size #[.slice A1 ix.entries.length c1] 33]) by rw [hW4]; (repeat (first | (with_reducible exact HS3.out) | (with_reducible apply St.alloc) | (with_reducible apply St.set0) | (with_reducible apply St.set1) | (with_reducible apply St.set2) | (with_reducible apply St.set3) | (with_reducible apply St.drew) | (with_reducible apply St.drewN))); all_goals (try (first | rfl | (simp; done))))
        clear hW4
        refine (l08Is_c ⟨addM ix.entries m⟩ _ _ _ (Blk.rowAt (d := indexD) (x := ⟨addM ix.entries m⟩) HS4.out.at0 (indexD.M_K HS4.out.drop.head) rfl) HOKI.out).mono ?_
        rintro e w5 ⟨rfl, hb⟩
        rw [HV3.out]
        have HS5 := hide (HS4.out.by hb)
        clear hb
        (try clear x0 xf xz z0 zf zz m0 m1 m2 m3 m4 m5 m6 m7 mz)
        have x0 := HS5.out.drop.drop.at0.c1
        have xf := HS5.out.drop.drop.at0.frozen
        have xz := HS5.out.drop.drop.at0.lt
        have z0 := HS5.out.drop.drop.at2.c1
        have zf := HS5.out.drop.drop.at2.frozen
        have zz := HS5.out.drop.drop.at2.lt
        have mb := HS5.out.drop.drop.at1
        have m0 := mb.cell 0
        have m1 := mb.cell 1
        have m2 := mb.cell 2
        have m3 := mb.cell 3
        have m4 := mb.cell 4
        have m5 := mb.cell 5
        have m6 := mb.cell 6
        have m7 := mb.cell 7
        simp only [List.getElem?_toArray, List.getElem?_cons_succ, List.getElem?_cons_zero] at m0 m1 m2 m3 m4 m5 m6 m7
        have mz := mb.lt
        clear mb
        have y0 := HS5.out.at0.c1
        have yf := HS5.out.at0.frozen
        have yz := HS5.out.at0.lt
        go_wp2_with fail
        refine bodyPost_ret (v := .tuple #[.agg #[.slice A3 (addM ix.entries m).length c3], .bool true]) (by simp [results, Try.results43, go_sem, x0, xf, xz, y0, yf, yz]) rfl ?_
        rw [HP.out, HOK.out]
        exact St.ret2 (cs := [.slice A3 (addM ix.entries m).length c3]) (F := F3) (show St w _ (ownD indexD ⟨addM ix.entries m⟩ [.slice A3 (addM ix.entries m).length c3] F3 :: blk w3.heap.size #[.slice A3 (addM ix.entries m).length c3] 33 :: [blk (w.heap.size + 1 + 1) #[.slice A3 (addM ix.entries m).length c3] 33, blk (w.heap.size + 1) #[.int .i64 m.number, .int .i64 m.sender, .int .i64 m.at_, .string m.text, .int .i64 m.edits, .bool m.gone, .int .i64 m.reply, .slice A7 m.likes.length c7] 47, blk w.heap.size #[.slice A1 ix.entries.length c1] 33]) from by (repeat (first | (with_reducible exact HS5.out.pull1) | (with_reducible apply St.alloc) | (with_reducible apply St.set0) | (with_reducible apply St.set1) | (with_reducible apply St.set2) | (with_reducible apply St.set3) | (with_reducible apply St.drew) | (with_reducible apply St.drewN))); all_goals (try (first | rfl | (simp; done)))) rfl
      · have HV3 := hide (show validIxB ⟨addM ix.entries m⟩ = false by simpa using hv3)
        have HOK := hide (show imOk ix m = false by unfold imOk; rw [HV3.out, Bool.and_false])
        clear hv hv2 hv3
        go_enter Try.func43, Try.ntmps43
        go_wp2_with fail
        refine (l08Is_c ix _ _ _ (Blk.rowAt (d := indexD) (x := ix) HS0.out.at2 (index_K_mk (H1.out.below HS0.out.below)) rfl) HT.out).mono ?_
        rintro e w1 ⟨rfl, hb⟩
        rw [HV.out]
        have HS1 := hide (HS0.out.by hb)
        clear hb
        (try clear x0 xf xz z0 zf zz m0 m1 m2 m3 m4 m5 m6 m7 mz)
        have x0 := HS1.out.at0.c1
        have xf := HS1.out.at0.frozen
        have xz := HS1.out.at0.lt
        have z0 := HS1.out.at2.c1
        have zf := HS1.out.at2.frozen
        have zz := HS1.out.at2.lt
        have mb := HS1.out.at1
        have m0 := mb.cell 0
        have m1 := mb.cell 1
        have m2 := mb.cell 2
        have m3 := mb.cell 3
        have m4 := mb.cell 4
        have m5 := mb.cell 5
        have m6 := mb.cell 6
        have m7 := mb.cell 7
        simp only [List.getElem?_toArray, List.getElem?_cons_succ, List.getElem?_cons_zero] at m0 m1 m2 m3 m4 m5 m6 m7
        have mz := mb.lt
        clear mb
        go_wp2_with fail
        refine (specValidMessage_c m _ _ (H7.out.below HS1.out.below) HT2.out).mono ?_
        rintro e w2 ⟨rfl, hb⟩
        rw [HV2.out]
        have HS2 := hide (HS1.out.by hb)
        clear hb
        (try clear x0 xf xz z0 zf zz m0 m1 m2 m3 m4 m5 m6 m7 mz)
        have x0 := HS2.out.at0.c1
        have xf := HS2.out.at0.frozen
        have xz := HS2.out.at0.lt
        have z0 := HS2.out.at2.c1
        have zf := HS2.out.at2.frozen
        have zz := HS2.out.at2.lt
        have mb := HS2.out.at1
        have m0 := mb.cell 0
        have m1 := mb.cell 1
        have m2 := mb.cell 2
        have m3 := mb.cell 3
        have m4 := mb.cell 4
        have m5 := mb.cell 5
        have m6 := mb.cell 6
        have m7 := mb.cell 7
        simp only [List.getElem?_toArray, List.getElem?_cons_succ, List.getElem?_cons_zero] at m0 m1 m2 m3 m4 m5 m6 m7
        have mz := mb.lt
        clear mb
        go_wp2_with fail
        refine (l08Add_c ix m _ _ 0 ix.entries.length 40 _ (Blk.rowAt (d := indexD) (x := ix) HS2.out.at2 (index_K_mk (H1.out.below HS2.out.below)) rfl) (msgRow HS2.out.at1 (H7.out.below HS2.out.below)) HFT.out hts (by omega) (by omega)).mono ?_
        rintro e w3 hr
        obtain ⟨cs3, F3, rfl, hK3, hb3, hS3⟩ := HS2.out.elem hr
        obtain ⟨v3, rfl, hs3⟩ := index_K hK3
        obtain ⟨A3, c3, rfl⟩ := hs3.shape
        have HS3 := hide (show St w _ (ownD indexD ⟨addM ix.entries m⟩ [.slice A3 (addM ix.entries m).length c3] F3 :: [blk (w.heap.size + 1 + 1) #[.slice none 0 0] 33, blk (w.heap.size + 1) #[.int .i64 m.number, .int .i64 m.sender, .int .i64 m.at_, .string m.text, .int .i64 m.edits, .bool m.gone, .int .i64 m.reply, .slice A7 m.likes.length c7] 47, blk w.heap.size #[.slice A1 ix.entries.length c1] 33]) from hS3)
        have HSL := hide hs3
        clear hr hK3 hb3 hS3 hs3
        (try clear x0 xf xz z0 zf zz m0 m1 m2 m3 m4 m5 m6 m7 mz)
        have x0 := HS3.out.drop.at0.c1
        have xf := HS3.out.drop.at0.frozen
        have xz := HS3.out.drop.at0.lt
        have z0 := HS3.out.drop.at2.c1
        have zf := HS3.out.drop.at2.frozen
        have zz := HS3.out.drop.at2.lt
        have mb := HS3.out.drop.at1
        have m0 := mb.cell 0
        have m1 := mb.cell 1
        have m2 := mb.cell 2
        have m3 := mb.cell 3
        have m4 := mb.cell 4
        have m5 := mb.cell 5
        have m6 := mb.cell 6
        have m7 := mb.cell 7
        simp only [List.getElem?_toArray, List.getElem?_cons_succ, List.getElem?_cons_zero] at m0 m1 m2 m3 m4 m5 m6 m7
        have mz := mb.lt
        clear mb
        go_wp2_with fail
        obtain ⟨W4, hW4⟩ : ∃ V, V = (w3.alloc (.cells #[.slice A3 (addM ix.entries m).length c3] 33)) := ⟨_, rfl⟩
        rw [← hW4]
        have HS4 := hide (show St w W4 (blk w3.heap.size #[.slice A3 (addM ix.entries m).length c3] 33 :: ownD indexD ⟨addM ix.entries m⟩ [.slice A3 (addM ix.entries m).length c3] F3 :: [blk (w.heap.size + 1 + 1) #[.slice none 0 0] 33, blk (w.heap.size + 1) #[.int .i64 m.number, .int .i64 m.sender, .int .i64 m.at_, .string m.text, .int .i64 m.edits, .bool m.gone, .int .i64 m.reply, .slice A7 m.likes.length c7] 47, blk w.heap.size #[.slice A1 ix.entries.length c1] 33]) by rw [hW4]; (repeat (first | (with_reducible exact HS3.out) | (with_reducible apply St.alloc) | (with_reducible apply St.set0) | (with_reducible apply St.set1) | (with_reducible apply St.set2) | (with_reducible apply St.set3) | (with_reducible apply St.drew) | (with_reducible apply St.drewN))); all_goals (try (first | rfl | (simp; done))))
        clear hW4
        refine (l08Is_c ⟨addM ix.entries m⟩ _ _ _ (Blk.rowAt (d := indexD) (x := ⟨addM ix.entries m⟩) HS4.out.at0 (indexD.M_K HS4.out.drop.head) rfl) HOKI.out).mono ?_
        rintro e w5 ⟨rfl, hb⟩
        rw [HV3.out]
        have HS5 := hide (HS4.out.by hb)
        clear hb
        (try clear x0 xf xz z0 zf zz m0 m1 m2 m3 m4 m5 m6 m7 mz)
        have x0 := HS5.out.drop.drop.at0.c1
        have xf := HS5.out.drop.drop.at0.frozen
        have xz := HS5.out.drop.drop.at0.lt
        have z0 := HS5.out.drop.drop.at2.c1
        have zf := HS5.out.drop.drop.at2.frozen
        have zz := HS5.out.drop.drop.at2.lt
        have mb := HS5.out.drop.drop.at1
        have m0 := mb.cell 0
        have m1 := mb.cell 1
        have m2 := mb.cell 2
        have m3 := mb.cell 3
        have m4 := mb.cell 4
        have m5 := mb.cell 5
        have m6 := mb.cell 6
        have m7 := mb.cell 7
        simp only [List.getElem?_toArray, List.getElem?_cons_succ, List.getElem?_cons_zero] at m0 m1 m2 m3 m4 m5 m6 m7
        have mz := mb.lt
        clear mb
        have y0 := HS5.out.at0.c1
        have yf := HS5.out.at0.frozen
        have yz := HS5.out.at0.lt
        have HS6 := hide HS5.out.drop.drop
        go_wp2_with fail
        have HP := hide (show imV ix m = noIx by unfold imV; rw [HOK.out]; rfl)
        refine bodyPost_ret (v := .tuple #[.agg #[.slice none 0 0], .bool false]) (by simp [results, Try.results43, go_sem, x0, xf, xz]) rfl ?_
        rw [HP.out, HOK.out]
        exact St.ret2 (cs := [.slice none 0 0]) (F := []) (St.noIx (show St w _ [blk (w.heap.size + 1 + 1) #[.slice none 0 0] 33, blk (w.heap.size + 1) #[.int .i64 m.number, .int .i64 m.sender, .int .i64 m.at_, .string m.text, .int .i64 m.edits, .bool m.gone, .int .i64 m.reply, .slice A7 m.likes.length c7] 47, blk w.heap.size #[.slice A1 ix.entries.length c1] 33] from by (repeat (first | (with_reducible exact HS6.out) | (with_reducible apply St.alloc) | (with_reducible apply St.set0) | (with_reducible apply St.set1) | (with_reducible apply St.set2) | (with_reducible apply St.set3) | (with_reducible apply St.drew) | (with_reducible apply St.drewN))); all_goals (try (first | rfl | (simp; done))))) rfl
    · have HV2 := hide (show validMessageB m = false by simpa using hv2)
      have HOK := hide (show imOk ix m = false by unfold imOk; rw [HV2.out, Bool.and_false, Bool.false_and])
      clear hv hv2
      go_enter Try.func43, Try.ntmps43
      go_wp2_with fail
      refine (l08Is_c ix _ _ _ (Blk.rowAt (d := indexD) (x := ix) HS0.out.at2 (index_K_mk (H1.out.below HS0.out.below)) rfl) HT.out).mono ?_
      rintro e w1 ⟨rfl, hb⟩
      rw [HV.out]
      have HS1 := hide (HS0.out.by hb)
      clear hb
      (try clear x0 xf xz z0 zf zz m0 m1 m2 m3 m4 m5 m6 m7 mz)
      have x0 := HS1.out.at0.c1
      have xf := HS1.out.at0.frozen
      have xz := HS1.out.at0.lt
      have z0 := HS1.out.at2.c1
      have zf := HS1.out.at2.frozen
      have zz := HS1.out.at2.lt
      have mb := HS1.out.at1
      have m0 := mb.cell 0
      have m1 := mb.cell 1
      have m2 := mb.cell 2
      have m3 := mb.cell 3
      have m4 := mb.cell 4
      have m5 := mb.cell 5
      have m6 := mb.cell 6
      have m7 := mb.cell 7
      simp only [List.getElem?_toArray, List.getElem?_cons_succ, List.getElem?_cons_zero] at m0 m1 m2 m3 m4 m5 m6 m7
      have mz := mb.lt
      clear mb
      go_wp2_with fail
      refine (specValidMessage_c m _ _ (H7.out.below HS1.out.below) HT2.out).mono ?_
      rintro e w2 ⟨rfl, hb⟩
      rw [HV2.out]
      have HS2 := hide (HS1.out.by hb)
      clear hb
      (try clear x0 xf xz z0 zf zz m0 m1 m2 m3 m4 m5 m6 m7 mz)
      have x0 := HS2.out.at0.c1
      have xf := HS2.out.at0.frozen
      have xz := HS2.out.at0.lt
      have z0 := HS2.out.at2.c1
      have zf := HS2.out.at2.frozen
      have zz := HS2.out.at2.lt
      have mb := HS2.out.at1
      have m0 := mb.cell 0
      have m1 := mb.cell 1
      have m2 := mb.cell 2
      have m3 := mb.cell 3
      have m4 := mb.cell 4
      have m5 := mb.cell 5
      have m6 := mb.cell 6
      have m7 := mb.cell 7
      simp only [List.getElem?_toArray, List.getElem?_cons_succ, List.getElem?_cons_zero] at m0 m1 m2 m3 m4 m5 m6 m7
      have mz := mb.lt
      clear mb
      go_wp2_with fail
      have HP := hide (show imV ix m = noIx by unfold imV; rw [HOK.out]; rfl)
      refine bodyPost_ret (v := .tuple #[.agg #[.slice none 0 0], .bool false]) (by simp [results, Try.results43, go_sem, x0, xf, xz]) rfl ?_
      rw [HP.out, HOK.out]
      exact St.ret2 (cs := [.slice none 0 0]) (F := []) (St.noIx (show St w _ [blk (w.heap.size + 1 + 1) #[.slice none 0 0] 33, blk (w.heap.size + 1) #[.int .i64 m.number, .int .i64 m.sender, .int .i64 m.at_, .string m.text, .int .i64 m.edits, .bool m.gone, .int .i64 m.reply, .slice A7 m.likes.length c7] 47, blk w.heap.size #[.slice A1 ix.entries.length c1] 33] from by (repeat (first | (with_reducible exact HS2.out) | (with_reducible apply St.alloc) | (with_reducible apply St.set0) | (with_reducible apply St.set1) | (with_reducible apply St.set2) | (with_reducible apply St.set3) | (with_reducible apply St.drew) | (with_reducible apply St.drewN))); all_goals (try (first | rfl | (simp; done))))) rfl
  · have HV := hide (show validIxB ix = false by simpa using hv)
    have HOK := hide (show imOk ix m = false by unfold imOk; rw [HV.out, Bool.false_and, Bool.false_and])
    clear hv
    go_enter Try.func43, Try.ntmps43
    go_wp2_with fail
    refine (l08Is_c ix _ _ _ (Blk.rowAt (d := indexD) (x := ix) HS0.out.at2 (index_K_mk (H1.out.below HS0.out.below)) rfl) HT.out).mono ?_
    rintro e w1 ⟨rfl, hb⟩
    rw [HV.out]
    have HS1 := hide (HS0.out.by hb)
    clear hb
    (try clear x0 xf xz z0 zf zz m0 m1 m2 m3 m4 m5 m6 m7 mz)
    have x0 := HS1.out.at0.c1
    have xf := HS1.out.at0.frozen
    have xz := HS1.out.at0.lt
    have z0 := HS1.out.at2.c1
    have zf := HS1.out.at2.frozen
    have zz := HS1.out.at2.lt
    have mb := HS1.out.at1
    have m0 := mb.cell 0
    have m1 := mb.cell 1
    have m2 := mb.cell 2
    have m3 := mb.cell 3
    have m4 := mb.cell 4
    have m5 := mb.cell 5
    have m6 := mb.cell 6
    have m7 := mb.cell 7
    simp only [List.getElem?_toArray, List.getElem?_cons_succ, List.getElem?_cons_zero] at m0 m1 m2 m3 m4 m5 m6 m7
    have mz := mb.lt
    clear mb
    go_wp2_with fail
    have HP := hide (show imV ix m = noIx by unfold imV; rw [HOK.out]; rfl)
    refine bodyPost_ret (v := .tuple #[.agg #[.slice none 0 0], .bool false]) (by simp [results, Try.results43, go_sem, x0, xf, xz]) rfl ?_
    rw [HP.out, HOK.out]
    exact St.ret2 (cs := [.slice none 0 0]) (F := []) (St.noIx (show St w _ [blk (w.heap.size + 1 + 1) #[.slice none 0 0] 33, blk (w.heap.size + 1) #[.int .i64 m.number, .int .i64 m.sender, .int .i64 m.at_, .string m.text, .int .i64 m.edits, .bool m.gone, .int .i64 m.reply, .slice A7 m.likes.length c7] 47, blk w.heap.size #[.slice A1 ix.entries.length c1] 33] from by (repeat (first | (with_reducible exact HS1.out) | (with_reducible apply St.alloc) | (with_reducible apply St.set0) | (with_reducible apply St.set1) | (with_reducible apply St.set2) | (with_reducible apply St.set3) | (with_reducible apply St.drew) | (with_reducible apply St.drewN))); all_goals (try (first | rfl | (simp; done))))) rfl
set_option maxHeartbeats 16000000 in
set_option maxRecDepth 100000 in
theorem indexMessage_c (ix : Index) (m : Message) (v1 v7 : Value) (w : World) (h1 : SliceK entryD w v1 ix.entries) (h7 : SliceK intD w v7 m.likes) (ht : okIndex ix) (ht2 : m.text.size ≤ 9223372036854775807) (hfi : fitIx ix) :
    Calls Try.prog 44 #[.agg #[v1], .agg #[.int .i64 m.number, .int .i64 m.sender, .int .i64 m.at_, .string m.text, .int .i64 m.edits, .bool m.gone, .int .i64 m.reply, v7]] w (RetElem2 indexD w (imV ix m) (imOk ix m)) := by
  obtain ⟨A1, c1, rfl⟩ := h1.shape
  obtain ⟨A7, c7, rfl⟩ := h7.shape
  have H1 := hide h1
  have H7 := hide h7
  have HT := hide ht
  have HT2 := hide ht2
  have HFI := hide hfi
  clear h1 h7 ht ht2 hfi
  have HS0 := hide (show St w (((w.alloc (.cells #[.slice A1 ix.entries.length c1] 33)).alloc (.cells #[.int .i64 m.number, .int .i64 m.sender, .int .i64 m.at_, .string m.text, .int .i64 m.edits, .bool m.gone, .int .i64 m.reply, .slice A7 m.likes.length c7] 47)).alloc (.cells #[.slice none 0 0] 33)) [blk (w.heap.size + 1 + 1) #[.slice none 0 0] 33, blk (w.heap.size + 1) #[.int .i64 m.number, .int .i64 m.sender, .int .i64 m.at_, .string m.text, .int .i64 m.edits, .bool m.gone, .int .i64 m.reply, .slice A7 m.likes.length c7] 47, blk w.heap.size #[.slice A1 ix.entries.length c1] 33] by (repeat (first | (with_reducible exact St.start w) | (with_reducible apply St.alloc) | (with_reducible apply St.set0) | (with_reducible apply St.set1) | (with_reducible apply St.set2) | (with_reducible apply St.set3) | (with_reducible apply St.drew) | (with_reducible apply St.drewN))); all_goals (try (first | rfl | (simp; done))))
  (try clear x0 xf xz z0 zf zz m0 m1 m2 m3 m4 m5 m6 m7 mz)
  have x0 := HS0.out.at0.c1
  have xf := HS0.out.at0.frozen
  have xz := HS0.out.at0.lt
  have z0 := HS0.out.at2.c1
  have zf := HS0.out.at2.frozen
  have zz := HS0.out.at2.lt
  have mb := HS0.out.at1
  have m0 := mb.cell 0
  have m1 := mb.cell 1
  have m2 := mb.cell 2
  have m3 := mb.cell 3
  have m4 := mb.cell 4
  have m5 := mb.cell 5
  have m6 := mb.cell 6
  have m7 := mb.cell 7
  simp only [List.getElem?_toArray, List.getElem?_cons_succ, List.getElem?_cons_zero] at m0 m1 m2 m3 m4 m5 m6 m7
  have mz := mb.lt
  clear mb
  by_cases hv : validIxB ix = true
  · have HV := hide hv
    by_cases hv2 : validMessageB m = true
    · have HV2 := hide hv2
      have hts := (valid_small hv2).1
      have HOKI := hide (addM_okIx (es := ix.entries) (m := m) HT.out hts)
      have hel := HFI.out hv
      have HFT := hide (validIx_fit hv)
      have HFW := hide (show fewIx ix from ⟨by omega, fun e he => by have := (validIx_num hv e he).2; omega⟩)
      by_cases hv3 : validIxB ⟨addM ix.entries m⟩ = true
      · have HV3 := hide hv3
        have HOK := hide (show imOk ix m = true by unfold imOk; rw [hv, hv2, hv3]; rfl)
        have HP := hide (show imV ix m = ⟨addM ix.entries m⟩ by unfold imV; rw [HOK.out]; rfl)
        clear hv hv2 hv3
        go_enter Try.func44, Try.ntmps44
        go_wp2_with fail
        refine (validIndex_c ix _ _ (H1.out.below HS0.out.below) HT.out).mono ?_
        rintro e w1 ⟨rfl, hb⟩
        rw [HV.out]
        have HS1 := hide (HS0.out.by hb)
        clear hb
        (try clear x0 xf xz z0 zf zz m0 m1 m2 m3 m4 m5 m6 m7 mz)
        have x0 := HS1.out.at0.c1
        have xf := HS1.out.at0.frozen
        have xz := HS1.out.at0.lt
        have z0 := HS1.out.at2.c1
        have zf := HS1.out.at2.frozen
        have zz := HS1.out.at2.lt
        have mb := HS1.out.at1
        have m0 := mb.cell 0
        have m1 := mb.cell 1
        have m2 := mb.cell 2
        have m3 := mb.cell 3
        have m4 := mb.cell 4
        have m5 := mb.cell 5
        have m6 := mb.cell 6
        have m7 := mb.cell 7
        simp only [List.getElem?_toArray, List.getElem?_cons_succ, List.getElem?_cons_zero] at m0 m1 m2 m3 m4 m5 m6 m7
        have mz := mb.lt
        clear mb
        go_wp2_with fail
        refine (validMessage_c m _ _ (H7.out.below HS1.out.below) HT2.out).mono ?_
        rintro e w2 ⟨rfl, hb⟩
        rw [HV2.out]
        have HS2 := hide (HS1.out.by hb)
        clear hb
        (try clear x0 xf xz z0 zf zz m0 m1 m2 m3 m4 m5 m6 m7 mz)
        have x0 := HS2.out.at0.c1
        have xf := HS2.out.at0.frozen
        have xz := HS2.out.at0.lt
        have z0 := HS2.out.at2.c1
        have zf := HS2.out.at2.frozen
        have zz := HS2.out.at2.lt
        have mb := HS2.out.at1
        have m0 := mb.cell 0
        have m1 := mb.cell 1
        have m2 := mb.cell 2
        have m3 := mb.cell 3
        have m4 := mb.cell 4
        have m5 := mb.cell 5
        have m6 := mb.cell 6
        have m7 := mb.cell 7
        simp only [List.getElem?_toArray, List.getElem?_cons_succ, List.getElem?_cons_zero] at m0 m1 m2 m3 m4 m5 m6 m7
        have mz := mb.lt
        clear mb
        go_wp2_with fail
        refine (cloneIndex_c ix _ _ (H1.out.below HS2.out.below) HFW.out).mono ?_
        rintro e w3 hr
        obtain ⟨cs3, F3, rfl, hK3, hb3, hS3⟩ := HS2.out.elem hr
        obtain ⟨v3, rfl, hs3⟩ := index_K hK3
        obtain ⟨A3, c3, rfl⟩ := hs3.shape
        have HS3 := hide (show St w _ (ownD indexD ix [.slice A3 ix.entries.length c3] F3 :: [blk (w.heap.size + 1 + 1) #[.slice none 0 0] 33, blk (w.heap.size + 1) #[.int .i64 m.number, .int .i64 m.sender, .int .i64 m.at_, .string m.text, .int .i64 m.edits, .bool m.gone, .int .i64 m.reply, .slice A7 m.likes.length c7] 47, blk w.heap.size #[.slice A1 ix.entries.length c1] 33]) from hS3)
        clear hr hK3 hb3 hS3 hs3
        (try clear x0 xf xz z0 zf zz m0 m1 m2 m3 m4 m5 m6 m7 mz)
        have x0 := HS3.out.drop.at0.c1
        have xf := HS3.out.drop.at0.frozen
        have xz := HS3.out.drop.at0.lt
        have z0 := HS3.out.drop.at2.c1
        have zf := HS3.out.drop.at2.frozen
        have zz := HS3.out.drop.at2.lt
        have mb := HS3.out.drop.at1
        have m0 := mb.cell 0
        have m1 := mb.cell 1
        have m2 := mb.cell 2
        have m3 := mb.cell 3
        have m4 := mb.cell 4
        have m5 := mb.cell 5
        have m6 := mb.cell 6
        have m7 := mb.cell 7
        simp only [List.getElem?_toArray, List.getElem?_cons_succ, List.getElem?_cons_zero] at m0 m1 m2 m3 m4 m5 m6 m7
        have mz := mb.lt
        clear mb
        go_wp2_with fail
        refine (addIx_c ix m A7 m.likes.length c7 ix.entries.length 40 _ (w3.heap.size :: F3) w _ [blk (w.heap.size + 1 + 1) #[.slice none 0 0] 33, blk (w.heap.size + 1) #[.int .i64 m.number, .int .i64 m.sender, .int .i64 m.at_, .string m.text, .int .i64 m.edits, .bool m.gone, .int .i64 m.reply, .slice A7 m.likes.length c7] 47, blk w.heap.size #[.slice A1 ix.entries.length c1] 33] (St.boxUp (cs := [.slice A3 ix.entries.length c3]) (arr := #[.slice A3 ix.entries.length c3]) (show St w _ (ownD indexD ix [.slice A3 ix.entries.length c3] F3 :: blk w3.heap.size #[.slice A3 ix.entries.length c3] 33 :: [blk (w.heap.size + 1 + 1) #[.slice none 0 0] 33, blk (w.heap.size + 1) #[.int .i64 m.number, .int .i64 m.sender, .int .i64 m.at_, .string m.text, .int .i64 m.edits, .bool m.gone, .int .i64 m.reply, .slice A7 m.likes.length c7] 47, blk w.heap.size #[.slice A1 ix.entries.length c1] 33]) from St.pull1 (by (repeat (first | (with_reducible exact HS3.out) | (with_reducible apply St.alloc) | (with_reducible apply St.set0) | (with_reducible apply St.set1) | (with_reducible apply St.set2) | (with_reducible apply St.set3) | (with_reducible apply St.drew) | (with_reducible apply St.drewN))); all_goals (try (first | rfl | (simp; done))))) rfl) HFT.out hts (by omega) (by omega)).mono ?_
        rintro e w4 ⟨rfl, F4, hS4⟩
        obtain ⟨cs, G, hK, hS⟩ := St.unbox hS4
        obtain ⟨v5, rfl, hs⟩ := index_K hK
        obtain ⟨A5, c5, rfl⟩ := hs.shape
        have HS4 := hide (show St w _ (ownD indexD ⟨addM ix.entries m⟩ [.slice A5 (addM ix.entries m).length c5] G :: blk w3.heap.size #[.slice A5 (addM ix.entries m).length c5] 33 :: [blk (w.heap.size + 1 + 1) #[.slice none 0 0] 33, blk (w.heap.size + 1) #[.int .i64 m.number, .int .i64 m.sender, .int .i64 m.at_, .string m.text, .int .i64 m.edits, .bool m.gone, .int .i64 m.reply, .slice A7 m.likes.length c7] 47, blk w.heap.size #[.slice A1 ix.entries.length c1] 33]) from hS)
        have HSL := hide hs
        clear hS4 hK hS hs
        (try clear x0 xf xz z0 zf zz m0 m1 m2 m3 m4 m5 m6 m7 mz)
        have x0 := HS4.out.drop.drop.at0.c1
        have xf := HS4.out.drop.drop.at0.frozen
        have xz := HS4.out.drop.drop.at0.lt
        have z0 := HS4.out.drop.drop.at2.c1
        have zf := HS4.out.drop.drop.at2.frozen
        have zz := HS4.out.drop.drop.at2.lt
        have mb := HS4.out.drop.drop.at1
        have m0 := mb.cell 0
        have m1 := mb.cell 1
        have m2 := mb.cell 2
        have m3 := mb.cell 3
        have m4 := mb.cell 4
        have m5 := mb.cell 5
        have m6 := mb.cell 6
        have m7 := mb.cell 7
        simp only [List.getElem?_toArray, List.getElem?_cons_succ, List.getElem?_cons_zero] at m0 m1 m2 m3 m4 m5 m6 m7
        have mz := mb.lt
        clear mb
        have y0 := HS4.out.at1.c1
        have yf := HS4.out.at1.frozen
        have yz := HS4.out.at1.lt
        go_wp2_with fail
        refine (validIndex_c ⟨addM ix.entries m⟩ _ _ HSL.out HOKI.out).mono ?_
        rintro e w5 ⟨rfl, hb⟩
        rw [HV3.out]
        have HS5 := hide (HS4.out.by hb)
        clear hb y0 yf yz
        (try clear x0 xf xz z0 zf zz m0 m1 m2 m3 m4 m5 m6 m7 mz)
        have x0 := HS5.out.drop.drop.at0.c1
        have xf := HS5.out.drop.drop.at0.frozen
        have xz := HS5.out.drop.drop.at0.lt
        have z0 := HS5.out.drop.drop.at2.c1
        have zf := HS5.out.drop.drop.at2.frozen
        have zz := HS5.out.drop.drop.at2.lt
        have mb := HS5.out.drop.drop.at1
        have m0 := mb.cell 0
        have m1 := mb.cell 1
        have m2 := mb.cell 2
        have m3 := mb.cell 3
        have m4 := mb.cell 4
        have m5 := mb.cell 5
        have m6 := mb.cell 6
        have m7 := mb.cell 7
        simp only [List.getElem?_toArray, List.getElem?_cons_succ, List.getElem?_cons_zero] at m0 m1 m2 m3 m4 m5 m6 m7
        have mz := mb.lt
        clear mb
        have y0 := HS5.out.at1.c1
        have yf := HS5.out.at1.frozen
        have yz := HS5.out.at1.lt
        go_wp2_with fail
        refine bodyPost_ret (v := .tuple #[.agg #[.slice A5 (addM ix.entries m).length c5], .bool true]) (by simp [results, Try.results44, go_sem, x0, xf, xz, y0, yf, yz]) rfl ?_
        rw [HP.out, HOK.out]
        exact St.ret2 (cs := [.slice A5 (addM ix.entries m).length c5]) (F := G) (show St w _ (ownD indexD ⟨addM ix.entries m⟩ [.slice A5 (addM ix.entries m).length c5] G :: blk w3.heap.size #[.slice A5 (addM ix.entries m).length c5] 33 :: [blk (w.heap.size + 1 + 1) #[.slice A5 (addM ix.entries m).length c5] 33, blk (w.heap.size + 1) #[.int .i64 m.number, .int .i64 m.sender, .int .i64 m.at_, .string m.text, .int .i64 m.edits, .bool m.gone, .int .i64 m.reply, .slice A7 m.likes.length c7] 47, blk w.heap.size #[.slice A1 ix.entries.length c1] 33]) from by (repeat (first | (with_reducible exact HS5.out) | (with_reducible apply St.alloc) | (with_reducible apply St.set0) | (with_reducible apply St.set1) | (with_reducible apply St.set2) | (with_reducible apply St.set3) | (with_reducible apply St.drew) | (with_reducible apply St.drewN))); all_goals (try (first | rfl | (simp; done)))) rfl
      · have HV3 := hide (show validIxB ⟨addM ix.entries m⟩ = false by simpa using hv3)
        have HOK := hide (show imOk ix m = false by unfold imOk; rw [HV3.out, Bool.and_false])
        clear hv hv2 hv3
        go_enter Try.func44, Try.ntmps44
        go_wp2_with fail
        refine (validIndex_c ix _ _ (H1.out.below HS0.out.below) HT.out).mono ?_
        rintro e w1 ⟨rfl, hb⟩
        rw [HV.out]
        have HS1 := hide (HS0.out.by hb)
        clear hb
        (try clear x0 xf xz z0 zf zz m0 m1 m2 m3 m4 m5 m6 m7 mz)
        have x0 := HS1.out.at0.c1
        have xf := HS1.out.at0.frozen
        have xz := HS1.out.at0.lt
        have z0 := HS1.out.at2.c1
        have zf := HS1.out.at2.frozen
        have zz := HS1.out.at2.lt
        have mb := HS1.out.at1
        have m0 := mb.cell 0
        have m1 := mb.cell 1
        have m2 := mb.cell 2
        have m3 := mb.cell 3
        have m4 := mb.cell 4
        have m5 := mb.cell 5
        have m6 := mb.cell 6
        have m7 := mb.cell 7
        simp only [List.getElem?_toArray, List.getElem?_cons_succ, List.getElem?_cons_zero] at m0 m1 m2 m3 m4 m5 m6 m7
        have mz := mb.lt
        clear mb
        go_wp2_with fail
        refine (validMessage_c m _ _ (H7.out.below HS1.out.below) HT2.out).mono ?_
        rintro e w2 ⟨rfl, hb⟩
        rw [HV2.out]
        have HS2 := hide (HS1.out.by hb)
        clear hb
        (try clear x0 xf xz z0 zf zz m0 m1 m2 m3 m4 m5 m6 m7 mz)
        have x0 := HS2.out.at0.c1
        have xf := HS2.out.at0.frozen
        have xz := HS2.out.at0.lt
        have z0 := HS2.out.at2.c1
        have zf := HS2.out.at2.frozen
        have zz := HS2.out.at2.lt
        have mb := HS2.out.at1
        have m0 := mb.cell 0
        have m1 := mb.cell 1
        have m2 := mb.cell 2
        have m3 := mb.cell 3
        have m4 := mb.cell 4
        have m5 := mb.cell 5
        have m6 := mb.cell 6
        have m7 := mb.cell 7
        simp only [List.getElem?_toArray, List.getElem?_cons_succ, List.getElem?_cons_zero] at m0 m1 m2 m3 m4 m5 m6 m7
        have mz := mb.lt
        clear mb
        go_wp2_with fail
        refine (cloneIndex_c ix _ _ (H1.out.below HS2.out.below) HFW.out).mono ?_
        rintro e w3 hr
        obtain ⟨cs3, F3, rfl, hK3, hb3, hS3⟩ := HS2.out.elem hr
        obtain ⟨v3, rfl, hs3⟩ := index_K hK3
        obtain ⟨A3, c3, rfl⟩ := hs3.shape
        have HS3 := hide (show St w _ (ownD indexD ix [.slice A3 ix.entries.length c3] F3 :: [blk (w.heap.size + 1 + 1) #[.slice none 0 0] 33, blk (w.heap.size + 1) #[.int .i64 m.number, .int .i64 m.sender, .int .i64 m.at_, .string m.text, .int .i64 m.edits, .bool m.gone, .int .i64 m.reply, .slice A7 m.likes.length c7] 47, blk w.heap.size #[.slice A1 ix.entries.length c1] 33]) from hS3)
        clear hr hK3 hb3 hS3 hs3
        (try clear x0 xf xz z0 zf zz m0 m1 m2 m3 m4 m5 m6 m7 mz)
        have x0 := HS3.out.drop.at0.c1
        have xf := HS3.out.drop.at0.frozen
        have xz := HS3.out.drop.at0.lt
        have z0 := HS3.out.drop.at2.c1
        have zf := HS3.out.drop.at2.frozen
        have zz := HS3.out.drop.at2.lt
        have mb := HS3.out.drop.at1
        have m0 := mb.cell 0
        have m1 := mb.cell 1
        have m2 := mb.cell 2
        have m3 := mb.cell 3
        have m4 := mb.cell 4
        have m5 := mb.cell 5
        have m6 := mb.cell 6
        have m7 := mb.cell 7
        simp only [List.getElem?_toArray, List.getElem?_cons_succ, List.getElem?_cons_zero] at m0 m1 m2 m3 m4 m5 m6 m7
        have mz := mb.lt
        clear mb
        go_wp2_with fail
        refine (addIx_c ix m A7 m.likes.length c7 ix.entries.length 40 _ (w3.heap.size :: F3) w _ [blk (w.heap.size + 1 + 1) #[.slice none 0 0] 33, blk (w.heap.size + 1) #[.int .i64 m.number, .int .i64 m.sender, .int .i64 m.at_, .string m.text, .int .i64 m.edits, .bool m.gone, .int .i64 m.reply, .slice A7 m.likes.length c7] 47, blk w.heap.size #[.slice A1 ix.entries.length c1] 33] (St.boxUp (cs := [.slice A3 ix.entries.length c3]) (arr := #[.slice A3 ix.entries.length c3]) (show St w _ (ownD indexD ix [.slice A3 ix.entries.length c3] F3 :: blk w3.heap.size #[.slice A3 ix.entries.length c3] 33 :: [blk (w.heap.size + 1 + 1) #[.slice none 0 0] 33, blk (w.heap.size + 1) #[.int .i64 m.number, .int .i64 m.sender, .int .i64 m.at_, .string m.text, .int .i64 m.edits, .bool m.gone, .int .i64 m.reply, .slice A7 m.likes.length c7] 47, blk w.heap.size #[.slice A1 ix.entries.length c1] 33]) from St.pull1 (by (repeat (first | (with_reducible exact HS3.out) | (with_reducible apply St.alloc) | (with_reducible apply St.set0) | (with_reducible apply St.set1) | (with_reducible apply St.set2) | (with_reducible apply St.set3) | (with_reducible apply St.drew) | (with_reducible apply St.drewN))); all_goals (try (first | rfl | (simp; done))))) rfl) HFT.out hts (by omega) (by omega)).mono ?_
        rintro e w4 ⟨rfl, F4, hS4⟩
        obtain ⟨cs, G, hK, hS⟩ := St.unbox hS4
        obtain ⟨v5, rfl, hs⟩ := index_K hK
        obtain ⟨A5, c5, rfl⟩ := hs.shape
        have HS4 := hide (show St w _ (ownD indexD ⟨addM ix.entries m⟩ [.slice A5 (addM ix.entries m).length c5] G :: blk w3.heap.size #[.slice A5 (addM ix.entries m).length c5] 33 :: [blk (w.heap.size + 1 + 1) #[.slice none 0 0] 33, blk (w.heap.size + 1) #[.int .i64 m.number, .int .i64 m.sender, .int .i64 m.at_, .string m.text, .int .i64 m.edits, .bool m.gone, .int .i64 m.reply, .slice A7 m.likes.length c7] 47, blk w.heap.size #[.slice A1 ix.entries.length c1] 33]) from hS)
        have HSL := hide hs
        clear hS4 hK hS hs
        (try clear x0 xf xz z0 zf zz m0 m1 m2 m3 m4 m5 m6 m7 mz)
        have x0 := HS4.out.drop.drop.at0.c1
        have xf := HS4.out.drop.drop.at0.frozen
        have xz := HS4.out.drop.drop.at0.lt
        have z0 := HS4.out.drop.drop.at2.c1
        have zf := HS4.out.drop.drop.at2.frozen
        have zz := HS4.out.drop.drop.at2.lt
        have mb := HS4.out.drop.drop.at1
        have m0 := mb.cell 0
        have m1 := mb.cell 1
        have m2 := mb.cell 2
        have m3 := mb.cell 3
        have m4 := mb.cell 4
        have m5 := mb.cell 5
        have m6 := mb.cell 6
        have m7 := mb.cell 7
        simp only [List.getElem?_toArray, List.getElem?_cons_succ, List.getElem?_cons_zero] at m0 m1 m2 m3 m4 m5 m6 m7
        have mz := mb.lt
        clear mb
        have y0 := HS4.out.at1.c1
        have yf := HS4.out.at1.frozen
        have yz := HS4.out.at1.lt
        go_wp2_with fail
        refine (validIndex_c ⟨addM ix.entries m⟩ _ _ HSL.out HOKI.out).mono ?_
        rintro e w5 ⟨rfl, hb⟩
        rw [HV3.out]
        have HS5 := hide (HS4.out.by hb)
        clear hb y0 yf yz
        (try clear x0 xf xz z0 zf zz m0 m1 m2 m3 m4 m5 m6 m7 mz)
        have x0 := HS5.out.drop.drop.at0.c1
        have xf := HS5.out.drop.drop.at0.frozen
        have xz := HS5.out.drop.drop.at0.lt
        have z0 := HS5.out.drop.drop.at2.c1
        have zf := HS5.out.drop.drop.at2.frozen
        have zz := HS5.out.drop.drop.at2.lt
        have mb := HS5.out.drop.drop.at1
        have m0 := mb.cell 0
        have m1 := mb.cell 1
        have m2 := mb.cell 2
        have m3 := mb.cell 3
        have m4 := mb.cell 4
        have m5 := mb.cell 5
        have m6 := mb.cell 6
        have m7 := mb.cell 7
        simp only [List.getElem?_toArray, List.getElem?_cons_succ, List.getElem?_cons_zero] at m0 m1 m2 m3 m4 m5 m6 m7
        have mz := mb.lt
        clear mb
        have y0 := HS5.out.at1.c1
        have yf := HS5.out.at1.frozen
        have yz := HS5.out.at1.lt
        have HS6 := hide HS5.out.drop.drop
        go_wp2_with fail
        have HP := hide (show imV ix m = noIx by unfold imV; rw [HOK.out]; rfl)
        refine bodyPost_ret (v := .tuple #[.agg #[.slice none 0 0], .bool false]) (by simp [results, Try.results44, go_sem, x0, xf, xz]) rfl ?_
        rw [HP.out, HOK.out]
        exact St.ret2 (cs := [.slice none 0 0]) (F := []) (St.noIx (show St w _ [blk (w.heap.size + 1 + 1) #[.slice none 0 0] 33, blk (w.heap.size + 1) #[.int .i64 m.number, .int .i64 m.sender, .int .i64 m.at_, .string m.text, .int .i64 m.edits, .bool m.gone, .int .i64 m.reply, .slice A7 m.likes.length c7] 47, blk w.heap.size #[.slice A1 ix.entries.length c1] 33] from by (repeat (first | (with_reducible exact HS6.out) | (with_reducible apply St.alloc) | (with_reducible apply St.set0) | (with_reducible apply St.set1) | (with_reducible apply St.set2) | (with_reducible apply St.set3) | (with_reducible apply St.drew) | (with_reducible apply St.drewN))); all_goals (try (first | rfl | (simp; done))))) rfl
    · have HV2 := hide (show validMessageB m = false by simpa using hv2)
      have HOK := hide (show imOk ix m = false by unfold imOk; rw [HV2.out, Bool.and_false, Bool.false_and])
      clear hv hv2
      go_enter Try.func44, Try.ntmps44
      go_wp2_with fail
      refine (validIndex_c ix _ _ (H1.out.below HS0.out.below) HT.out).mono ?_
      rintro e w1 ⟨rfl, hb⟩
      rw [HV.out]
      have HS1 := hide (HS0.out.by hb)
      clear hb
      (try clear x0 xf xz z0 zf zz m0 m1 m2 m3 m4 m5 m6 m7 mz)
      have x0 := HS1.out.at0.c1
      have xf := HS1.out.at0.frozen
      have xz := HS1.out.at0.lt
      have z0 := HS1.out.at2.c1
      have zf := HS1.out.at2.frozen
      have zz := HS1.out.at2.lt
      have mb := HS1.out.at1
      have m0 := mb.cell 0
      have m1 := mb.cell 1
      have m2 := mb.cell 2
      have m3 := mb.cell 3
      have m4 := mb.cell 4
      have m5 := mb.cell 5
      have m6 := mb.cell 6
      have m7 := mb.cell 7
      simp only [List.getElem?_toArray, List.getElem?_cons_succ, List.getElem?_cons_zero] at m0 m1 m2 m3 m4 m5 m6 m7
      have mz := mb.lt
      clear mb
      go_wp2_with fail
      refine (validMessage_c m _ _ (H7.out.below HS1.out.below) HT2.out).mono ?_
      rintro e w2 ⟨rfl, hb⟩
      rw [HV2.out]
      have HS2 := hide (HS1.out.by hb)
      clear hb
      (try clear x0 xf xz z0 zf zz m0 m1 m2 m3 m4 m5 m6 m7 mz)
      have x0 := HS2.out.at0.c1
      have xf := HS2.out.at0.frozen
      have xz := HS2.out.at0.lt
      have z0 := HS2.out.at2.c1
      have zf := HS2.out.at2.frozen
      have zz := HS2.out.at2.lt
      have mb := HS2.out.at1
      have m0 := mb.cell 0
      have m1 := mb.cell 1
      have m2 := mb.cell 2
      have m3 := mb.cell 3
      have m4 := mb.cell 4
      have m5 := mb.cell 5
      have m6 := mb.cell 6
      have m7 := mb.cell 7
      simp only [List.getElem?_toArray, List.getElem?_cons_succ, List.getElem?_cons_zero] at m0 m1 m2 m3 m4 m5 m6 m7
      have mz := mb.lt
      clear mb
      go_wp2_with fail
      have HP := hide (show imV ix m = noIx by unfold imV; rw [HOK.out]; rfl)
      refine bodyPost_ret (v := .tuple #[.agg #[.slice none 0 0], .bool false]) (by simp [results, Try.results44, go_sem, x0, xf, xz]) rfl ?_
      rw [HP.out, HOK.out]
      exact St.ret2 (cs := [.slice none 0 0]) (F := []) (St.noIx (show St w _ [blk (w.heap.size + 1 + 1) #[.slice none 0 0] 33, blk (w.heap.size + 1) #[.int .i64 m.number, .int .i64 m.sender, .int .i64 m.at_, .string m.text, .int .i64 m.edits, .bool m.gone, .int .i64 m.reply, .slice A7 m.likes.length c7] 47, blk w.heap.size #[.slice A1 ix.entries.length c1] 33] from by (repeat (first | (with_reducible exact HS2.out) | (with_reducible apply St.alloc) | (with_reducible apply St.set0) | (with_reducible apply St.set1) | (with_reducible apply St.set2) | (with_reducible apply St.set3) | (with_reducible apply St.drew) | (with_reducible apply St.drewN))); all_goals (try (first | rfl | (simp; done))))) rfl
  · have HV := hide (show validIxB ix = false by simpa using hv)
    have HOK := hide (show imOk ix m = false by unfold imOk; rw [HV.out, Bool.false_and, Bool.false_and])
    clear hv
    go_enter Try.func44, Try.ntmps44
    go_wp2_with fail
    refine (validIndex_c ix _ _ (H1.out.below HS0.out.below) HT.out).mono ?_
    rintro e w1 ⟨rfl, hb⟩
    rw [HV.out]
    have HS1 := hide (HS0.out.by hb)
    clear hb
    (try clear x0 xf xz z0 zf zz m0 m1 m2 m3 m4 m5 m6 m7 mz)
    have x0 := HS1.out.at0.c1
    have xf := HS1.out.at0.frozen
    have xz := HS1.out.at0.lt
    have z0 := HS1.out.at2.c1
    have zf := HS1.out.at2.frozen
    have zz := HS1.out.at2.lt
    have mb := HS1.out.at1
    have m0 := mb.cell 0
    have m1 := mb.cell 1
    have m2 := mb.cell 2
    have m3 := mb.cell 3
    have m4 := mb.cell 4
    have m5 := mb.cell 5
    have m6 := mb.cell 6
    have m7 := mb.cell 7
    simp only [List.getElem?_toArray, List.getElem?_cons_succ, List.getElem?_cons_zero] at m0 m1 m2 m3 m4 m5 m6 m7
    have mz := mb.lt
    clear mb
    go_wp2_with fail
    have HP := hide (show imV ix m = noIx by unfold imV; rw [HOK.out]; rfl)
    refine bodyPost_ret (v := .tuple #[.agg #[.slice none 0 0], .bool false]) (by simp [results, Try.results44, go_sem, x0, xf, xz]) rfl ?_
    rw [HP.out, HOK.out]
    exact St.ret2 (cs := [.slice none 0 0]) (F := []) (St.noIx (show St w _ [blk (w.heap.size + 1 + 1) #[.slice none 0 0] 33, blk (w.heap.size + 1) #[.int .i64 m.number, .int .i64 m.sender, .int .i64 m.at_, .string m.text, .int .i64 m.edits, .bool m.gone, .int .i64 m.reply, .slice A7 m.likes.length c7] 47, blk w.heap.size #[.slice A1 ix.entries.length c1] 33] from by (repeat (first | (with_reducible exact HS1.out) | (with_reducible apply St.alloc) | (with_reducible apply St.set0) | (with_reducible apply St.set1) | (with_reducible apply St.set2) | (with_reducible apply St.set3) | (with_reducible apply St.drew) | (with_reducible apply St.drewN))); all_goals (try (first | rfl | (simp; done))))) rfl
end Go.Proofs.Yticjphaagmnahaa
