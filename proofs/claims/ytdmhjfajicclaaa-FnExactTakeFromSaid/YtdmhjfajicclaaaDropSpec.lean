/- A box is dropped: the program's wrapper, the reference. -/
import Derived.Test.YtdmhjfajicclaaaDropBox
import Derived.Deep.RegionLaw
import Derived.Deep.DrawnRows
namespace Go.Proofs.Ytdmhjfajicclaaa
open Go Go.RowKit Go.BigFrame
set_option linter.unusedVariables false
set_option linter.unusedSimpArgs false
attribute [local go_sem ↓] Go.wp_at_zero Go.wp_at_succ
theorem changedPost0_c (g : Nat) (caps : Array Value) (f : Post → Post × Bool) (r : Post) (v1 : Value) (w : World) (R : Post → List Piece → Prop) (h1 : SliceK boxD w v1 r.boxes) (ht : okPost r)
    (eg : ∀ args w, (callFunc g args).run Try.prog w = .ok (.enter g args) w) (hu : TurnsX Try.prog postD 28 g caps (fun r => validPostB r = true) f w [] R) (ht2 : (f r).2 = true → okPost (f r).1) :
    Calls Try.prog 30 #[.agg #[.int .i64 r.limit, v1], .func (.func g) #[] caps] w (RetElem2 postD w (chP r f) (chpOk r f)) := by
  refine (changedPost_c g caps f r v1 w w [] R (St.start w) h1 ht eg hu ht2).mono ?_
  rintro e w' ⟨cs, F, X', rfl, hS, -⟩
  exact St.ret2 hS rfl
theorem drop_ok {p : Post} {t : ByteArray} (h : okPost p) : okPost (dropF t p).1 := fun b hb => h b ((List.mem_filter.1 hb).1)
/-- A valid post without a box is valid. -/
theorem adj_sub {lim : Int} {xs ys : List Box} (hr : RisesT Box.token xs) (ha : ∀ x ∈ xs, boxOkB lim x = true) (hs : ys.Sublist xs) : adjB (boxF lim) none ys = true := by
  have hp : xs.Pairwise fun x y => txLt x.token y.token = true := by
    rw [List.pairwise_iff_getElem]
    intro i j hi hj hij
    exact hr i j _ _ hij (List.getElem?_eq_getElem hi) (List.getElem?_eq_getElem hj)
  have hp2 := hp.sublist hs
  refine adj_all fun j x hj hx => ?_
  have hok : boxOkB lim x = true := ha x (hs.subset (List.mem_of_getElem? hx))
  cases j with
  | zero => exact boxF_none hok
  | succ j =>
    obtain ⟨q, hq⟩ : ∃ q, ys[j]? = some q := ⟨_, List.getElem?_eq_getElem (by omega)⟩
    rw [prevAt_succ (by omega) (by rw [Nat.add_sub_cancel]; exact hq)]
    refine boxF_some hok ?_
    obtain ⟨h1, rfl⟩ := List.getElem?_eq_some_iff.1 hq
    obtain ⟨h2, rfl⟩ := List.getElem?_eq_some_iff.1 hx
    exact List.pairwise_iff_getElem.1 hp2 j (j + 1) h1 h2 (by omega)
theorem boxes_ok {p : Post} (h : validPostB p = true) : ∀ x ∈ p.boxes, boxOkB p.limit x = true := by
  simp only [validPostB, Bool.and_eq_true] at h
  intro x hx
  obtain ⟨j, hj⟩ := List.getElem?_of_mem hx
  have h2 := (adjB_iff _ _ _).1 h.2 j x hj
  simp only [boxF, Bool.and_eq_true] at h2
  exact h2.1
theorem drop_valid {p : Post} {t : ByteArray} (hv : validPostB p = true) (hi : hasT Box.token p.boxes t = true) : chpOk p (dropF t) = true := by
  have hs : (p.boxes.filter fun b => !tokIs t b).Sublist p.boxes := List.filter_sublist
  have h2 : validPostB (dropF t p).1 = true := by
    have h := hv
    simp only [validPostB, Bool.and_eq_true, decide_eq_true_eq] at h ⊢
    refine ⟨⟨h.1.1, ?_⟩, adj_sub (rises_valid hv) (boxes_ok hv) hs⟩
    have := hs.length_le
    show (((p.boxes.filter fun b => !tokIs t b).length : Nat) : Int) ≤ 32
    omega
  simp only [chpOk, hv, h2, Bool.and_true, Bool.true_and]
  exact hi
set_option maxHeartbeats 4000000 in
set_option maxRecDepth 100000 in
theorem dropBox_c (p : Post) (t : ByteArray) (v1 : Value) (w : World) (h1 : SliceK boxD w v1 p.boxes) (ht : okPost p) :
    Calls Try.prog 10 #[.agg #[.int .i64 p.limit, v1], .string t] w (RetElem2 postD w (dropV p t) (dropOk p t)) := by
  show Calls Try.prog 10 #[.agg #[.int .i64 p.limit, v1], .string t] w (RetElem2 postD w (chP p (dropF t)) (chpOk p (dropF t)))
  obtain ⟨A1, c1, rfl⟩ := h1.shape
  have H1 := hide h1
  have HT := hide ht
  clear h1 ht
  have HS0 := hide (show St w (((w.alloc (.cells #[.int .i64 p.limit, .slice A1 p.boxes.length c1] 28)).alloc (.cells #[.string t] 9)).alloc (.cells #[.int .i64 0, .slice none 0 0] 28)) [blk (w.heap.size + 1 + 1) #[.int .i64 0, .slice none 0 0] 28, blk (w.heap.size + 1) #[.string t] 9, blk w.heap.size #[.int .i64 p.limit, .slice A1 p.boxes.length c1] 28] by (repeat (first | (with_reducible exact St.start w) | (with_reducible apply St.alloc) | (with_reducible apply St.set0) | (with_reducible apply St.set1) | (with_reducible apply St.set2) | (with_reducible apply St.set3) | (with_reducible apply St.drew) | (with_reducible apply St.drewN))); all_goals (try (first | rfl | (simp; done))))
  have HE0 := hide (St.at1 HS0.out).c1
  have eg := enters_of Try.func31 (by kernel_rfl) rfl
  go_enter Try.func10, Try.ntmps10
  go_wp2_with (
    go_at_call 30
    refine (changedPost0_c _ _ (dropF t) p _ _ _ (H1.out.below HS0.out.below) HT.out eg (dropBox1_c t _ HE0.out) (fun _ => drop_ok HT.out)).mono ?_
    rintro e w1 he
    obtain ⟨cs, F, rfl, hK, hb, hS⟩ := HS0.out.elem2 he
    obtain ⟨u1, rfl, k1⟩ := post_K hK
    obtain ⟨G1, g1, rfl⟩ := k1.shape
    have HS1 := hide hS
    (try clear x0 x1 xf xz)
    obtain ⟨x0, x1⟩ := hS.at1.c2
    have xf := hS.at1.frozen
    have xz := hS.at1.lt
    clear hK k1 hb hS he)
  refine bodyPost_ret (v := .tuple #[.agg #[.int .i64 (chP p (dropF t)).limit, .slice G1 (chP p (dropF t)).boxes.length g1], .bool (chpOk p (dropF t))]) (by simp [results, Try.results10, go_sem, x0, x1, xf, xz]) rfl ?_
  exact St.ret2 (cs := [.int .i64 (chP p (dropF t)).limit, .slice G1 (chP p (dropF t)).boxes.length g1]) (F := F) (by (repeat (first | (with_reducible exact HS1.out) | (with_reducible apply St.alloc) | (with_reducible apply St.set0) | (with_reducible apply St.set1) | (with_reducible apply St.set2) | (with_reducible apply St.set3) | (with_reducible apply St.drew) | (with_reducible apply St.drewN))); all_goals (try (first | rfl | (simp; done)))) rfl
/-- A list without its element at place i, as far as it has come. -/
def outAt {α : Type} (i : Nat) (l : List α) : List α := l.take i ++ l.drop (i + 1)
theorem outAt_zero {α : Type} (i : Nat) (l : List α) : outAt i (l.take 0) = [] := by simp [outAt]
theorem outAt_len {α : Type} (i : Nat) (l : List α) : (outAt i l).length ≤ l.length := by simp [outAt]; omega
theorem outAt_skip {α : Type} {l : List α} {i : Nat} {x : α} (hx : l[i]? = some x) : outAt i (l.take (i + 1)) = outAt i (l.take i) := by
  obtain ⟨hl, rfl⟩ := List.getElem?_eq_some_iff.1 hx
  unfold outAt
  rw [List.take_take, List.take_take, Nat.min_eq_left (by omega), Nat.min_self, List.drop_eq_nil_of_le (by rw [List.length_take]; omega), List.drop_eq_nil_of_le (by rw [List.length_take]; omega)]
theorem outAt_keep {α : Type} {l : List α} {i k : Nat} {x : α} (hx : l[k]? = some x) (hne : k ≠ i) : outAt i (l.take (k + 1)) = outAt i (l.take k) ++ [x] := by
  obtain ⟨hl, rfl⟩ := List.getElem?_eq_some_iff.1 hx
  unfold outAt
  rw [List.take_succ_eq_append_getElem hl]
  have h1 : (l.take k).length = k := by rw [List.length_take]; omega
  by_cases h : k < i
  · have e1 : (l.take k ++ [l[k]]).take i = l.take k ++ [l[k]] := List.take_of_length_le (by rw [List.length_append, h1]; simp; omega)
    have e2 : (l.take k).take i = l.take k := List.take_of_length_le (by omega)
    have e3 : (l.take k ++ [l[k]]).drop (i + 1) = [] := List.drop_eq_nil_of_le (by rw [List.length_append, h1]; simp; omega)
    have e4 : (l.take k).drop (i + 1) = [] := List.drop_eq_nil_of_le (by omega)
    rw [e1, e2, e3, e4]; simp
  · have e5 : (l.take k ++ [l[k]]).take i = (l.take k).take i := List.take_append_of_le_length (by omega)
    have e6 : (l.take k ++ [l[k]]).drop (i + 1) = (l.take k).drop (i + 1) ++ [l[k]] := List.drop_append_of_le_length (by omega)
    rw [e5, e6, List.append_assoc]
/-- A post by value of one's own, open. -/
theorem St.postParts {w0 w : World} {L : List Piece} {p : Post} {v : Value} {F : List Nat} (h : St w0 w (ownD postD p [.int .i64 p.limit, v] F :: L)) : ∃ (rs : List (Raw 4)) (F1 : List Nat) (Fs : List (List Nat)), rs.length = p.boxes.length ∧
    St w0 w (own (rawD 4) 53 v rs F1 :: heldsP boxD p.boxes rs Fs :: L) := by
  obtain ⟨u, F9, hu, rfl, hs⟩ := post_M h.head
  simp only [List.cons.injEq, and_true, true_and] at hu
  subst hu
  have h2 : St w0 w (own boxD 53 v p.boxes F :: L) := by
    refine ⟨h.below, fun q hq => ?_, h.nodup, h.ge⟩
    rcases List.mem_cons.1 hq with rfl | hq
    · exact hs
    · exact h.drop.all q hq
  obtain ⟨rs, Fs, F2, hl, h3⟩ := St.split (d := boxD) h2
  exact ⟨rs, F2, Fs, hl, h3⟩
set_option maxHeartbeats 8000000 in
set_option maxRecDepth 100000 in
theorem specDropBox_c (p : Post) (t : ByteArray) (v1 : Value) (w : World) (h1 : SliceK boxD w v1 p.boxes) (ht : okPost p) :
    Calls Try.prog 8 #[.agg #[.int .i64 p.limit, v1], .string t] w (RetElem2 postD w (dropV p t) (dropOk p t)) := by
  show Calls Try.prog 8 #[.agg #[.int .i64 p.limit, v1], .string t] w (RetElem2 postD w (chP p (dropF t)) (chpOk p (dropF t)))
  obtain ⟨A1, c1, rfl⟩ := h1.shape
  have H1 := hide h1
  have HT := hide ht
  clear h1 ht
  have HS0 := hide (show St w ((w.alloc (.cells #[.int .i64 p.limit, .slice A1 p.boxes.length c1] 28)).alloc (.cells #[.int .i64 0, .slice none 0 0] 28)) (blk (w.heap.size + 1) #[.int .i64 0, .slice none 0 0] 28 :: [blk w.heap.size #[.int .i64 p.limit, .slice A1 p.boxes.length c1] 28]) by (repeat (first | (with_reducible exact St.start w) | (with_reducible apply St.alloc) | (with_reducible apply St.set0) | (with_reducible apply St.set1) | (with_reducible apply St.set2) | (with_reducible apply St.set3) | (with_reducible apply St.drew) | (with_reducible apply St.drewN))); all_goals (try (first | rfl | (simp; done))))
  (try clear x0 x1 xf xz)
  obtain ⟨x0, x1⟩ := HS0.out.at0.c2
  have xf := HS0.out.at0.frozen
  have xz := HS0.out.at0.lt
  obtain ⟨y0, y1⟩ := HS0.out.at1.c2
  have yz := HS0.out.at1.lt
  by_cases hv : validPostB p = true
  · have HV := hide hv
    have HR := hide (rises_valid hv)
    have HFEW := hide (fewP_of hv)
    have hlen := (fewP_of hv).1
    by_cases hi : hasT Box.token p.boxes t = true
    · obtain ⟨i, x, hx, hxt⟩ : ∃ (i : Nat) (x : Box), p.boxes[i]? = some x ∧ x.token = t := by
        unfold hasT at hi
        rw [List.any_eq_true] at hi
        obtain ⟨x, hm, he⟩ := hi
        obtain ⟨i, hi⟩ := List.getElem?_of_mem hm
        exact ⟨i, x, hi, by simpa using he⟩
      have HXI := hide (And.intro hx hxt)
      have HI := hide (idx_one HR.out hx hxt)
      have HFI := hide (filt_one HR.out hx hxt)
      have HOK := hide (show chpOk p (dropF t) = true from drop_valid hv hi)
      have hin : (0 : Int) ≤ (i : Int) := by omega
      clear hv hi hx hxt
      go_enter Try.func8, Try.ntmps8
      go_wp2_with (first
        | (go_at_call 26
           refine (l04Is_c p _ _ _ (Blk.rowAt (d := postD) (x := p) (St.at1 HS0.out) (post_K_mk (H1.out.below HS0.out.below)) rfl) HT.out).mono ?_
           rintro e w1 ⟨rfl, hb⟩
           rw [HV.out]
           have HS1 := hide (HS0.out.by hb)
           (try clear x0 x1 xf xz)
           obtain ⟨x0, x1⟩ := HS1.out.at0.c2
           have xf := HS1.out.at0.frozen
           have xz := HS1.out.at0.lt
           obtain ⟨y0, y1⟩ := HS1.out.at1.c2
           have yz := HS1.out.at1.lt
           clear hb)
        | (go_at_call 27; refine (l04Find_c p _ _ t _ (Blk.rowAt (d := postD) (x := p) (St.at1 HS1.out) (post_K_mk (H1.out.below HS1.out.below)) rfl)).mono ?_; rintro e w' ⟨rfl, rfl⟩; rw [HI.out])
        | (go_at_call 28
           refine (l04Copy_c p _ _ _ (Blk.rowAt (d := postD) (x := p) (St.at1 HS1.out) (post_K_mk (H1.out.below HS1.out.below)) rfl) HFEW.out).mono ?_
           rintro e w2 he
           obtain ⟨cs, F, rfl, hK, hb, hS⟩ := HS1.out.elem he
           obtain ⟨u1, rfl, k1⟩ := post_K hK
           obtain ⟨B1, e1, rfl⟩ := k1.shape
           obtain ⟨rs, F1, Fs, hrl, hP⟩ := hS.postParts
           have HP := hide hP
           have HRL := hide hrl
           (try clear x0 x1 xf xz)
           obtain ⟨x0, x1⟩ := (St.at2 hP).c2
           have xf := (St.at2 hP).frozen
           have xz := (St.at2 hP).lt
           (try clear y0 y1 yz)
           obtain ⟨y0, y1⟩ := (St.at3 hP).c2
           have yz := (St.at3 hP).lt
           clear hK k1 hb hS he hrl hP))
      go_loopg [8] p.boxes.length (fun gg s8 wr => ∃ (k : Nat) (A9 : Option Addr) (c9 : Nat) (F9 : List Nat), k ≤ p.boxes.length ∧ p.boxes.length - k ≤ gg ∧ s8 = .int .i64 k ∧ Hid (St w wr (own (rawD 4) 53 (.slice A9 (outAt i (rs.take k)).length c9) (outAt i (rs.take k)) F9 :: blk (w2.heap.size + 1 + 1) #[.int .i64 p.limit, .slice A9 (outAt i (rs.take k)).length c9] 28 :: blk w2.heap.size #[.int .i64 p.limit, .slice B1 p.boxes.length e1] 28 :: own (rawD 4) 53 (.slice B1 p.boxes.length e1) rs F1 :: heldsP boxD p.boxes rs Fs :: blk (w.heap.size + 1) #[.int .i64 0, .slice none 0 0] 28 :: [blk w.heap.size #[.int .i64 p.limit, .slice A1 p.boxes.length c1] 28])))
      case atStart =>
        exact ⟨0, some ⟨w2.heap.size + 1, 0, none⟩, 0, [w2.heap.size + 1], Nat.zero_le _, by omega, rfl, hide (by rw [outAt_zero]; exact St.empty (St.pull1 (show St w _ (blk (w2.heap.size + 1 + 1) #[.int .i64 p.limit, .slice (some ⟨w2.heap.size + 1, 0, none⟩) 0 0] 28 :: blk (w2.heap.size + 1) #[] 53 :: blk w2.heap.size #[.int .i64 p.limit, .slice B1 p.boxes.length e1] 28 :: own (rawD 4) 53 (.slice B1 p.boxes.length e1) rs F1 :: heldsP boxD p.boxes rs Fs :: blk (w.heap.size + 1) #[.int .i64 0, .slice none 0 0] 28 :: [blk w.heap.size #[.int .i64 p.limit, .slice A1 p.boxes.length c1] 28]) from by (repeat (first | (with_reducible exact HP.out) | (with_reducible apply St.alloc) | (with_reducible apply St.set0) | (with_reducible apply St.set1) | (with_reducible apply St.set2) | (with_reducible apply St.set3) | (with_reducible apply St.drew) | (with_reducible apply St.drewN))); all_goals (try (first | rfl | (simp; done))))))⟩
      case round =>
        obtain ⟨k, A9, c9, F9, hk, hg, rfl, HS⟩ := hrel
        have hol := outAt_len i (rs.take k)
        have hol2 : (rs.take k).length ≤ k := List.length_take_le k rs
        have hol3 : (outAt i (rs.take k)).length < 1048576 := by omega
        clear hol hol2
        (try clear x0 x1 xf xz)
        obtain ⟨x0, x1⟩ := (St.at1 HS.out).c2
        have xf := (St.at1 HS.out).frozen
        have xz := (St.at1 HS.out).lt
        (try clear y0 y1 yz)
        obtain ⟨y0, y1⟩ := (St.at2 HS.out).c2
        have yz := (St.at2 HS.out).lt
        by_cases hlt : k < p.boxes.length
        · obtain ⟨m, hx⟩ : ∃ m, p.boxes[k]? = some m := ⟨_, List.getElem?_eq_getElem hlt⟩
          obtain ⟨A3, c3, hr, -⟩ := St.boxAt (h := HS.out.drop.drop.drop.drop) hx
          obtain ⟨⟨q, rfl⟩, -, hle⟩ := St.hasBlk (d := rawD 4) rfl HS.out.pull3 hr
          obtain ⟨hcw, hfw, hzw⟩ := St.flatCell (d := rawD 4) (k := k) (x := boxRaw m A3 m.held.length c3) rfl (show St w wr (own (rawD 4) _ (.slice (some ⟨q, 0, none⟩) rs.length e1) rs F1 :: _) by rw [HRL.out]; exact HS.out.pull3) hr
          obtain ⟨hc0, hc1, hc2, hc3⟩ : wr.cell? ⟨q, k * 4, none⟩ = some (.string m.token) ∧ wr.cell? ⟨q, k * 4 + 1, none⟩ = some (.int .i64 m.member) ∧ wr.cell? ⟨q, k * 4 + 2, none⟩ = some (.int .i64 m.missed) ∧ wr.cell? ⟨q, k * 4 + 3, none⟩ = some (.slice A3 m.held.length c3) := ⟨hcw 0 _ rfl, hcw 1 _ rfl, hcw 2 _ rfl, hcw 3 _ rfl⟩
          have HX := hide hx
          have HRK := hide hr
          have hlt2 : (k : Int) < (p.boxes.length : Int) := by omega
          clear hx hr hcw
          by_cases hmt : m.token = t
          · have hki : k = i := only_one HR.out HXI.out.1 HXI.out.2 k m HX.out hmt
            have hne : (m.token.toList == t.toList) = true := by rw [hmt]; simp
            have HEQ := hide (show outAt i (rs.take (k + 1)) = outAt i (rs.take k) by rw [hki]; exact outAt_skip (hki ▸ HRK.out))
            clear hmt hki
            go_wp2_with fail
            go_roundg (p.boxes.length - (k + 1))
            case measure => omega
            case rel => exact ⟨k + 1, A9, c9, F9, by omega, by omega, by go_num, by rw [HEQ.out]; exact HS⟩
          · have hki : k ≠ i := fun e => by
              subst e
              have h := HX.out
              rw [HXI.out.1] at h; cases h
              exact hmt HXI.out.2
            have hne : (m.token.toList == t.toList) = false := by rw [beq_eq_false_iff_ne]; exact fun h => hmt (tx_eq h)
            have HEQ := hide (outAt_keep HRK.out hki)
            clear hmt hki
            go_wp2_with fail
            go_region_law (
              refine step_app_st (d := rawD 4) (w0 := w) rfl rfl (.tmp 38) (.tmp 44) 26 rfl (.agg #[(.string ⟨#[]⟩), (.int .i64 0), (.int .i64 0), (.slice none 0 0)]) 56 Try.underlying26 infoRaw rfl (by omega) (by omega) (.slice A9 (outAt i (rs.take k)).length c9) (outAt i (rs.take k)) F9 (by simp [Act.eval, Act.put]) wr.heap.size #[.string m.token, .int .i64 m.member, .int .i64 m.missed, .slice A3 m.held.length c3] (by (repeat (first | (with_reducible exact HS.out) | (with_reducible apply St.alloc) | (with_reducible apply St.set0) | (with_reducible apply St.set1) | (with_reducible apply St.set2) | (with_reducible apply St.set3) | (with_reducible apply St.drew) | (with_reducible apply St.drewN))); all_goals (try (first | rfl | (simp; done)))) 1 (by simp [Act.eval, Act.put]) (boxRaw m A3 m.held.length c3) rfl hol3 ?_
              intro g4 cap4 w4 F4 hS
              have HS4 := hide hS
              (try clear x0 x1 xf xz)
              obtain ⟨x0, x1⟩ := (St.at1 hS).c2
              have xf := (St.at1 hS).frozen
              have xz := (St.at1 hS).lt
              clear hS)
            all_goals
              go_wp2_with fail
              go_roundg (p.boxes.length - (k + 1))
              case measure => omega
              case rel =>
                have hl9 : (outAt i (rs.take (k + 1))).length = (outAt i (rs.take k)).length + 1 := by rw [HEQ.out]; simp
                refine ⟨k + 1, some ⟨g4, 0, none⟩, cap4, F4, by omega, by omega, by go_num, hide ?_⟩
                rw [hl9, HEQ.out]
                (repeat (first | (with_reducible exact HS4.out) | (with_reducible apply St.alloc) | (with_reducible apply St.set0) | (with_reducible apply St.set1) | (with_reducible apply St.set2) | (with_reducible apply St.set3) | (with_reducible apply St.drew) | (with_reducible apply St.drewN))); all_goals (try (first | rfl | (simp; done)))
        · obtain rfl : k = p.boxes.length := by omega
          rw [← HRL.out, List.take_length, HRL.out] at HS
          rw [← HRL.out, List.take_length] at x1
          clear hlt hk hg
          obtain ⟨A5, c5, G5, Fs5, -, h4⟩ := St.boxCut HS.out.pull4 HXI.out.1
          rw [← HFI.out] at h4
          obtain ⟨F, hD⟩ := St.post (p := (dropF t p).1) h4.drop.pull1
          have HD := hide (show St w wr (ownD postD (dropF t p).1 [.int .i64 p.limit, .slice A9 (outAt i rs).length c9] F :: _) from hD.drop2.drop2)
          (try clear x0 x1 xf xz)
          obtain ⟨x0, x1⟩ := (St.at1 HD.out).c2
          have xf := (St.at1 HD.out).frozen
          have xz := (St.at1 HD.out).lt
          obtain ⟨r0, r1⟩ := (St.at2 HD.out).c2
          have rf := (St.at2 HD.out).frozen
          have rz := (St.at2 HD.out).lt
          clear h4 hD
          go_wp2_with fail
          refine bodyPost_ret (v := .tuple #[.agg #[.int .i64 p.limit, .slice A9 (outAt i rs).length c9], .bool true]) (by simp [results, Try.results8, go_sem, x0, x1, xf, xz, r0, r1, rf, rz]) rfl ?_
          rw [chP_yes HOK.out, HOK.out]
          exact St.ret2 (cs := [.int .i64 p.limit, .slice A9 (outAt i rs).length c9]) (F := F) (show St w _ (_ :: blk (w2.heap.size + 1 + 1) #[.int .i64 p.limit, .slice A9 (outAt i rs).length c9] 28 :: blk (w.heap.size + 1) #[.int .i64 p.limit, .slice A9 (outAt i rs).length c9] 28 :: [blk w.heap.size #[.int .i64 p.limit, .slice A1 p.boxes.length c1] 28]) from by (repeat (first | (with_reducible exact HD.out) | (with_reducible apply St.alloc) | (with_reducible apply St.set0) | (with_reducible apply St.set1) | (with_reducible apply St.set2) | (with_reducible apply St.set3) | (with_reducible apply St.drew) | (with_reducible apply St.drewN))); all_goals (try (first | rfl | (simp; done)))) rfl
    · have HI := hide (show hasT Box.token p.boxes t = false by simpa using hi)
      have hneg : idxP (tokIs t) p.boxes < 0 := by
        have h := HI.out
        rw [idx_has, decide_eq_false_iff_not] at h; omega
      have HOK := hide (show chpOk p (dropF t) = false by simp [chpOk, dropF, HI.out])
      clear hv hi
      go_enter Try.func8, Try.ntmps8
      go_wp2_with (first
        | (go_at_call 26
           refine (l04Is_c p _ _ _ (Blk.rowAt (d := postD) (x := p) (St.at1 HS0.out) (post_K_mk (H1.out.below HS0.out.below)) rfl) HT.out).mono ?_
           rintro e w1 ⟨rfl, hb⟩
           rw [HV.out]
           have HS1 := hide (HS0.out.by hb)
           (try clear x0 x1 xf xz)
           obtain ⟨x0, x1⟩ := HS1.out.at0.c2
           have xf := HS1.out.at0.frozen
           have xz := HS1.out.at0.lt
           obtain ⟨y0, y1⟩ := HS1.out.at1.c2
           have yz := HS1.out.at1.lt
           clear hb)
        | (go_at_call 27; refine (l04Find_c p _ _ t _ (Blk.rowAt (d := postD) (x := p) (St.at1 HS1.out) (post_K_mk (H1.out.below HS1.out.below)) rfl)).mono ?_; rintro e w' ⟨rfl, rfl⟩))
      refine bodyPost_ret (v := .tuple #[.agg #[.int .i64 0, .slice none 0 0], .bool false]) (by simp [results, Try.results8, go_sem, x0, x1, xf, xz]) rfl ?_
      rw [chP_no HOK.out, HOK.out]
      exact St.ret2 (cs := [.int .i64 0, .slice none 0 0]) (F := []) (St.noPost (by (repeat (first | (with_reducible exact HS1.out) | (with_reducible apply St.alloc) | (with_reducible apply St.set0) | (with_reducible apply St.set1) | (with_reducible apply St.set2) | (with_reducible apply St.set3) | (with_reducible apply St.drew) | (with_reducible apply St.drewN))); all_goals (try (first | rfl | (simp; done))))) rfl
  · have HV := hide (show validPostB p = false by simpa using hv)
    have HOK := hide (show chpOk p (dropF t) = false by simp [chpOk, HV.out])
    clear hv
    go_enter Try.func8, Try.ntmps8
    go_wp2_with (first
      | (go_at_call 26
         refine (l04Is_c p _ _ _ (Blk.rowAt (d := postD) (x := p) (St.at1 HS0.out) (post_K_mk (H1.out.below HS0.out.below)) rfl) HT.out).mono ?_
         rintro e w1 ⟨rfl, hb⟩
         rw [HV.out]
         have HS1 := hide (HS0.out.by hb)
         (try clear x0 x1 xf xz)
         obtain ⟨x0, x1⟩ := HS1.out.at0.c2
         have xf := HS1.out.at0.frozen
         have xz := HS1.out.at0.lt
         obtain ⟨y0, y1⟩ := HS1.out.at1.c2
         have yz := HS1.out.at1.lt
         clear hb))
    refine bodyPost_ret (v := .tuple #[.agg #[.int .i64 0, .slice none 0 0], .bool false]) (by simp [results, Try.results8, go_sem, x0, x1, xf, xz]) rfl ?_
    rw [chP_no HOK.out, HOK.out]
    exact St.ret2 (cs := [.int .i64 0, .slice none 0 0]) (F := []) (St.noPost (by (repeat (first | (with_reducible exact HS1.out) | (with_reducible apply St.alloc) | (with_reducible apply St.set0) | (with_reducible apply St.set1) | (with_reducible apply St.set2) | (with_reducible apply St.set3) | (with_reducible apply St.drew) | (with_reducible apply St.drewN))); all_goals (try (first | rfl | (simp; done))))) rfl
end Go.Proofs.Ytdmhjfajicclaaa
