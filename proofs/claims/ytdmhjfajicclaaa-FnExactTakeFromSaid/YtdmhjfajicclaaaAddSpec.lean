/- A box is added: the program's wrapper, the reference. -/
import Derived.Test.YtdmhjfajicclaaaAddBox
import Derived.Deep.RegionLaw
import Derived.Deep.DrawnRows
namespace Go.Proofs.Ytdmhjfajicclaaa
open Go Go.RowKit Go.BigFrame
set_option linter.unusedVariables false
set_option linter.unusedSimpArgs false
attribute [local go_sem ↓] Go.wp_at_zero Go.wp_at_succ
theorem add_ok {p : Post} {t : ByteArray} {n : Int} (h : okPost p) (hs : t.size ≤ 9223372036854775807) : okPost (addF t n p).1 := fun b hb => by
  have hb : b ∈ p.boxes.take (lbI t p.boxes) ++ newB t n :: p.boxes.drop (lbI t p.boxes) := hb
  rw [List.mem_append, List.mem_cons] at hb
  rcases hb with hb | rfl | hb
  · exact h b (List.mem_of_mem_take hb)
  · exact hs
  · exact h b (List.mem_of_mem_drop hb)
set_option maxHeartbeats 4000000 in
set_option maxRecDepth 100000 in
theorem addBox_c (p : Post) (t : ByteArray) (n : Int) (v1 : Value) (w : World) (h1 : SliceK boxD w v1 p.boxes) (ht : okPost p) (hs : t.size ≤ 9223372036854775807) :
    Calls Try.prog 24 #[.agg #[.int .i64 p.limit, v1], .string t, .int .i64 n] w (RetElem2 postD w (addV p t n) (addOk p t n)) := by
  show Calls Try.prog 24 #[.agg #[.int .i64 p.limit, v1], .string t, .int .i64 n] w (RetElem2 postD w (chP p (addF t n)) (chpOk p (addF t n)))
  obtain ⟨A1, c1, rfl⟩ := h1.shape
  have H1 := hide h1
  have HT := hide ht
  clear h1 ht
  have HS0 := hide (show St w ((((w.alloc (.cells #[.int .i64 p.limit, .slice A1 p.boxes.length c1] 28)).alloc (.cells #[.string t] 9)).alloc (.cells #[.int .i64 n] 2)).alloc (.cells #[.int .i64 0, .slice none 0 0] 28)) [blk (w.heap.size + 1 + 1 + 1) #[.int .i64 0, .slice none 0 0] 28, blk (w.heap.size + 1 + 1) #[.int .i64 n] 2, blk (w.heap.size + 1) #[.string t] 9, blk w.heap.size #[.int .i64 p.limit, .slice A1 p.boxes.length c1] 28] by (repeat (first | (with_reducible exact St.start w) | (with_reducible apply St.alloc) | (with_reducible apply St.set0) | (with_reducible apply St.set1) | (with_reducible apply St.set2) | (with_reducible apply St.set3) | (with_reducible apply St.drew) | (with_reducible apply St.drewN))); all_goals (try (first | rfl | (simp; done))))
  have HE0 := hide (St.at2 HS0.out).c1
  have HE1 := hide (St.at1 HS0.out).c1
  have eg := enters_of Try.func51 (by kernel_rfl) rfl
  go_enter Try.func24, Try.ntmps24
  go_wp2_with (
    go_at_call 30
    refine (changedPost0_c _ _ (addF t n) p _ _ _ (H1.out.below HS0.out.below) HT.out eg (addBox1_c t n _ HE0.out HE1.out) (fun _ => add_ok HT.out hs)).mono ?_
    rintro e w1 he
    obtain ⟨cs, F, rfl, hK, hb, hS⟩ := HS0.out.elem2 he
    obtain ⟨u1, rfl, k1⟩ := post_K hK
    obtain ⟨G1, g1, rfl⟩ := k1.shape
    have HS1 := hide hS
    (try clear x0 x1 xf xz)
    obtain ⟨x0, x1⟩ := hS.at1.c2
    have xf := hS.at1.frozen
    have xz := hS.at1.lt
    clear hK k1 hb hS he)
  refine bodyPost_ret (v := .tuple #[.agg #[.int .i64 (chP p (addF t n)).limit, .slice G1 (chP p (addF t n)).boxes.length g1], .bool (chpOk p (addF t n))]) (by simp [results, Try.results24, go_sem, x0, x1, xf, xz]) rfl ?_
  exact St.ret2 (cs := [.int .i64 (chP p (addF t n)).limit, .slice G1 (chP p (addF t n)).boxes.length g1]) (F := F) (by (repeat (first | (with_reducible exact HS1.out) | (with_reducible apply St.alloc) | (with_reducible apply St.set0) | (with_reducible apply St.set1) | (with_reducible apply St.set2) | (with_reducible apply St.set3) | (with_reducible apply St.drew) | (with_reducible apply St.drewN))); all_goals (try (first | rfl | (simp; done)))) rfl
/-- How far the reference has come: what is out, and what the new box holds. -/
def AddAt (t : ByteArray) (n : Int) (i : Nat) (rs : List (Raw 4)) (k : Nat) (put : Bool) (outs : List (Raw 4)) (N : List Piece) : Prop :=
  (put = false ∧ k ≤ i ∧ outs = rs.take k ∧ N = []) ∨
  (put = true ∧ i < k ∧ ∃ h, N = [own parcelD 68 (.slice (some ⟨h, 0, none⟩) 0 0) [] [h]] ∧ outs = rs.take i ++ boxRaw (newB t n) (some ⟨h, 0, none⟩) 0 0 :: (rs.take k).drop i)
theorem AddAt.len {t : ByteArray} {n : Int} {i k : Nat} {rs outs : List (Raw 4)} {put : Bool} {N : List Piece} (h : AddAt t n i rs k put outs N) : outs.length ≤ k + 1 + i := by
  rcases h with ⟨_, _, rfl, _⟩ | ⟨_, _, _, _, rfl⟩
  · have := List.length_take_le k rs; omega
  · have := List.length_take_le k rs
    have := List.length_take_le i rs
    simp only [List.length_append, List.length_cons, List.length_drop]; omega
theorem AddAt.keep {t : ByteArray} {n : Int} {i k : Nat} {rs outs : List (Raw 4)} {N : List Piece} {r : Raw 4} (h : AddAt t n i rs k false outs N) (hr : rs[k]? = some r) (hk : k < i) : AddAt t n i rs (k + 1) false (outs ++ [r]) N := by
  rcases h with ⟨_, _, rfl, hN⟩ | ⟨h0, _⟩
  · obtain ⟨hl, rfl⟩ := List.getElem?_eq_some_iff.1 hr
    exact .inl ⟨rfl, hk, (List.take_succ_eq_append_getElem hl).symm, hN⟩
  · cases h0
theorem AddAt.more {t : ByteArray} {n : Int} {i k : Nat} {rs outs : List (Raw 4)} {N : List Piece} {r : Raw 4} (h : AddAt t n i rs k true outs N) (hr : rs[k]? = some r) : AddAt t n i rs (k + 1) true (outs ++ [r]) N := by
  rcases h with ⟨h0, _⟩ | ⟨_, hk, b, hN, rfl⟩
  · cases h0
  · obtain ⟨hl, rfl⟩ := List.getElem?_eq_some_iff.1 hr
    refine .inr ⟨rfl, by omega, b, hN, ?_⟩
    rw [List.take_succ_eq_append_getElem hl, List.drop_append_of_le_length (by rw [List.length_take]; omega)]
    simp
theorem AddAt.put {t : ByteArray} {n : Int} {k h : Nat} {rs outs : List (Raw 4)} {N : List Piece} {r : Raw 4} (ha : AddAt t n k rs k false outs N) (hr : rs[k]? = some r) : AddAt t n k rs (k + 1) true (outs ++ [boxRaw (newB t n) (some ⟨h, 0, none⟩) 0 0] ++ [r]) [own parcelD 68 (.slice (some ⟨h, 0, none⟩) 0 0) [] [h]] := by
  rcases ha with ⟨_, _, rfl, hN⟩ | ⟨h0, _⟩
  · obtain ⟨hl, rfl⟩ := List.getElem?_eq_some_iff.1 hr
    refine .inr ⟨rfl, by omega, h, rfl, ?_⟩
    have e1 : (rs.take (k + 1)).drop k = [rs[k]] := by
      rw [List.take_succ_eq_append_getElem hl, List.drop_append_of_le_length (by rw [List.length_take]; omega), List.drop_eq_nil_of_le (by rw [List.length_take]; omega)]; rfl
    rw [e1]; simp
  · cases h0
theorem AddAt.done {t : ByteArray} {n : Int} {i : Nat} {rs outs : List (Raw 4)} {N : List Piece} (ha : AddAt t n i rs rs.length true outs N) : ∃ h, N = [own parcelD 68 (.slice (some ⟨h, 0, none⟩) 0 0) [] [h]] ∧ outs = rs.take i ++ boxRaw (newB t n) (some ⟨h, 0, none⟩) 0 0 :: rs.drop i := by
  rcases ha with ⟨h0, _⟩ | ⟨_, _, h, hN, ho⟩
  · cases h0
  · rw [List.take_length] at ho; exact ⟨h, hN, ho⟩
theorem AddAt.last {t : ByteArray} {n : Int} {i h : Nat} {rs outs : List (Raw 4)} {N : List Piece} (hi : i ≤ rs.length) (ha : AddAt t n i rs rs.length false outs N) : N = [] ∧ outs ++ [boxRaw (newB t n) (some ⟨h, 0, none⟩) 0 0] = rs.take i ++ boxRaw (newB t n) (some ⟨h, 0, none⟩) 0 0 :: rs.drop i := by
  rcases ha with ⟨_, hk, rfl, hN⟩ | ⟨h0, _⟩
  · obtain rfl : i = rs.length := by omega
    refine ⟨hN, ?_⟩
    rw [List.drop_length, List.take_length]
  · cases h0
theorem St.toEnd1 {w0 w : World} {A B : Piece} {L : List Piece} (h : St w0 w (A :: B :: L)) : St w0 w (A :: (L ++ [B])) := h.perm (List.Perm.cons _ (List.perm_append_comm (l₁ := [B])))
theorem St.fromEnd1 {w0 w : World} {B : Piece} {L : List Piece} (h : St w0 w (L ++ [B])) : St w0 w (B :: L) := h.perm (List.perm_append_comm (l₂ := [B]))
theorem St.pull5 {w0 w : World} {A B C D E G : Piece} {L : List Piece} (h : St w0 w (A :: B :: C :: D :: E :: G :: L)) : St w0 w (G :: A :: B :: C :: D :: E :: L) :=
  St.pull1 (h.perm (List.Perm.cons _ (((List.Perm.cons _ ((List.Perm.cons _ ((List.Perm.cons _ (List.Perm.swap _ _ _)).trans (List.Perm.swap _ _ _))).trans (List.Perm.swap _ _ _))).trans (List.Perm.swap _ _ _)))))
theorem giveYes_st {w0 W : World} {L : List Piece} {p : Post} {lim : Int} {v : Value} (hl : p.limit = lim) (hD : ∃ F', St w0 W (ownD postD p [.int .i64 lim, v] F' :: L)) (hv : validPostB p = true) (ht : okPost p) :
    Calls Try.prog 45 #[.agg #[.int .i64 lim, v]] W fun e W' => e = .returned (.tuple #[.agg #[.int .i64 lim, v], .bool true]) ∧ ∃ F', St w0 W' (ownD postD p [.int .i64 lim, v] F' :: L) := by
  subst hl
  obtain ⟨F, h⟩ := hD
  obtain ⟨u, hu, hk⟩ := post_K (postD.M_K h.head)
  simp only [List.cons.injEq, and_true, true_and] at hu
  subst hu
  refine (l04Give_yes p v W hk hv ht).mono ?_
  rintro e W' ⟨rfl, hb⟩
  exact ⟨rfl, F, h.by hb⟩
theorem giveNo_st {w0 W : World} {L : List Piece} {p : Post} {lim : Int} {v : Value} (hl : p.limit = lim) (hD : ∃ F', St w0 W (ownD postD p [.int .i64 lim, v] F' :: L)) (hv : validPostB p = false) (ht : okPost p) :
    Calls Try.prog 45 #[.agg #[.int .i64 lim, v]] W fun e W' => e = .returned (.tuple #[.agg #[.int .i64 0, .slice none 0 0], .bool false]) ∧ ∃ F', St w0 W' (ownD postD p [.int .i64 lim, v] F' :: L) := by
  subst hl
  obtain ⟨F, h⟩ := hD
  obtain ⟨u, hu, hk⟩ := post_K (postD.M_K h.head)
  simp only [List.cons.injEq, and_true, true_and] at hu
  subst hu
  refine (l04Give_no p v W hk hv ht).mono ?_
  rintro e W' ⟨rfl, hb⟩
  exact ⟨rfl, F, h.by hb⟩
/-- All is out: the post by value. -/
theorem St.addDone {w0 w : World} {L : List Piece} {p : Post} {t : ByteArray} {n : Int} {rs outs : List (Raw 4)} {Fs : List (List Nat)} {F : List Nat} {h : Nat} {v : Value} (ho : outs = rs.take (lbI t p.boxes) ++ boxRaw (newB t n) (some ⟨h, 0, none⟩) 0 0 :: rs.drop (lbI t p.boxes))
    (hS : St w0 w (own parcelD 68 (.slice (some ⟨h, 0, none⟩) 0 0) [] [h] :: heldsP boxD p.boxes rs Fs :: own (rawD 4) 53 v outs F :: L)) : ∃ F', St w0 w (ownD postD (addF t n p).1 [.int .i64 p.limit, v] F' :: L) := by
  obtain ⟨Fs5, h4⟩ := St.boxIns (i := lbI t p.boxes) (x := newB t n) (A := some ⟨h, 0, none⟩) (c := 0) (G := [h]) hS
  subst ho
  exact St.post (p := (addF t n p).1) h4.pull1
set_option maxHeartbeats 16000000 in
set_option maxRecDepth 100000 in
theorem specAddBox_c (p : Post) (t : ByteArray) (n : Int) (v1 : Value) (w : World) (h1 : SliceK boxD w v1 p.boxes) (ht : okPost p) (hs : t.size ≤ 9223372036854775807) :
    Calls Try.prog 23 #[.agg #[.int .i64 p.limit, v1], .string t, .int .i64 n] w (RetElem2 postD w (addV p t n) (addOk p t n)) := by
  show Calls Try.prog 23 #[.agg #[.int .i64 p.limit, v1], .string t, .int .i64 n] w (RetElem2 postD w (chP p (addF t n)) (chpOk p (addF t n)))
  obtain ⟨A1, c1, rfl⟩ := h1.shape
  have H1 := hide h1
  have HT := hide ht
  clear h1 ht
  have HS0 := hide (show St w ((w.alloc (.cells #[.int .i64 p.limit, .slice A1 p.boxes.length c1] 28)).alloc (.cells #[.int .i64 0, .slice none 0 0] 28)) (blk (w.heap.size + 1) #[.int .i64 0, .slice none 0 0] 28 :: [blk w.heap.size #[.int .i64 p.limit, .slice A1 p.boxes.length c1] 28]) by (repeat (first | (with_reducible exact St.start w) | (with_reducible apply St.alloc) | (with_reducible apply St.set0) | (with_reducible apply St.set1) | (with_reducible apply St.set2) | (with_reducible apply St.set3) | (with_reducible apply St.drew) | (with_reducible apply St.drewN))); all_goals (try (first | rfl | (simp; done))))
  (try clear x0 x1 xf xz)
  obtain ⟨x0, x1⟩ := HS0.out.at0.c2
  have xf := HS0.out.at0.frozen
  have xz := HS0.out.at0.lt
  obtain ⟨y0, y1⟩ := HS0.out.at1.c2
  have yz := HS0.out.at1.lt
  by_cases hv : validPostB p = true
  · have HV := hide hv
    have HR := hide (rises_valid hv)
    have HFEW := hide (fewP_of hv)
    have hlen := (fewP_of hv).1
    by_cases hi : hasT Box.token p.boxes t = true
    · have HOK := hide (show chpOk p (addF t n) = false by simp [chpOk, addF, hi])
      have hpos : 0 ≤ idxP (tokIs t) p.boxes := by
        rw [idx_has, decide_eq_true_iff] at hi; exact hi
      clear hv hi
      go_enter Try.func23, Try.ntmps23
      go_wp2_with (first
        | (go_at_call 26
           refine (l04Is_c p _ _ _ (Blk.rowAt (d := postD) (x := p) (St.at1 HS0.out) (post_K_mk (H1.out.below HS0.out.below)) rfl) HT.out).mono ?_
           rintro e w1 ⟨rfl, hb⟩
           rw [HV.out]
           have HS1 := hide (HS0.out.by hb)
           (try clear x0 x1 xf xz)
           obtain ⟨x0, x1⟩ := HS1.out.at0.c2
           have xf := HS1.out.at0.frozen
           have xz := HS1.out.at0.lt
           obtain ⟨y0, y1⟩ := HS1.out.at1.c2
           have yz := HS1.out.at1.lt
           clear hb)
        | (go_at_call 27; refine (l04Find_c p _ _ t _ (Blk.rowAt (d := postD) (x := p) (St.at1 HS1.out) (post_K_mk (H1.out.below HS1.out.below)) rfl)).mono ?_; rintro e w' ⟨rfl, rfl⟩))
      refine bodyPost_ret (v := .tuple #[.agg #[.int .i64 0, .slice none 0 0], .bool false]) (by simp [results, Try.results23, go_sem, x0, x1, xf, xz]) rfl ?_
      rw [chP_no HOK.out, HOK.out]
      exact St.ret2 (cs := [.int .i64 0, .slice none 0 0]) (F := []) (St.noPost (by (repeat (first | (with_reducible exact HS1.out) | (with_reducible apply St.alloc) | (with_reducible apply St.set0) | (with_reducible apply St.set1) | (with_reducible apply St.set2) | (with_reducible apply St.set3) | (with_reducible apply St.drew) | (with_reducible apply St.drewN))); all_goals (try (first | rfl | (simp; done))))) rfl
    · have hif : hasT Box.token p.boxes t = false := by simpa using hi
      have HI := hide hif
      have hneg : ¬ 0 ≤ idxP (tokIs t) p.boxes := by
        rw [idx_has, decide_eq_false_iff_not] at hif; exact hif
      obtain ⟨i, hie⟩ : ∃ i, i = lbI t p.boxes := ⟨_, rfl⟩
      have HLB := hide (show isLbT Box.token p.boxes t i by rw [hie]; exact lb_is HR.out)
      have hil : i ≤ p.boxes.length := HLB.out.1
      have HIE := hide hie
      clear hv hi hif hie
      go_enter Try.func23, Try.ntmps23
      go_wp2_with (first
        | (go_at_call 26
           refine (l04Is_c p _ _ _ (Blk.rowAt (d := postD) (x := p) (St.at1 HS0.out) (post_K_mk (H1.out.below HS0.out.below)) rfl) HT.out).mono ?_
           rintro e w1 ⟨rfl, hb⟩
           rw [HV.out]
           have HS1 := hide (HS0.out.by hb)
           (try clear x0 x1 xf xz)
           obtain ⟨x0, x1⟩ := HS1.out.at0.c2
           have xf := HS1.out.at0.frozen
           have xz := HS1.out.at0.lt
           obtain ⟨y0, y1⟩ := HS1.out.at1.c2
           have yz := HS1.out.at1.lt
           clear hb)
        | (go_at_call 27; refine (l04Find_c p _ _ t _ (Blk.rowAt (d := postD) (x := p) (St.at1 HS1.out) (post_K_mk (H1.out.below HS1.out.below)) rfl)).mono ?_; rintro e w' ⟨rfl, rfl⟩)
        | (go_at_call 28
           refine (l04Copy_c p _ _ _ (Blk.rowAt (d := postD) (x := p) (St.at1 HS1.out) (post_K_mk (H1.out.below HS1.out.below)) rfl) HFEW.out).mono ?_
           rintro e w2 he
           obtain ⟨cs, F, rfl, hK, hb, hS⟩ := HS1.out.elem he
           obtain ⟨u1, rfl, k1⟩ := post_K hK
           obtain ⟨B1, e1, rfl⟩ := k1.shape
           obtain ⟨rs, F1, Fs, hrl, hP⟩ := hS.postParts
           have HP := hide hP
           have HRL := hide hrl
           (try clear x0 x1 xf xz)
           obtain ⟨x0, x1⟩ := (St.at2 hP).c2
           have xf := (St.at2 hP).frozen
           have xz := (St.at2 hP).lt
           (try clear y0 y1 yz)
           obtain ⟨y0, y1⟩ := (St.at3 hP).c2
           have yz := (St.at3 hP).lt
           clear hK k1 hb hS he hrl hP))
      clear hneg
      go_loopg [10, 11] p.boxes.length (fun gg s10 s11 wr => ∃ (k : Nat) (put : Bool) (outs : List (Raw 4)) (N : List Piece) (A9 : Option Addr) (c9 : Nat) (F9 : List Nat), k ≤ p.boxes.length ∧ p.boxes.length - k ≤ gg ∧ s10 = .bool put ∧ s11 = .int .i64 k ∧ Hid (AddAt t n i rs k put outs N) ∧ Hid (St w wr (own (rawD 4) 53 (.slice A9 outs.length c9) outs F9 :: blk (w2.heap.size + 1 + 1) #[.int .i64 p.limit, .slice A9 outs.length c9] 28 :: blk w2.heap.size #[.int .i64 p.limit, .slice B1 p.boxes.length e1] 28 :: own (rawD 4) 53 (.slice B1 p.boxes.length e1) rs F1 :: heldsP boxD p.boxes rs Fs :: blk (w.heap.size + 1) #[.int .i64 0, .slice none 0 0] 28 :: blk w.heap.size #[.int .i64 p.limit, .slice A1 p.boxes.length c1] 28 :: N)))
      case atStart =>
        exact ⟨0, false, [], [], some ⟨w2.heap.size + 1, 0, none⟩, 0, [w2.heap.size + 1], Nat.zero_le _, by omega, rfl, rfl, hide (.inl ⟨rfl, Nat.zero_le _, rfl, rfl⟩), hide (St.empty (St.pull1 (show St w _ (blk (w2.heap.size + 1 + 1) #[.int .i64 p.limit, .slice (some ⟨w2.heap.size + 1, 0, none⟩) 0 0] 28 :: blk (w2.heap.size + 1) #[] 53 :: blk w2.heap.size #[.int .i64 p.limit, .slice B1 p.boxes.length e1] 28 :: own (rawD 4) 53 (.slice B1 p.boxes.length e1) rs F1 :: heldsP boxD p.boxes rs Fs :: blk (w.heap.size + 1) #[.int .i64 0, .slice none 0 0] 28 :: [blk w.heap.size #[.int .i64 p.limit, .slice A1 p.boxes.length c1] 28]) from by (repeat (first | (with_reducible exact HP.out) | (with_reducible apply St.alloc) | (with_reducible apply St.set0) | (with_reducible apply St.set1) | (with_reducible apply St.set2) | (with_reducible apply St.set3) | (with_reducible apply St.drew) | (with_reducible apply St.drewN))); all_goals (try (first | rfl | (simp; done))))))⟩
      case round =>
        obtain ⟨k, put, outs, N, A9, c9, F9, hk, hg, rfl, rfl, HA, HS⟩ := hrel
        have hol := HA.out.len
        (try clear x0 x1 xf xz)
        obtain ⟨x0, x1⟩ := (St.at1 HS.out).c2
        have xf := (St.at1 HS.out).frozen
        have xz := (St.at1 HS.out).lt
        (try clear y0 y1 yz)
        obtain ⟨y0, y1⟩ := (St.at2 HS.out).c2
        have yz := (St.at2 HS.out).lt
        by_cases hlt : k < p.boxes.length
        · obtain ⟨m, hx⟩ : ∃ m, p.boxes[k]? = some m := ⟨_, List.getElem?_eq_getElem hlt⟩
          obtain ⟨A3, c3, hr, -⟩ := St.boxAt (h := HS.out.drop.drop.drop.drop) hx
          obtain ⟨⟨q, rfl⟩, -, hle⟩ := St.hasBlk (d := rawD 4) rfl HS.out.pull3 hr
          obtain ⟨hcw, hfw, hzw⟩ := St.flatCell (d := rawD 4) (k := k) (x := boxRaw m A3 m.held.length c3) rfl (show St w wr (own (rawD 4) _ (.slice (some ⟨q, 0, none⟩) rs.length e1) rs F1 :: _) by rw [HRL.out]; exact HS.out.pull3) hr
          obtain ⟨hc0, hc1, hc2, hc3⟩ : wr.cell? ⟨q, k * 4, none⟩ = some (.string m.token) ∧ wr.cell? ⟨q, k * 4 + 1, none⟩ = some (.int .i64 m.member) ∧ wr.cell? ⟨q, k * 4 + 2, none⟩ = some (.int .i64 m.missed) ∧ wr.cell? ⟨q, k * 4 + 3, none⟩ = some (.slice A3 m.held.length c3) := ⟨hcw 0 _ rfl, hcw 1 _ rfl, hcw 2 _ rfl, hcw 3 _ rfl⟩
          have HX := hide hx
          have HRK := hide hr
          have hlt2 : (k : Int) < (p.boxes.length : Int) := by omega
          clear hx hr hcw
          cases put with
          | true =>
            go_wp2_with fail
            go_region_law (
              refine step_app_st (d := rawD 4) (w0 := w) rfl rfl (.tmp 54) (.tmp 60) 26 rfl (.agg #[(.string ⟨#[]⟩), (.int .i64 0), (.int .i64 0), (.slice none 0 0)]) 56 Try.underlying26 infoRaw rfl (by omega) (by omega) (.slice A9 outs.length c9) (outs) F9 (by simp [Act.eval, Act.put]) wr.heap.size #[.string m.token, .int .i64 m.member, .int .i64 m.missed, .slice A3 m.held.length c3] (by (repeat (first | (with_reducible exact HS.out) | (with_reducible apply St.alloc) | (with_reducible apply St.set0) | (with_reducible apply St.set1) | (with_reducible apply St.set2) | (with_reducible apply St.set3) | (with_reducible apply St.drew) | (with_reducible apply St.drewN))); all_goals (try (first | rfl | (simp; done)))) 1 (by simp [Act.eval, Act.put]) (boxRaw m A3 m.held.length c3) rfl (by first | omega | (simp; omega)) ?_
              intro g4 cap4 w4 F4 hS
              have HS4 := hide hS
              (try clear x0 x1 xf xz)
              obtain ⟨x0, x1⟩ := (St.at1 hS).c2
              have xf := (St.at1 hS).frozen
              have xz := (St.at1 hS).lt
              clear hS)
            all_goals
              go_wp2_with fail
              go_roundg (p.boxes.length - (k + 1))
              case measure => omega
              case rel =>
                refine ⟨k + 1, true, outs ++ [boxRaw m A3 m.held.length c3], N, some ⟨g4, 0, none⟩, cap4, F4, by omega, by omega, rfl, by go_num, hide (HA.out.more HRK.out), hide ?_⟩
                have hl9 : (outs ++ [boxRaw m A3 m.held.length c3]).length = outs.length + 1 := by simp
                rw [hl9]
                (repeat (first | (with_reducible exact HS4.out) | (with_reducible apply St.alloc) | (with_reducible apply St.set0) | (with_reducible apply St.set1) | (with_reducible apply St.set2) | (with_reducible apply St.set3) | (with_reducible apply St.drew) | (with_reducible apply St.drewN))); all_goals (try (first | rfl | (simp; done)))
          | false =>
            by_cases hki : k < i
            · have hgt : Op.bytesLess m.token.toList t.toList = true := HLB.out.2.1 k m hki HX.out
              go_wp2_with fail
              go_region_law (
                refine step_app_st (d := rawD 4) (w0 := w) rfl rfl (.tmp 54) (.tmp 60) 26 rfl (.agg #[(.string ⟨#[]⟩), (.int .i64 0), (.int .i64 0), (.slice none 0 0)]) 56 Try.underlying26 infoRaw rfl (by omega) (by omega) (.slice A9 outs.length c9) (outs) F9 (by simp [Act.eval, Act.put]) wr.heap.size #[.string m.token, .int .i64 m.member, .int .i64 m.missed, .slice A3 m.held.length c3] (by (repeat (first | (with_reducible exact HS.out) | (with_reducible apply St.alloc) | (with_reducible apply St.set0) | (with_reducible apply St.set1) | (with_reducible apply St.set2) | (with_reducible apply St.set3) | (with_reducible apply St.drew) | (with_reducible apply St.drewN))); all_goals (try (first | rfl | (simp; done)))) 1 (by simp [Act.eval, Act.put]) (boxRaw m A3 m.held.length c3) rfl (by first | omega | (simp; omega)) ?_
                intro g4 cap4 w4 F4 hS
                have HS4 := hide hS
                (try clear x0 x1 xf xz)
                obtain ⟨x0, x1⟩ := (St.at1 hS).c2
                have xf := (St.at1 hS).frozen
                have xz := (St.at1 hS).lt
                clear hS)
              all_goals
                go_wp2_with fail
                go_roundg (p.boxes.length - (k + 1))
                case measure => omega
                case rel =>
                  refine ⟨k + 1, false, outs ++ [boxRaw m A3 m.held.length c3], N, some ⟨g4, 0, none⟩, cap4, F4, by omega, by omega, rfl, by go_num, hide (HA.out.keep HRK.out hki), hide ?_⟩
                  have hl9 : (outs ++ [boxRaw m A3 m.held.length c3]).length = outs.length + 1 := by simp
                  rw [hl9]
                  (repeat (first | (with_reducible exact HS4.out) | (with_reducible apply St.alloc) | (with_reducible apply St.set0) | (with_reducible apply St.set1) | (with_reducible apply St.set2) | (with_reducible apply St.set3) | (with_reducible apply St.drew) | (with_reducible apply St.drewN))); all_goals (try (first | rfl | (simp; done)))
            · have hkie : k = i := by
                rcases HA.out with ⟨_, h2, _⟩ | ⟨h0, _⟩
                · omega
                · cases h0
              have hgt : Op.bytesLess m.token.toList t.toList = false := HLB.out.2.2 k m (by omega) HX.out
              have hge : (m.token.toList == t.toList) = false := by
                rw [beq_eq_false_iff_ne]
                intro h7
                have h8 := hasT_yes (key := Box.token) HX.out (tx_eq h7)
                rw [HI.out] at h8; cases h8
              have HA2 := hide (show AddAt t n k rs k false outs N by rw [hkie] at HA ⊢; exact HA.out)
              have hN : N = [] := by
                rcases HA.out with ⟨_, _, _, h⟩ | ⟨h0, _⟩
                · exact h
                · cases h0
              subst hN
              have HKI := hide hkie
              clear hki hkie
              go_wp2_with (
                (at_builtin
                 refine wpList_app1_st (d := rawD 4) (w0 := w) rfl _ rfl _ _ _ rfl (.agg #[(.string ⟨#[]⟩), (.int .i64 0), (.int .i64 0), (.slice none 0 0)]) 56 Try.underlying26 infoRaw rfl (by omega) (by omega) (.slice A9 outs.length c9) outs F9 rfl (wr.heap.size + 1) #[.string t, .int .i64 n, .int .i64 0, .slice (some ⟨wr.heap.size, 0, none⟩) 0 0] (show St w _ (_ :: own (rawD 4) 53 (.slice A9 outs.length c9) outs F9 :: own parcelD 68 (.slice (some ⟨wr.heap.size, 0, none⟩) 0 0) [] [wr.heap.size] :: _ :: _) from by (repeat (first | (with_reducible exact (St.empty (d := parcelD) (HS.out.alloc (k := wr.heap.size) (arr := #[]) (e := 68) rfl)).pull1) | (with_reducible apply St.alloc) | (with_reducible apply St.set0) | (with_reducible apply St.set1) | (with_reducible apply St.set2) | (with_reducible apply St.set3) | (with_reducible apply St.drew) | (with_reducible apply St.drewN))); all_goals (try (first | rfl | (simp; done)))) 1 rfl (boxRaw (newB t n) (some ⟨wr.heap.size, 0, none⟩) 0 0) rfl (by omega) ?_
                 intro gA capA wA FA hSA
                 have HSA := hide hSA
                 obtain ⟨xa0, xa1⟩ := (St.at2 hSA).c2; have xaf := (St.at2 hSA).frozen; have xaz := (St.at2 hSA).lt; obtain ⟨ya0, ya1⟩ := (St.at3 hSA).c2; have yaz := (St.at3 hSA).lt; obtain ⟨hqa, hqb⟩ := St.apart (d := rawD 4) rfl ((St.drop (St.drop hSA)).pull2.pull1); obtain ⟨hcw, hfwA, hzwA⟩ := St.flatCell (d := rawD 4) (k := k) (x := boxRaw m A3 m.held.length c3) rfl (show St w wA (own (rawD 4) _ (.slice (some ⟨q, 0, none⟩) rs.length e1) rs F1 :: _) from (by rw [HRL.out]; exact hSA.pull4)) HRK.out; obtain ⟨ec0, ec1, ec2, ec3⟩ : wA.cell? ⟨q, k * 4, none⟩ = some (.string m.token) ∧ wA.cell? ⟨q, k * 4 + 1, none⟩ = some (.int .i64 m.member) ∧ wA.cell? ⟨q, k * 4 + 2, none⟩ = some (.int .i64 m.missed) ∧ wA.cell? ⟨q, k * 4 + 3, none⟩ = some (.slice A3 m.held.length c3) := ⟨hcw 0 _ rfl, hcw 1 _ rfl, hcw 2 _ rfl, hcw 3 _ rfl⟩; clear hcw
                 clear hSA))
              go_region_law (
                refine step_app_st (d := rawD 4) (w0 := w) rfl rfl (.tmp 54) (.tmp 60) 26 rfl (.agg #[(.string ⟨#[]⟩), (.int .i64 0), (.int .i64 0), (.slice none 0 0)]) 56 Try.underlying26 infoRaw rfl (by omega) (by omega) (.slice (some ⟨gA, 0, none⟩) (outs.length + 1) capA) (outs ++ [boxRaw (newB t n) (some ⟨wr.heap.size, 0, none⟩) 0 0]) FA (by simp [Act.eval, Act.put]) wA.heap.size #[.string m.token, .int .i64 m.member, .int .i64 m.missed, .slice A3 m.held.length c3] (show St w _ (_ :: _ :: own parcelD 68 (.slice (some ⟨wr.heap.size, 0, none⟩) 0 0) [] [wr.heap.size] :: blk (w2.heap.size + 1 + 1) #[.int .i64 p.limit, .slice (some ⟨gA, 0, none⟩) (outs.length + 1) capA] 28 :: _) from by (repeat (first | (with_reducible exact HSA.out) | (with_reducible apply St.alloc) | (with_reducible apply St.set0) | (with_reducible apply St.set1) | (with_reducible apply St.set2) | (with_reducible apply St.set3) | (with_reducible apply St.drew) | (with_reducible apply St.drewN))); all_goals (try (first | rfl | (simp; done)))) 1 (by simp [Act.eval, Act.put]) (boxRaw m A3 m.held.length c3) rfl (by first | omega | (simp; omega)) ?_
                intro g4 cap4 w4 F4 hS
                have HS4 := hide hS
                (try clear x0 x1 xf xz)
                obtain ⟨x0, x1⟩ := (St.at2 hS).c2
                have xf := (St.at2 hS).frozen
                have xz := (St.at2 hS).lt
                clear hS)
              all_goals
                go_wp2_with fail
                go_roundg (p.boxes.length - (k + 1))
                case measure => omega
                case rel =>
                  refine ⟨k + 1, true, outs ++ [boxRaw (newB t n) (some ⟨wr.heap.size, 0, none⟩) 0 0] ++ [boxRaw m A3 m.held.length c3], [own parcelD 68 (.slice (some ⟨wr.heap.size, 0, none⟩) 0 0) [] [wr.heap.size]], some ⟨g4, 0, none⟩, cap4, F4, by omega, by omega, rfl, by go_num, hide (by have h := HA2.out.put (h := wr.heap.size) HRK.out; rw [HKI.out] at h ⊢; exact h), hide ?_⟩
                  have hl9 : (outs ++ [boxRaw (newB t n) (some ⟨wr.heap.size, 0, none⟩) 0 0] ++ [boxRaw m A3 m.held.length c3]).length = (outs ++ [boxRaw (newB t n) (some ⟨wr.heap.size, 0, none⟩) 0 0]).length + 1 := by simp
                  rw [hl9]
                  refine St.toEnd1 (L := [blk (w2.heap.size + 1 + 1) #[.int .i64 p.limit, .slice (some ⟨g4, 0, none⟩) ((outs ++ [boxRaw (newB t n) (some ⟨wr.heap.size, 0, none⟩) 0 0]).length + 1) cap4] 28, blk w2.heap.size #[.int .i64 p.limit, .slice (some ⟨q, 0, none⟩) p.boxes.length e1] 28, own (rawD 4) 53 (.slice (some ⟨q, 0, none⟩) p.boxes.length e1) rs F1, heldsP boxD p.boxes rs Fs, blk (w.heap.size + 1) #[.int .i64 0, .slice none 0 0] 28, blk w.heap.size #[.int .i64 p.limit, .slice A1 p.boxes.length c1] 28]) ?_
                  (repeat (first | (with_reducible exact HS4.out) | (with_reducible apply St.alloc) | (with_reducible apply St.set0) | (with_reducible apply St.set1) | (with_reducible apply St.set2) | (with_reducible apply St.set3) | (with_reducible apply St.drew) | (with_reducible apply St.drewN))); all_goals (try (first | rfl | (simp; done)))
        · obtain rfl : k = p.boxes.length := by omega
          have hrl := HRL.out
          have HA3 := hide (show AddAt t n i rs rs.length put outs N by rw [hrl]; exact HA.out)
          clear hlt hk hg
          obtain ⟨rz0, rz1⟩ := (St.at3 HS.out.drop.drop).c2
          have rzf := (St.at3 HS.out.drop.drop).frozen
          have rzz := (St.at3 HS.out.drop.drop).lt
          have HT2 := hide (show okPost (addF t n p).1 from add_ok HT.out hs)
          cases put with
          | true =>
            obtain ⟨h, rfl, ho⟩ := HA3.out.done
            rw [HIE.out] at ho
            obtain ⟨FD0, hD⟩ := St.addDone ho (St.fromEnd1 (L := [_, _, _, _, _, _, _]) HS.out.pull4)
            have HD := hide (hD.drop2.drop2)
            clear hD ho
            by_cases hv2 : validPostB (addF t n p).1 = true
            · have HV2 := hide hv2
              have HOK := hide (show chpOk p (addF t n) = true by simp only [chpOk, HV.out, HV2.out, Bool.true_and, Bool.and_true]; show (!hasT Box.token p.boxes t) = true; rw [HI.out]; rfl)
              clear hv2
              go_wp2_with (
                (go_at_call 45
                 refine (giveYes_st (w0 := w) (p := (addF t n p).1) (lim := p.limit) (v := .slice A9 outs.length c9) rfl (L := [blk (w2.heap.size + 1 + 1) #[.int .i64 p.limit, .slice A9 outs.length c9] 28, blk (w.heap.size + 1) #[.int .i64 0, .slice none 0 0] 28, blk w.heap.size #[.int .i64 p.limit, .slice A1 p.boxes.length c1] 28]) (⟨FD0, HD.out⟩) HV2.out HT2.out).mono ?_
                 rintro e w5 ⟨rfl, FD, hS5⟩
                 have HD5 := hide hS5
                 obtain ⟨rz0, rz1⟩ := (St.at2 hS5).c2
                 have rzf := (St.at2 hS5).frozen
                 have rzz := (St.at2 hS5).lt
                 clear hS5))
              refine bodyPost_ret (v := .tuple #[.agg #[.int .i64 p.limit, .slice A9 outs.length c9], .bool true]) (by simp [results, Try.results23, go_sem, rz0, rz1, rzf, rzz]) rfl ?_
              rw [chP_yes HOK.out, HOK.out]
              exact St.ret2 (cs := [.int .i64 p.limit, .slice A9 outs.length c9]) (F := FD) (show St w _ (ownD postD (addF t n p).1 [.int .i64 p.limit, .slice A9 outs.length c9] FD :: blk (w2.heap.size + 1 + 1) #[.int .i64 p.limit, .slice A9 outs.length c9] 28 :: blk (w.heap.size + 1) #[.int .i64 p.limit, .slice A9 outs.length c9] 28 :: [blk w.heap.size #[.int .i64 p.limit, .slice A1 p.boxes.length c1] 28]) from by (repeat (first | (with_reducible exact HD5.out) | (with_reducible apply St.alloc) | (with_reducible apply St.set0) | (with_reducible apply St.set1) | (with_reducible apply St.set2) | (with_reducible apply St.set3) | (with_reducible apply St.drew) | (with_reducible apply St.drewN))); all_goals (try (first | rfl | (simp; done)))) rfl
            · have HV2 := hide (show validPostB (addF t n p).1 = false by simpa using hv2)
              have HOK := hide (show chpOk p (addF t n) = false by simp only [chpOk, HV2.out, Bool.and_false])
              clear hv2
              go_wp2_with (
                (go_at_call 45
                 refine (giveNo_st (w0 := w) (p := (addF t n p).1) (lim := p.limit) (v := .slice A9 outs.length c9) rfl (L := [blk (w2.heap.size + 1 + 1) #[.int .i64 p.limit, .slice A9 outs.length c9] 28, blk (w.heap.size + 1) #[.int .i64 0, .slice none 0 0] 28, blk w.heap.size #[.int .i64 p.limit, .slice A1 p.boxes.length c1] 28]) (⟨FD0, HD.out⟩) HV2.out HT2.out).mono ?_
                 rintro e w5 ⟨rfl, FD, hS5⟩
                 have HD5 := hide hS5
                 obtain ⟨rz0, rz1⟩ := (St.at2 hS5).c2
                 have rzf := (St.at2 hS5).frozen
                 have rzz := (St.at2 hS5).lt
                 clear hS5))
              refine bodyPost_ret (v := .tuple #[.agg #[.int .i64 0, .slice none 0 0], .bool false]) (by simp [results, Try.results23, go_sem, rz0, rz1, rzf, rzz]) rfl ?_
              rw [chP_no HOK.out, HOK.out]
              exact St.ret2 (cs := [.int .i64 0, .slice none 0 0]) (F := []) (St.noPost (show St w _ (ownD postD (addF t n p).1 [.int .i64 p.limit, .slice A9 outs.length c9] FD :: blk (w2.heap.size + 1 + 1) #[.int .i64 p.limit, .slice A9 outs.length c9] 28 :: blk (w.heap.size + 1) #[.int .i64 0, .slice none 0 0] 28 :: [blk w.heap.size #[.int .i64 p.limit, .slice A1 p.boxes.length c1] 28]) from by (repeat (first | (with_reducible exact HD5.out) | (with_reducible apply St.alloc) | (with_reducible apply St.set0) | (with_reducible apply St.set1) | (with_reducible apply St.set2) | (with_reducible apply St.set3) | (with_reducible apply St.drew) | (with_reducible apply St.drewN))); all_goals (try (first | rfl | (simp; done))))) rfl
          | false =>
            have hNo := HA3.out.last (h := wr.heap.size) (by rw [hrl]; exact hil)
            obtain ⟨hN, ho⟩ := hNo
            subst hN
            rw [HIE.out] at ho
            have key : ∀ (Wx : World) (v : Value) (FA : List Nat) (Bo : Piece) (L3 : List Piece), St w Wx (own (rawD 4) 53 v (outs ++ [boxRaw (newB t n) (some ⟨wr.heap.size, 0, none⟩) 0 0]) FA :: own parcelD 68 (.slice (some ⟨wr.heap.size, 0, none⟩) 0 0) [] [wr.heap.size] :: Bo :: blk w2.heap.size #[.int .i64 p.limit, .slice B1 p.boxes.length e1] 28 :: own (rawD 4) 53 (.slice B1 p.boxes.length e1) rs F1 :: heldsP boxD p.boxes rs Fs :: L3) → ∃ FD, St w Wx (ownD postD (addF t n p).1 [.int .i64 p.limit, v] FD :: Bo :: L3) := by
              intro Wx v FA Bo L3 h
              obtain ⟨FD, h2⟩ := St.addDone ho (h.pull1.pull5.pull1)
              exact ⟨FD, h2.drop2.drop2⟩
            clear ho
            by_cases hv2 : validPostB (addF t n p).1 = true
            · have HV2 := hide hv2
              have HOK := hide (show chpOk p (addF t n) = true by simp only [chpOk, HV.out, HV2.out, Bool.true_and, Bool.and_true]; show (!hasT Box.token p.boxes t) = true; rw [HI.out]; rfl)
              clear hv2
              go_wp2_with (first
                | (at_builtin
                   refine wpList_app1_st (d := rawD 4) (w0 := w) rfl _ rfl _ _ _ rfl (.agg #[(.string ⟨#[]⟩), (.int .i64 0), (.int .i64 0), (.slice none 0 0)]) 56 Try.underlying26 infoRaw rfl (by omega) (by omega) (.slice A9 outs.length c9) outs F9 rfl (wr.heap.size + 1) #[.string t, .int .i64 n, .int .i64 0, .slice (some ⟨wr.heap.size, 0, none⟩) 0 0] (show St w _ (_ :: own (rawD 4) 53 (.slice A9 outs.length c9) outs F9 :: own parcelD 68 (.slice (some ⟨wr.heap.size, 0, none⟩) 0 0) [] [wr.heap.size] :: _ :: _) from by (repeat (first | (with_reducible exact (St.empty (d := parcelD) (HS.out.alloc (k := wr.heap.size) (arr := #[]) (e := 68) rfl)).pull1) | (with_reducible apply St.alloc) | (with_reducible apply St.set0) | (with_reducible apply St.set1) | (with_reducible apply St.set2) | (with_reducible apply St.set3) | (with_reducible apply St.drew) | (with_reducible apply St.drewN))); all_goals (try (first | rfl | (simp; done)))) 1 rfl (boxRaw (newB t n) (some ⟨wr.heap.size, 0, none⟩) 0 0) rfl (by omega) ?_
                   intro gA capA wA FA hSA
                   have HSA := hide hSA
                   obtain ⟨xa0, xa1⟩ := (St.at2 hSA).c2; have xaf := (St.at2 hSA).frozen; have xaz := (St.at2 hSA).lt
                   clear hSA)
                | (go_at_call 45
                   refine (giveYes_st (w0 := w) (p := (addF t n p).1) (lim := p.limit) (v := .slice (some ⟨gA, 0, none⟩) (outs.length + 1) capA) rfl (L := [blk (w2.heap.size + 1 + 1) #[.int .i64 p.limit, .slice (some ⟨gA, 0, none⟩) (outs.length + 1) capA] 28, blk (w.heap.size + 1) #[.int .i64 0, .slice none 0 0] 28, blk w.heap.size #[.int .i64 p.limit, .slice A1 p.boxes.length c1] 28]) (key _ _ _ _ _ (show St w _ (_ :: own parcelD 68 (.slice (some ⟨wr.heap.size, 0, none⟩) 0 0) [] [wr.heap.size] :: blk (w2.heap.size + 1 + 1) #[.int .i64 p.limit, .slice (some ⟨gA, 0, none⟩) (outs.length + 1) capA] 28 :: _) from by (repeat (first | (with_reducible exact HSA.out) | (with_reducible apply St.alloc) | (with_reducible apply St.set0) | (with_reducible apply St.set1) | (with_reducible apply St.set2) | (with_reducible apply St.set3) | (with_reducible apply St.drew) | (with_reducible apply St.drewN))); all_goals (try (first | rfl | (simp; done))))) HV2.out HT2.out).mono ?_
                   rintro e w5 ⟨rfl, FD, hS5⟩
                   have HD5 := hide hS5
                   obtain ⟨rz0, rz1⟩ := (St.at2 hS5).c2
                   have rzf := (St.at2 hS5).frozen
                   have rzz := (St.at2 hS5).lt
                   clear hS5))
              refine bodyPost_ret (v := .tuple #[.agg #[.int .i64 p.limit, .slice (some ⟨gA, 0, none⟩) (outs.length + 1) capA], .bool true]) (by simp [results, Try.results23, go_sem, rz0, rz1, rzf, rzz]) rfl ?_
              rw [chP_yes HOK.out, HOK.out]
              exact St.ret2 (cs := [.int .i64 p.limit, .slice (some ⟨gA, 0, none⟩) (outs.length + 1) capA]) (F := FD) (show St w _ (ownD postD (addF t n p).1 [.int .i64 p.limit, .slice (some ⟨gA, 0, none⟩) (outs.length + 1) capA] FD :: blk (w2.heap.size + 1 + 1) #[.int .i64 p.limit, .slice (some ⟨gA, 0, none⟩) (outs.length + 1) capA] 28 :: blk (w.heap.size + 1) #[.int .i64 p.limit, .slice (some ⟨gA, 0, none⟩) (outs.length + 1) capA] 28 :: [blk w.heap.size #[.int .i64 p.limit, .slice A1 p.boxes.length c1] 28]) from by (repeat (first | (with_reducible exact HD5.out) | (with_reducible apply St.alloc) | (with_reducible apply St.set0) | (with_reducible apply St.set1) | (with_reducible apply St.set2) | (with_reducible apply St.set3) | (with_reducible apply St.drew) | (with_reducible apply St.drewN))); all_goals (try (first | rfl | (simp; done)))) rfl
            · have HV2 := hide (show validPostB (addF t n p).1 = false by simpa using hv2)
              have HOK := hide (show chpOk p (addF t n) = false by simp only [chpOk, HV2.out, Bool.and_false])
              clear hv2
              go_wp2_with (first
                | (at_builtin
                   refine wpList_app1_st (d := rawD 4) (w0 := w) rfl _ rfl _ _ _ rfl (.agg #[(.string ⟨#[]⟩), (.int .i64 0), (.int .i64 0), (.slice none 0 0)]) 56 Try.underlying26 infoRaw rfl (by omega) (by omega) (.slice A9 outs.length c9) outs F9 rfl (wr.heap.size + 1) #[.string t, .int .i64 n, .int .i64 0, .slice (some ⟨wr.heap.size, 0, none⟩) 0 0] (show St w _ (_ :: own (rawD 4) 53 (.slice A9 outs.length c9) outs F9 :: own parcelD 68 (.slice (some ⟨wr.heap.size, 0, none⟩) 0 0) [] [wr.heap.size] :: _ :: _) from by (repeat (first | (with_reducible exact (St.empty (d := parcelD) (HS.out.alloc (k := wr.heap.size) (arr := #[]) (e := 68) rfl)).pull1) | (with_reducible apply St.alloc) | (with_reducible apply St.set0) | (with_reducible apply St.set1) | (with_reducible apply St.set2) | (with_reducible apply St.set3) | (with_reducible apply St.drew) | (with_reducible apply St.drewN))); all_goals (try (first | rfl | (simp; done)))) 1 rfl (boxRaw (newB t n) (some ⟨wr.heap.size, 0, none⟩) 0 0) rfl (by omega) ?_
                   intro gA capA wA FA hSA
                   have HSA := hide hSA
                   obtain ⟨xa0, xa1⟩ := (St.at2 hSA).c2; have xaf := (St.at2 hSA).frozen; have xaz := (St.at2 hSA).lt
                   clear hSA)
                | (go_at_call 45
                   refine (giveNo_st (w0 := w) (p := (addF t n p).1) (lim := p.limit) (v := .slice (some ⟨gA, 0, none⟩) (outs.length + 1) capA) rfl (L := [blk (w2.heap.size + 1 + 1) #[.int .i64 p.limit, .slice (some ⟨gA, 0, none⟩) (outs.length + 1) capA] 28, blk (w.heap.size + 1) #[.int .i64 0, .slice none 0 0] 28, blk w.heap.size #[.int .i64 p.limit, .slice A1 p.boxes.length c1] 28]) (key _ _ _ _ _ (show St w _ (_ :: own parcelD 68 (.slice (some ⟨wr.heap.size, 0, none⟩) 0 0) [] [wr.heap.size] :: blk (w2.heap.size + 1 + 1) #[.int .i64 p.limit, .slice (some ⟨gA, 0, none⟩) (outs.length + 1) capA] 28 :: _) from by (repeat (first | (with_reducible exact HSA.out) | (with_reducible apply St.alloc) | (with_reducible apply St.set0) | (with_reducible apply St.set1) | (with_reducible apply St.set2) | (with_reducible apply St.set3) | (with_reducible apply St.drew) | (with_reducible apply St.drewN))); all_goals (try (first | rfl | (simp; done))))) HV2.out HT2.out).mono ?_
                   rintro e w5 ⟨rfl, FD, hS5⟩
                   have HD5 := hide hS5
                   obtain ⟨rz0, rz1⟩ := (St.at2 hS5).c2
                   have rzf := (St.at2 hS5).frozen
                   have rzz := (St.at2 hS5).lt
                   clear hS5))
              refine bodyPost_ret (v := .tuple #[.agg #[.int .i64 0, .slice none 0 0], .bool false]) (by simp [results, Try.results23, go_sem, rz0, rz1, rzf, rzz]) rfl ?_
              rw [chP_no HOK.out, HOK.out]
              exact St.ret2 (cs := [.int .i64 0, .slice none 0 0]) (F := []) (St.noPost (show St w _ (ownD postD (addF t n p).1 [.int .i64 p.limit, .slice (some ⟨gA, 0, none⟩) (outs.length + 1) capA] FD :: blk (w2.heap.size + 1 + 1) #[.int .i64 p.limit, .slice (some ⟨gA, 0, none⟩) (outs.length + 1) capA] 28 :: blk (w.heap.size + 1) #[.int .i64 0, .slice none 0 0] 28 :: [blk w.heap.size #[.int .i64 p.limit, .slice A1 p.boxes.length c1] 28]) from by (repeat (first | (with_reducible exact HD5.out) | (with_reducible apply St.alloc) | (with_reducible apply St.set0) | (with_reducible apply St.set1) | (with_reducible apply St.set2) | (with_reducible apply St.set3) | (with_reducible apply St.drew) | (with_reducible apply St.drewN))); all_goals (try (first | rfl | (simp; done))))) rfl
  · have HV := hide (show validPostB p = false by simpa using hv)
    have HOK := hide (show chpOk p (addF t n) = false by simp [chpOk, HV.out])
    clear hv
    go_enter Try.func23, Try.ntmps23
    go_wp2_with (first
      | (go_at_call 26
         refine (l04Is_c p _ _ _ (Blk.rowAt (d := postD) (x := p) (St.at1 HS0.out) (post_K_mk (H1.out.below HS0.out.below)) rfl) HT.out).mono ?_
         rintro e w1 ⟨rfl, hb⟩
         rw [HV.out]
         have HS1 := hide (HS0.out.by hb)
         (try clear x0 x1 xf xz)
         obtain ⟨x0, x1⟩ := HS1.out.at0.c2
         have xf := HS1.out.at0.frozen
         have xz := HS1.out.at0.lt
         obtain ⟨y0, y1⟩ := HS1.out.at1.c2
         have yz := HS1.out.at1.lt
         clear hb))
    refine bodyPost_ret (v := .tuple #[.agg #[.int .i64 0, .slice none 0 0], .bool false]) (by simp [results, Try.results23, go_sem, x0, x1, xf, xz]) rfl ?_
    rw [chP_no HOK.out, HOK.out]
    exact St.ret2 (cs := [.int .i64 0, .slice none 0 0]) (F := []) (St.noPost (by (repeat (first | (with_reducible exact HS1.out) | (with_reducible apply St.alloc) | (with_reducible apply St.set0) | (with_reducible apply St.set1) | (with_reducible apply St.set2) | (with_reducible apply St.set3) | (with_reducible apply St.drew) | (with_reducible apply St.drewN))); all_goals (try (first | rfl | (simp; done))))) rfl
end Go.Proofs.Ytdmhjfajicclaaa
