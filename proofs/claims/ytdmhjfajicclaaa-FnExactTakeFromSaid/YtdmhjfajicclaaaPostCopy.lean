/- A post is copied: the reference and the program. -/
import Derived.Test.YtdmhjfajicclaaaHelds
import Derived.Test.YtdmhjfajicclaaaFlatPost
namespace Go.Proofs.Ytdmhjfajicclaaa
open Go Go.RowKit Go.BigFrame
set_option linter.unusedVariables false
set_option linter.unusedSimpArgs false

/-- Few enough. -/
def fewP (p : Post) : Prop := p.boxes.length ≤ 1000 ∧ ∀ b ∈ p.boxes, b.held.length ≤ 1000
theorem fewP_of {p : Post} (h : validPostB p = true) : fewP p := by
  simp only [validPostB, Bool.and_eq_true, decide_eq_true_eq] at h
  refine ⟨by omega, fun b hb => ?_⟩
  obtain ⟨j, hj⟩ := List.getElem?_of_mem hb
  have h2 := (adjB_iff _ _ _).1 h.2 j b hj
  simp only [boxF, boxOkB, parsOkB, Bool.and_eq_true, decide_eq_true_eq] at h2
  have := h2.1.1.2.1; omega
set_option maxHeartbeats 8000000 in
set_option maxRecDepth 100000 in
theorem l04Copy_c (p : Post) (b o : Nat) (w : World) (hp : RowAt postD w b o [p]) (hf : fewP p) :
    Calls Try.prog 28 #[.pointer (some ⟨b, o, none⟩)] w (RetElem postD w p) := by
  obtain ⟨v1, h1, hbz, hb0, hb1⟩ := post_at hp (Below.refl _ _) (j := 0) rfl
  simp only [Nat.zero_mul, Nat.add_zero] at hb0 hb1
  obtain ⟨A, c, rfl, hl, hm, hra⟩ := h1
  have HA := hide hra
  have HF := hide hf
  have hf1 := hf.1
  clear hra hp hf
  have hbz1 : b < w.heap.size + 1 := by omega
  have hbz2 : b < w.heap.size + 1 + 1 := by omega
  go_enter Try.func28, Try.ntmps28
  go_wp2_with fail
  go_loopg [4] p.boxes.length (fun gg s4 wr => ∃ (k : Nat) (outs : List (Raw 4)) (A9 : Option Addr) (c9 : Nat) (F9 : List Nat) (Fs : List (List Nat)), k ≤ p.boxes.length ∧ p.boxes.length - k ≤ gg ∧ s4 = .int .i64 k ∧ Hid (St w wr (own (rawD 4) 53 (.slice A9 outs.length c9) outs F9 :: heldsP boxD (p.boxes.take k) outs Fs :: blk (w.heap.size + 1 + 1) #[.int .i64 p.limit, .slice A9 outs.length c9] 28 :: [blk w.heap.size #[.int .i64 0, .slice none 0 0] 28])))
  case atStart =>
    exact ⟨0, [], some ⟨w.heap.size + 1, 0, none⟩, 0, [w.heap.size + 1], [], Nat.zero_le _, by omega, rfl, hide (St.push1 (St.heldNone (St.empty (St.pull1 (show St w _ (blk (w.heap.size + 1 + 1) #[.int .i64 p.limit, .slice (some ⟨w.heap.size + 1, 0, none⟩) 0 0] 28 :: blk (w.heap.size + 1) #[] 53 :: [blk w.heap.size #[.int .i64 0, .slice none 0 0] 28]) from by (repeat (first | (with_reducible exact St.start w) | (with_reducible apply St.alloc) | (with_reducible apply St.set0) | (with_reducible apply St.set1) | (with_reducible apply St.set2) | (with_reducible apply St.set3) | (with_reducible apply St.drew) | (with_reducible apply St.drewN))); all_goals (try (first | rfl | (simp; done))))))))⟩
  case round =>
    obtain ⟨k, outs, A9, c9, F9, Fs, hk, hg, rfl, HS⟩ := hrel
    have hol : outs.length ≤ 1000 := by
      have h := St.boxLen HS.out.drop
      rw [List.length_take] at h; omega
    have hb0 := cell_below HS.out.below hb0
    have hb1 := cell_below HS.out.below hb1
    have hbr := Nat.lt_of_lt_of_le hbz HS.out.size
    obtain ⟨x0, x1⟩ := (St.at2 HS.out).c2
    have xf := (St.at2 HS.out).frozen
    have xz := (St.at2 HS.out).lt
    obtain ⟨y0, y1⟩ := (St.at3 HS.out).c2
    have yf := (St.at3 HS.out).frozen
    have yz := (St.at3 HS.out).lt
    by_cases hlt : k < p.boxes.length
    · obtain ⟨m, hx⟩ : ∃ m, p.boxes[k]? = some m := ⟨_, List.getElem?_eq_getElem hlt⟩
      rcases HA.out with hnil | ⟨q, o2, rfl, hra⟩
      · rw [hnil] at hlt; simp at hlt
      obtain ⟨v3, h3, hq, hc0, hc1, hc2, hc3⟩ := box_at hra HS.out.below hx
      obtain ⟨A3, c3, rfl⟩ := h3.shape
      have H3 := hide h3
      have hhl := HF.out.2 m (List.mem_of_getElem? hx)
      have HX := hide hx
      have hlt2 : (k : Int) < (p.boxes.length : Int) := by omega
      clear hx hra h3 HA
      go_wp2_with (first
        | (at_builtin
           refine wpList_copy_st (d := parcelD) rfl (w0 := w) (L := blk wr.heap.size #[.string m.token, .int .i64 m.member, .int .i64 m.missed, .slice A3 m.held.length c3] 53 :: own (rawD 4) 53 (.slice A9 outs.length c9) outs F9 :: heldsP boxD (p.boxes.take k) outs Fs :: blk (w.heap.size + 1 + 1) #[.int .i64 p.limit, .slice A9 outs.length c9] 28 :: [blk w.heap.size #[.int .i64 0, .slice none 0 0] 28]) _ rfl _ _ _ rfl (.agg #[.int .i64 0, .int .i64 0]) 16 Try.underlying35 infoParcel rfl (by omega) (by omega) _ rfl (by (repeat (first | (with_reducible exact HS.out) | (with_reducible apply St.alloc) | (with_reducible apply St.set0) | (with_reducible apply St.set1) | (with_reducible apply St.set2) | (with_reducible apply St.set3) | (with_reducible apply St.drew) | (with_reducible apply St.drewN))); all_goals (try (first | rfl | (simp; done)))) _ _ _ m.held rfl rfl (H3.out.below (St.below (w0 := wr) (L := [_, _]) (by (repeat (first | (with_reducible exact St.start wr) | (with_reducible apply St.alloc) | (with_reducible apply St.set0) | (with_reducible apply St.set1) | (with_reducible apply St.set2) | (with_reducible apply St.set3) | (with_reducible apply St.drew) | (with_reducible apply St.drewN))); all_goals (try (first | rfl | (simp; done)))))) (by omega) ?_
           intro A2 c2 w2 F2 hch hS
           have HS2 := hide hS
           obtain ⟨q0, q1, q2, q3⟩ := hS.at1.c4
           have qf := hS.at1.frozen
           have qz := hS.at1.lt
           obtain ⟨x0, x1⟩ := (St.at3 hS.drop).c2
           have xf := (St.at3 hS.drop).frozen
           have xz := (St.at3 hS.drop).lt
           clear hch hS)
        | (at_builtin
           refine wpList_app1_st (d := rawD 4) (w0 := w) rfl _ rfl _ _ _ rfl (.agg #[(.string ⟨#[]⟩), (.int .i64 0), (.int .i64 0), (.slice none 0 0)]) 56 Try.underlying26 infoRaw rfl (by omega) (by omega) (.slice A9 outs.length c9) outs F9 rfl w2.heap.size #[.string m.token, .int .i64 m.member, .int .i64 m.missed, .slice A2 m.held.length c2] (show St w _ (_ :: _ :: heldsP boxD (p.boxes.take k) outs Fs :: own parcelD 68 (.slice A2 m.held.length c2) m.held F2 :: blk wr.heap.size #[.string m.token, .int .i64 m.member, .int .i64 m.missed, .slice A2 m.held.length c2] 53 :: blk (w.heap.size + 1 + 1) #[.int .i64 p.limit, .slice A9 outs.length c9] 28 :: [blk w.heap.size #[.int .i64 0, .slice none 0 0] 28]) from by (repeat (first | (with_reducible exact HS2.out.pull3.pull3) | (with_reducible apply St.alloc) | (with_reducible apply St.set0) | (with_reducible apply St.set1) | (with_reducible apply St.set2) | (with_reducible apply St.set3) | (with_reducible apply St.drew) | (with_reducible apply St.drewN))); all_goals (try (first | rfl | (simp; done)))) 1 rfl (boxRaw m A2 m.held.length c2) rfl (by omega) ?_
           intro g4 cap4 w4 F4 hS
           have HS4 := hide hS
           obtain ⟨x0, x1⟩ := (St.at3 (St.drop hS)).c2
           have xf := (St.at3 (St.drop hS)).frozen
           have xz := (St.at3 (St.drop hS)).lt
           clear hS))
      go_roundg (p.boxes.length - (k + 1))
      case measure => omega
      case rel =>
        refine ⟨k + 1, outs ++ [boxRaw m A2 m.held.length c2], some ⟨g4, 0, none⟩, cap4, F4, Fs ++ [F2], by omega, by omega, by go_num, hide ?_⟩
        rw [List.length_append, show p.boxes.take (k + 1) = p.boxes.take k ++ [m] from by obtain ⟨h1, rfl⟩ := List.getElem?_eq_some_iff.1 HX.out; exact List.take_succ_eq_append_getElem h1]
        exact St.pull1 (St.boxMore (St.pull2 (St.boxIn (St.pull2 (show St w _ (own (rawD 4) 53 (.slice (some ⟨g4, 0, none⟩) (outs.length + 1) cap4) (outs ++ [boxRaw m A2 m.held.length c2]) F4 :: heldsP boxD (p.boxes.take k) outs Fs :: own parcelD 68 (.slice A2 m.held.length c2) m.held F2 :: blk (w.heap.size + 1 + 1) #[.int .i64 p.limit, .slice (some ⟨g4, 0, none⟩) (outs.length + 1) cap4] 28 :: [blk w.heap.size #[.int .i64 0, .slice none 0 0] 28]) from by (repeat (first | (with_reducible exact HS4.out.drop3) | (with_reducible apply St.alloc) | (with_reducible apply St.set0) | (with_reducible apply St.set1) | (with_reducible apply St.set2) | (with_reducible apply St.set3) | (with_reducible apply St.drew) | (with_reducible apply St.drewN))); all_goals (try (first | rfl | (simp; done))))))))
    · obtain rfl : k = p.boxes.length := by omega
      rw [List.take_length] at HS
      clear HA hlt hk hg
      obtain ⟨F, hP⟩ := St.post (p := p) HS.out
      have HP := hide hP
      clear hP
      go_wp2_with fail
      refine bodyPost_ret (v := .agg #[.int .i64 p.limit, .slice A9 outs.length c9]) (by simp [results, Try.results28, go_sem, x0, x1, xf, xz, y0, y1, yf, yz]) rfl ?_
      exact St.ret1 (cs := [.int .i64 p.limit, .slice A9 outs.length c9]) (F := F) (show St w _ (ownD postD p [.int .i64 p.limit, .slice A9 outs.length c9] F :: blk (w.heap.size + 1 + 1) #[.int .i64 p.limit, .slice A9 outs.length c9] 28 :: [blk w.heap.size #[.int .i64 p.limit, .slice A9 outs.length c9] 28]) from by (repeat (first | (with_reducible exact HP.out) | (with_reducible apply St.alloc) | (with_reducible apply St.set0) | (with_reducible apply St.set1) | (with_reducible apply St.set2) | (with_reducible apply St.set3) | (with_reducible apply St.drew) | (with_reducible apply St.drewN))); all_goals (try (first | rfl | (simp; done)))) rfl
set_option maxHeartbeats 8000000 in
set_option maxRecDepth 100000 in
theorem clonePost_c (p : Post) (v1 : Value) (w : World) (h1 : SliceK boxD w v1 p.boxes) (hf : fewP p) :
    Calls Try.prog 57 #[.agg #[.int .i64 p.limit, v1]] w (RetElem postD w p) := by
  obtain ⟨A, c, rfl, hl, hm, hra⟩ := h1
  have HA := hide hra
  have HF := hide hf
  have hf1 := hf.1
  clear hra hf
  go_enter Try.func57, Try.ntmps57
  go_wp2_with fail
  go_loopg [12] p.boxes.length (fun gg s4 wr => ∃ (k : Nat) (outs : List (Raw 4)) (A9 : Option Addr) (c9 : Nat) (F9 : List Nat) (Fs : List (List Nat)), k ≤ p.boxes.length ∧ p.boxes.length - k ≤ gg ∧ s4 = .int .i64 k ∧ Hid (St w wr (own (rawD 4) 53 (.slice A9 outs.length c9) outs F9 :: heldsP boxD (p.boxes.take k) outs Fs :: blk (w.heap.size + 1 + 1) #[.int .i64 p.limit, .slice A9 outs.length c9] 28 :: [blk (w.heap.size + 1) #[.int .i64 0, .slice none 0 0] 28, blk w.heap.size #[.int .i64 p.limit, .slice A p.boxes.length c] 28])))
  case atStart =>
    exact ⟨0, [], none, 0, [], [], Nat.zero_le _, by omega, rfl, hide (St.nil (St.heldNone (show St w _ (blk (w.heap.size + 1 + 1) #[.int .i64 p.limit, .slice none 0 0] 28 :: [blk (w.heap.size + 1) #[.int .i64 0, .slice none 0 0] 28, blk w.heap.size #[.int .i64 p.limit, .slice A p.boxes.length c] 28]) from by (repeat (first | (with_reducible exact St.start w) | (with_reducible apply St.alloc) | (with_reducible apply St.set0) | (with_reducible apply St.set1) | (with_reducible apply St.set2) | (with_reducible apply St.set3) | (with_reducible apply St.drew) | (with_reducible apply St.drewN))); all_goals (try (first | rfl | (simp; done))))))⟩
  case round =>
    obtain ⟨k, outs, A9, c9, F9, Fs, hk, hg, rfl, HS⟩ := hrel
    have hol : outs.length ≤ 1000 := by
      have h := St.boxLen HS.out.drop
      rw [List.length_take] at h; omega
    obtain ⟨x0, x1⟩ := (St.at2 HS.out).c2
    have xf := (St.at2 HS.out).frozen
    have xz := (St.at2 HS.out).lt
    obtain ⟨y0, y1⟩ := (St.at3 HS.out).c2
    have yf := (St.at3 HS.out).frozen
    have yz := (St.at3 HS.out).lt
    by_cases hlt : k < p.boxes.length
    · obtain ⟨m, hx⟩ : ∃ m, p.boxes[k]? = some m := ⟨_, List.getElem?_eq_getElem hlt⟩
      rcases HA.out with hnil | ⟨q, o2, rfl, hra⟩
      · rw [hnil] at hlt; simp at hlt
      obtain ⟨v3, h3, hq, hc0, hc1, hc2, hc3⟩ := box_at hra HS.out.below hx
      obtain ⟨A3, c3, rfl⟩ := h3.shape
      have H3 := hide h3
      have hhl := HF.out.2 m (List.mem_of_getElem? hx)
      have HX := hide hx
      have hlt2 : (k : Int) < (p.boxes.length : Int) := by omega
      clear hx hra h3 HA
      go_wp2_with (first
        | (go_at_call 63
           refine (cloneParcel_c _ m.held _ (H3.out.below (St.below (w0 := wr) (L := [_]) (by (repeat (first | (with_reducible exact St.start wr) | (with_reducible apply St.alloc) | (with_reducible apply St.set0) | (with_reducible apply St.set1) | (with_reducible apply St.set2) | (with_reducible apply St.set3) | (with_reducible apply St.drew) | (with_reducible apply St.drewN))); all_goals (try (first | rfl | (simp; done)))))) (by omega)).mono ?_
           rintro e w2 ⟨v2, rfl, hM, hb⟩
           obtain ⟨A2, c2, rfl⟩ := hM.shape
           obtain ⟨F2, hS⟩ := (show St w _ (blk wr.heap.size #[.string m.token, .int .i64 m.member, .int .i64 m.missed, .slice A3 m.held.length c3] 53 :: own (rawD 4) 53 (.slice A9 outs.length c9) outs F9 :: heldsP boxD (p.boxes.take k) outs Fs :: blk (w.heap.size + 1 + 1) #[.int .i64 p.limit, .slice A9 outs.length c9] 28 :: [blk (w.heap.size + 1) #[.int .i64 0, .slice none 0 0] 28, blk w.heap.size #[.int .i64 p.limit, .slice (some ⟨q, o2, none⟩) p.boxes.length c] 28]) from by (repeat (first | (with_reducible exact HS.out) | (with_reducible apply St.alloc) | (with_reducible apply St.set0) | (with_reducible apply St.set1) | (with_reducible apply St.set2) | (with_reducible apply St.set3) | (with_reducible apply St.drew) | (with_reducible apply St.drewN))); all_goals (try (first | rfl | (simp; done)))).made hM hb
           have HS2 := hide hS
           obtain ⟨q0, q1, q2, q3⟩ := hS.at1.c4
           have qf := hS.at1.frozen
           have qz := hS.at1.lt
           obtain ⟨x0, x1⟩ := (St.at3 hS.drop).c2
           have xf := (St.at3 hS.drop).frozen
           have xz := (St.at3 hS.drop).lt
           clear hM hb hS)
        | (at_builtin
           refine wpList_app1_st (d := rawD 4) (w0 := w) rfl _ rfl _ _ _ rfl (.agg #[(.string ⟨#[]⟩), (.int .i64 0), (.int .i64 0), (.slice none 0 0)]) 56 Try.underlying26 infoRaw rfl (by omega) (by omega) (.slice A9 outs.length c9) outs F9 rfl w2.heap.size #[.string m.token, .int .i64 m.member, .int .i64 m.missed, .slice A2 m.held.length c2] (show St w _ (_ :: _ :: heldsP boxD (p.boxes.take k) outs Fs :: own parcelD 68 (.slice A2 m.held.length c2) m.held F2 :: blk wr.heap.size #[.string m.token, .int .i64 m.member, .int .i64 m.missed, .slice A2 m.held.length c2] 53 :: blk (w.heap.size + 1 + 1) #[.int .i64 p.limit, .slice A9 outs.length c9] 28 :: [blk (w.heap.size + 1) #[.int .i64 0, .slice none 0 0] 28, blk w.heap.size #[.int .i64 p.limit, .slice (some ⟨q, o2, none⟩) p.boxes.length c] 28]) from by (repeat (first | (with_reducible exact HS2.out.pull3.pull3) | (with_reducible apply St.alloc) | (with_reducible apply St.set0) | (with_reducible apply St.set1) | (with_reducible apply St.set2) | (with_reducible apply St.set3) | (with_reducible apply St.drew) | (with_reducible apply St.drewN))); all_goals (try (first | rfl | (simp; done)))) 1 rfl (boxRaw m A2 m.held.length c2) rfl (by omega) ?_
           intro g4 cap4 w4 F4 hS
           have HS4 := hide hS
           obtain ⟨x0, x1⟩ := (St.at3 (St.drop hS)).c2
           have xf := (St.at3 (St.drop hS)).frozen
           have xz := (St.at3 (St.drop hS)).lt
           clear hS))
      go_roundg (p.boxes.length - (k + 1))
      case measure => omega
      case rel =>
        refine ⟨k + 1, outs ++ [boxRaw m A2 m.held.length c2], some ⟨g4, 0, none⟩, cap4, F4, Fs ++ [F2], by omega, by omega, by go_num, hide ?_⟩
        rw [List.length_append, show p.boxes.take (k + 1) = p.boxes.take k ++ [m] from by obtain ⟨h1, rfl⟩ := List.getElem?_eq_some_iff.1 HX.out; exact List.take_succ_eq_append_getElem h1]
        exact St.pull1 (St.boxMore (St.pull2 (St.boxIn (St.pull2 (show St w _ (own (rawD 4) 53 (.slice (some ⟨g4, 0, none⟩) (outs.length + 1) cap4) (outs ++ [boxRaw m A2 m.held.length c2]) F4 :: heldsP boxD (p.boxes.take k) outs Fs :: own parcelD 68 (.slice A2 m.held.length c2) m.held F2 :: blk (w.heap.size + 1 + 1) #[.int .i64 p.limit, .slice (some ⟨g4, 0, none⟩) (outs.length + 1) cap4] 28 :: [blk (w.heap.size + 1) #[.int .i64 0, .slice none 0 0] 28, blk w.heap.size #[.int .i64 p.limit, .slice (some ⟨q, o2, none⟩) p.boxes.length c] 28]) from by (repeat (first | (with_reducible exact HS4.out.drop3) | (with_reducible apply St.alloc) | (with_reducible apply St.set0) | (with_reducible apply St.set1) | (with_reducible apply St.set2) | (with_reducible apply St.set3) | (with_reducible apply St.drew) | (with_reducible apply St.drewN))); all_goals (try (first | rfl | (simp; done))))))))
    · obtain rfl : k = p.boxes.length := by omega
      rw [List.take_length] at HS
      clear HA hlt hk hg
      obtain ⟨F, hP⟩ := St.post (p := p) HS.out
      have HP := hide hP
      clear hP
      go_wp2_with fail
      refine bodyPost_ret (v := .agg #[.int .i64 p.limit, .slice A9 outs.length c9]) (by simp [results, Try.results57, go_sem, x0, x1, xf, xz, y0, y1, yf, yz]) rfl ?_
      exact St.ret1 (cs := [.int .i64 p.limit, .slice A9 outs.length c9]) (F := F) (show St w _ (ownD postD p [.int .i64 p.limit, .slice A9 outs.length c9] F :: blk (w.heap.size + 1 + 1) #[.int .i64 p.limit, .slice A9 outs.length c9] 28 :: [blk (w.heap.size + 1) #[.int .i64 p.limit, .slice A9 outs.length c9] 28, blk w.heap.size #[.int .i64 p.limit, .slice A p.boxes.length c] 28]) from by (repeat (first | (with_reducible exact HP.out) | (with_reducible apply St.alloc) | (with_reducible apply St.set0) | (with_reducible apply St.set1) | (with_reducible apply St.set2) | (with_reducible apply St.set3) | (with_reducible apply St.drew) | (with_reducible apply St.drewN))); all_goals (try (first | rfl | (simp; done)))) rfl
end Go.Proofs.Ytdmhjfajicclaaa
