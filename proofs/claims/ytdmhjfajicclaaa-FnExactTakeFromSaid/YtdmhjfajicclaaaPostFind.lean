/- A box is found, a post is given if it is valid: the reference. -/
import Derived.Test.YtdmhjfajicclaaaPostSpec4
import Derived.Test.YtdmhjfajicclaaaPostCopy
import Derived.Test.YtdmhjfajicclaaaStrCmp
namespace Go.Proofs.Ytdmhjfajicclaaa
open Go Go.RowKit Go.BigFrame
set_option linter.unusedVariables false
set_option linter.unusedSimpArgs false

set_option maxHeartbeats 4000000 in
theorem l04Find_c (p : Post) (b o : Nat) (t : ByteArray) (w : World) (hp : RowAt postD w b o [p]) :
    Calls Try.prog 27 #[.pointer (some ⟨b, o, none⟩), .string t] w fun e w' => e = .returned (.int .i64 (idxP (tokIs t) p.boxes)) ∧ w = w' := by
  obtain ⟨v1, h1, hbz, hb0, hb1⟩ := post_at hp (Below.refl _ _) (j := 0) rfl
  simp only [Nat.zero_mul, Nat.add_zero] at hb0 hb1
  obtain ⟨A, c, rfl, hl, hm, hra⟩ := h1
  have HA := hide hra
  clear hra hp
  go_enter Try.func27, Try.ntmps27
  go_wp2_with fail
  go_loopg [5] p.boxes.length (fun gg s5 wr => ∃ k : Nat, k ≤ p.boxes.length ∧ p.boxes.length - k ≤ gg ∧ s5 = .int .i64 k ∧ Hid (∀ j y, j < k → p.boxes[j]? = some y → tokIs t y = false) ∧ wr = w)
  case atStart => exact ⟨0, Nat.zero_le _, by omega, rfl, hide (by intro j y hj; omega), rfl⟩
  case round =>
    obtain ⟨k, hk, hg, rfl, HT, rfl⟩ := hrel
    by_cases hlt : k < p.boxes.length
    · obtain ⟨m, hx⟩ : ∃ m, p.boxes[k]? = some m := ⟨_, List.getElem?_eq_getElem hlt⟩
      rcases HA.out with hnil | ⟨q, o2, rfl, hra⟩
      · rw [hnil] at hlt; simp at hlt
      obtain ⟨v3, h3, hq, hc0, hc1, hc2, hc3⟩ := box_at hra (Below.refl _ _) hx
      have HX := hide hx
      have hlt2 : (k : Int) < (p.boxes.length : Int) := by omega
      clear hx hra h3
      by_cases hpm : (m.token.toList == t.toList) = true
      · have HPM := hide (show tokIs t m = true from hpm)
        go_wp2_with fail
        go_ret
        exact ⟨by rw [idxP_hit HT.out HX.out HPM.out]; rfl, rfl⟩
      · have hpm : (m.token.toList == t.toList) = false := by simpa using hpm
        have HPM := hide (show tokIs t m = false from hpm)
        go_wp2_with fail
        go_roundg (p.boxes.length - (k + 1))
        case measure => omega
        case rel => exact ⟨k + 1, by omega, by omega, by go_num, hide (idxP_step HT.out HX.out HPM.out), rfl⟩
    · have : k = p.boxes.length := by omega
      subst this
      have hr := hide (idxP_miss HT.out)
      clear HA
      go_wp2_with fail
      go_ret
      exact ⟨by rw [hr.out]; rfl, rfl⟩
set_option maxHeartbeats 4000000 in
theorem l04Give_yes (p : Post) (v : Value) (w : World) (h1 : SliceK boxD w v p.boxes) (hv : validPostB p = true) (ht : okPost p) :
    Calls Try.prog 45 #[.agg #[.int .i64 p.limit, v]] w fun e w' => e = .returned (.tuple #[.agg #[.int .i64 p.limit, v], .bool true]) ∧ Below w.heap.size w w' := by
  obtain ⟨A1, c1, rfl⟩ := h1.shape
  have H1 := hide h1
  have HV := hide hv
  have HT := hide ht
  clear h1 hv ht
  have HS0 := hide (show St w ((w.alloc (.cells #[.int .i64 p.limit, .slice A1 p.boxes.length c1] 28)).alloc (.cells #[.int .i64 0, .slice none 0 0] 28)) [blk (w.heap.size + 1) #[.int .i64 0, .slice none 0 0] 28, blk w.heap.size #[.int .i64 p.limit, .slice A1 p.boxes.length c1] 28] by (repeat (first | (with_reducible exact St.start w) | (with_reducible apply St.alloc) | (with_reducible apply St.set0) | (with_reducible apply St.set1) | (with_reducible apply St.set2) | (with_reducible apply St.set3) | (with_reducible apply St.drew) | (with_reducible apply St.drewN))); all_goals (try (first | rfl | (simp; done))))
  obtain ⟨x0, x1⟩ := HS0.out.at0.c2
  have xf := HS0.out.at0.frozen
  have xz := HS0.out.at0.lt
  obtain ⟨y0, y1⟩ := HS0.out.at1.c2
  have yz := HS0.out.at1.lt
  go_enter Try.func45, Try.ntmps45
  go_wp2_with (go_at_call 26
               refine (l04Is_c p _ _ _ (Blk.rowAt (d := postD) (x := p) HS0.out.at1 (post_K_mk (H1.out.below HS0.out.below)) rfl) HT.out).mono ?_
               rintro e w1 ⟨rfl, hb⟩
               rw [HV.out]
               have HS1 := hide (HS0.out.by hb)
               (try clear x0 x1 xf xz y0 y1 yz)
               obtain ⟨x0, x1⟩ := HS1.out.at0.c2
               have xf := HS1.out.at0.frozen
               have xz := HS1.out.at0.lt
               obtain ⟨y0, y1⟩ := HS1.out.at1.c2
               have yz := HS1.out.at1.lt
               clear hb)
  refine bodyPost_ret (v := .tuple #[.agg #[.int .i64 p.limit, .slice A1 p.boxes.length c1], .bool true]) (by simp [results, Try.results45, go_sem, x0, x1, xf, xz]) rfl ?_
  exact ⟨rfl, St.below (show St w _ [blk (w.heap.size + 1) #[.int .i64 p.limit, .slice A1 p.boxes.length c1] 28, blk w.heap.size #[.int .i64 p.limit, .slice A1 p.boxes.length c1] 28] by (repeat (first | (with_reducible exact HS1.out) | (with_reducible apply St.alloc) | (with_reducible apply St.set0) | (with_reducible apply St.set1) | (with_reducible apply St.set2) | (with_reducible apply St.set3) | (with_reducible apply St.drew) | (with_reducible apply St.drewN))); all_goals (try (first | rfl | (simp; done))))⟩
set_option maxHeartbeats 4000000 in
theorem l04Give_no (p : Post) (v : Value) (w : World) (h1 : SliceK boxD w v p.boxes) (hv : validPostB p = false) (ht : okPost p) :
    Calls Try.prog 45 #[.agg #[.int .i64 p.limit, v]] w fun e w' => e = .returned (.tuple #[.agg #[.int .i64 0, .slice none 0 0], .bool false]) ∧ Below w.heap.size w w' := by
  obtain ⟨A1, c1, rfl⟩ := h1.shape
  have H1 := hide h1
  have HV := hide hv
  have HT := hide ht
  clear h1 hv ht
  have HS0 := hide (show St w ((w.alloc (.cells #[.int .i64 p.limit, .slice A1 p.boxes.length c1] 28)).alloc (.cells #[.int .i64 0, .slice none 0 0] 28)) [blk (w.heap.size + 1) #[.int .i64 0, .slice none 0 0] 28, blk w.heap.size #[.int .i64 p.limit, .slice A1 p.boxes.length c1] 28] by (repeat (first | (with_reducible exact St.start w) | (with_reducible apply St.alloc) | (with_reducible apply St.set0) | (with_reducible apply St.set1) | (with_reducible apply St.set2) | (with_reducible apply St.set3) | (with_reducible apply St.drew) | (with_reducible apply St.drewN))); all_goals (try (first | rfl | (simp; done))))
  obtain ⟨x0, x1⟩ := HS0.out.at0.c2
  have xf := HS0.out.at0.frozen
  have xz := HS0.out.at0.lt
  obtain ⟨y0, y1⟩ := HS0.out.at1.c2
  have yz := HS0.out.at1.lt
  go_enter Try.func45, Try.ntmps45
  go_wp2_with (go_at_call 26
               refine (l04Is_c p _ _ _ (Blk.rowAt (d := postD) (x := p) HS0.out.at1 (post_K_mk (H1.out.below HS0.out.below)) rfl) HT.out).mono ?_
               rintro e w1 ⟨rfl, hb⟩
               rw [HV.out]
               have HS1 := hide (HS0.out.by hb)
               (try clear x0 x1 xf xz y0 y1 yz)
               obtain ⟨x0, x1⟩ := HS1.out.at0.c2
               have xf := HS1.out.at0.frozen
               have xz := HS1.out.at0.lt
               obtain ⟨y0, y1⟩ := HS1.out.at1.c2
               have yz := HS1.out.at1.lt
               clear hb)
  refine bodyPost_ret (v := .tuple #[.agg #[.int .i64 0, .slice none 0 0], .bool false]) (by simp [results, Try.results45, go_sem, x0, x1, xf, xz]) rfl ?_
  exact ⟨rfl, St.below (show St w _ [blk (w.heap.size + 1) #[.int .i64 0, .slice none 0 0] 28, blk w.heap.size #[.int .i64 p.limit, .slice A1 p.boxes.length c1] 28] by (repeat (first | (with_reducible exact HS1.out) | (with_reducible apply St.alloc) | (with_reducible apply St.set0) | (with_reducible apply St.set1) | (with_reducible apply St.set2) | (with_reducible apply St.set3) | (with_reducible apply St.drew) | (with_reducible apply St.drewN))); all_goals (try (first | rfl | (simp; done))))⟩
end Go.Proofs.Ytdmhjfajicclaaa
