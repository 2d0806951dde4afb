/- A post is changed by something that tells whether it can be done: the program's changedPost. -/
import Derived.Test.YtdmhjfajicclaaaPostValid
import Derived.Test.YtdmhjfajicclaaaPostCopy
namespace Go.Proofs.Ytdmhjfajicclaaa
open Go Go.RowKit Go.BigFrame
set_option linter.unusedVariables false
set_option linter.unusedSimpArgs false

def noPost : Post := ⟨0, []⟩
def chpOk (r : Post) (f : Post → Post × Bool) : Bool := validPostB r && (f r).2 && validPostB (f r).1
def chP (r : Post) (f : Post → Post × Bool) : Post := if chpOk r f then (f r).1 else noPost
theorem chP_no {r : Post} {f : Post → Post × Bool} (h : chpOk r f = false) : chP r f = noPost := by simp [chP, h]
theorem chP_yes {r : Post} {f : Post → Post × Bool} (h : chpOk r f = true) : chP r f = (f r).1 := by simp [chP, h]
theorem noPost_M (w : World) : postD.M w noPost [.int .i64 0, .slice none 0 0] [] := post_M_mk (x := noPost) (F1 := []) (.inl ⟨rfl, rfl, rfl⟩)
theorem St.noPost {w0 w : World} {L : List Piece} (h : St w0 w L) : St w0 w (ownD postD noPost [.int .i64 0, .slice none 0 0] [] :: L) :=
  h.new (Below.refl _ _) (noPost_M w) (by simp [ownD]) (by simp [ownD])
theorem okPost_valid {p : Post} (h : validPostB p = true) : okPost p := by
  simp only [validPostB, Bool.and_eq_true] at h
  intro b hb
  obtain ⟨j, hj⟩ := List.getElem?_of_mem hb
  have h2 := (adjB_iff _ _ _).1 h.2 j b hj
  simp only [boxF, boxOkB, Bool.and_eq_true, decide_eq_true_eq] at h2
  have := h2.1.1.1.1.1
  show b.token.size ≤ _
  omega
/-- What a function value does with a post in a box, beside pieces X of the caller's: only where it says yes the post is told, and R of what X became. -/
def TurnsX (P : Program) {α : Type} (d : Dt α) (e : TypeId) (g : Nat) (caps : Array Value) (pre : α → Prop) (f : α → α × Bool) (w0 : World) (X : List Piece) (R : α → List Piece → Prop) : Prop :=
  ∀ (x : α) (b : Nat) (F : List Nat) (W : World) (L : List Piece), St w0 W (boxP d e b x F :: (X ++ L)) → pre x →
    Calls P g (#[.pointer (some ⟨b, 0, none⟩)] ++ caps) W fun r W' => r = .returned (.bool (f x).2) ∧ ∃ A X', St w0 W' (A :: (X' ++ L)) ∧ ((f x).2 = true → (∃ F', A = boxP d e b (f x).1 F') ∧ R x X')
theorem St.rot {w0 w : World} {A : Piece} {M X : List Piece} (h : St w0 w (A :: (M ++ X))) : St w0 w (A :: (X ++ M)) := h.perm (List.Perm.cons _ List.perm_append_comm)
theorem St.over {w0 w W : World} {X L : List Piece} (hX : St w0 w X) (h : St w W L) : St w0 W (L ++ X) := by
  have hf : feet (L ++ X) = feet L ++ feet X := by simp [feet]
  refine ⟨below_step hX.below h.below, fun p hp => ?_, ?_, fun b hb => ?_⟩
  · rcases List.mem_append.1 hp with hp | hp
    · exact h.all p hp
    · exact p.move (fun b hb => h.below.block b (hX.lt b (mem_feet hp hb))) (hX.all p hp)
  · rw [hf, List.nodup_append]
    refine ⟨h.nodup, hX.nodup, fun a ha b hb e => ?_⟩
    subst e
    have := h.ge a ha; have := hX.lt a hb; omega
  · rw [hf] at hb
    rcases List.mem_append.1 hb with hb | hb
    · exact Nat.le_trans hX.size (h.ge b hb)
    · exact hX.ge b hb
set_option maxHeartbeats 8000000 in
set_option maxRecDepth 100000 in
theorem changedPost_c (g : Nat) (caps : Array Value) (f : Post → Post × Bool) (r : Post) (v1 : Value) (w0 w : World) (X : List Piece) (R : Post → List Piece → Prop) (hX : St w0 w X) (h1 : SliceK boxD w v1 r.boxes) (ht : okPost r)
    (eg : ∀ args w, (callFunc g args).run Try.prog w = .ok (.enter g args) w) (hu : TurnsX Try.prog postD 28 g caps (fun r => validPostB r = true) f w0 X R) (ht2 : (f r).2 = true → okPost (f r).1) :
    Calls Try.prog 30 #[.agg #[.int .i64 r.limit, v1], .func (.func g) #[] caps] w fun e w' => ∃ cs F X', e = .returned (.tuple #[.agg cs.toArray, .bool (chpOk r f)]) ∧ St w0 w' (ownD postD (chP r f) cs F :: X') ∧ (chpOk r f = true → ∃ X2 L, X' = L ++ X2 ∧ R r X2) := by
  obtain ⟨A1, c1, rfl⟩ := h1.shape
  have H1 := hide h1
  have HTU := hide hu
  have HT := hide ht
  have HTT := hide ht2
  have HX := hide hX
  clear h1 hu ht ht2 hX
  have HS0 := hide (show St w ((w.alloc (.cells #[.int .i64 r.limit, .slice A1 r.boxes.length c1] 28)).alloc (.cells #[.int .i64 0, .slice none 0 0] 28)) [blk (w.heap.size + 1) #[.int .i64 0, .slice none 0 0] 28, blk w.heap.size #[.int .i64 r.limit, .slice A1 r.boxes.length c1] 28] by (repeat (first | (with_reducible exact St.start w) | (with_reducible apply St.alloc) | (with_reducible apply St.set0) | (with_reducible apply St.set1) | (with_reducible apply St.set2) | (with_reducible apply St.set3) | (with_reducible apply St.drew) | (with_reducible apply St.drewN))); all_goals (try (first | rfl | (simp; done))))
  (try clear x0 x1 xf xz)
  obtain ⟨x0, x1⟩ := HS0.out.at0.c2
  have xf := HS0.out.at0.frozen
  have xz := HS0.out.at0.lt
  (try clear y0 y1 yz)
  obtain ⟨y0, y1⟩ := HS0.out.at1.c2
  have yz := HS0.out.at1.lt
  by_cases hv : validPostB r = true
  · have HV := hide hv
    have HFEW := hide (fewP_of hv)
    clear hv
    by_cases hf2 : (f r).2 = true
    · have HF2 := hide hf2
      have HT2 := hide (HTT.out hf2)
      clear hf2
      by_cases hv2 : validPostB (f r).1 = true
      · have HV2 := hide hv2
        have HOK := hide (show chpOk r f = true by simp [chpOk, HV.out, HF2.out, HV2.out])
        clear hv2
        go_enter Try.func30, Try.ntmps30
        go_wp2_with (first
          | (go_at_call 56
             refine (validPost_c (f r).1 _ _ K4.out HT2.out).mono ?_
             rintro e w5 ⟨rfl, hb⟩
             rw [HV2.out]
             obtain ⟨cs5, F5, hK, hS⟩ := (HS4.out.by hb).unbox
             obtain ⟨u1, rfl, k1⟩ := post_K hK
             obtain ⟨G1, g1, rfl⟩ := k1.shape
             have HS5 := hide hS
             (try clear x0 x1 xf xz)
             obtain ⟨x0, x1⟩ := (St.at2 HS5.out).c2
             have xf := (St.at2 HS5.out).frozen
             have xz := (St.at2 HS5.out).lt
             (try clear y0 y1 yz)
             obtain ⟨y0, y1⟩ := (St.at1 HS5.out).c2
             have yz := (St.at1 HS5.out).lt
             clear hb hK k1 hS)
          | (go_at_call 56
             refine (validPost_c r _ _ (H1.out.below HS0.out.below) HT.out).mono ?_
             rintro e w1 ⟨rfl, hb⟩
             rw [HV.out]
             have HS1 := hide (HS0.out.by hb)
             (try clear x0 x1 xf xz)
             obtain ⟨x0, x1⟩ := HS1.out.at0.c2
             have xf := HS1.out.at0.frozen
             have xz := HS1.out.at0.lt
             (try clear y0 y1 yz)
             obtain ⟨y0, y1⟩ := HS1.out.at1.c2
             have yz := HS1.out.at1.lt
             clear hb)
          | (go_at_call 57
             refine (clonePost_c r _ _ (H1.out.below HS1.out.below) HFEW.out).mono ?_
             rintro e w2 he
             obtain ⟨cs2, F2, rfl, hK, hb, hS⟩ := HS1.out.elem he
             obtain ⟨u1, rfl, k1⟩ := post_K hK
             obtain ⟨B1, e1, rfl⟩ := k1.shape
             have HS2 := hide hS
             (try clear x0 x1 xf xz)
             obtain ⟨x0, x1⟩ := HS2.out.at1.c2
             have xf := HS2.out.at1.frozen
             have xz := HS2.out.at1.lt
             have HS3 := hide (St.box (e := 28) (k := w2.heap.size) (arr := #[.int .i64 r.limit, .slice B1 r.boxes.length e1]) hS rfl rfl)
             clear hK k1 hb hS he)
          | (go_at_fn g
             refine (HTU.out r w2.heap.size _ _ [blk (w.heap.size + 1) #[.int .i64 0, .slice none 0 0] 28, blk w.heap.size #[.int .i64 r.limit, .slice A1 r.boxes.length c1] 28] (St.rot (M := [blk (w.heap.size + 1) #[.int .i64 0, .slice none 0 0] 28, blk w.heap.size #[.int .i64 r.limit, .slice A1 r.boxes.length c1] 28]) (St.over HX.out HS3.out)) HV.out).mono ?_
             rintro e w4 ⟨rfl, A4, X4, hS4, hyes⟩
             rw [HF2.out]
             replace hS4 := hS4.rot
             simp only [List.cons_append, List.nil_append] at hS4
             obtain ⟨⟨F4, rfl⟩, hR⟩ := hyes HF2.out
             have HR4 := hide hR
             have HS4 := hide hS4
             (try clear x0 x1 xf xz)
             obtain ⟨x0, x1⟩ := (St.at1 HS4.out).c2
             have xf := (St.at1 HS4.out).frozen
             have xz := (St.at1 HS4.out).lt
             obtain ⟨q1, k1, z4, b4_0, b4_1⟩ := post_at HS4.out.boxRow (Below.refl _ _) (j := 0) rfl
             simp only [Nat.zero_mul, Nat.add_zero] at b4_0 b4_1
             have K4 := hide k1
             clear k1 hR
             clear hS4 hyes))
        refine bodyPost_ret (v := .tuple #[.agg #[.int .i64 (f r).1.limit, .slice G1 (f r).1.boxes.length g1], .bool true]) (by simp [results, Try.results30, go_sem, x0, x1, xf, xz]) rfl ?_
        rw [chP_yes HOK.out, HOK.out]
        refine ⟨[.int .i64 (f r).1.limit, .slice G1 (f r).1.boxes.length g1], F5, _, rfl, (show St w0 _ (ownD postD (f r).1 [.int .i64 (f r).1.limit, .slice G1 (f r).1.boxes.length g1] F5 :: blk w2.heap.size #[.int .i64 (f r).1.limit, .slice G1 (f r).1.boxes.length g1] 28 :: blk (w.heap.size + 1) #[.int .i64 (f r).1.limit, .slice G1 (f r).1.boxes.length g1] 28 :: blk w.heap.size #[.int .i64 r.limit, .slice A1 r.boxes.length c1] 28 :: X4) from by (repeat (first | (with_reducible exact HS5.out) | (with_reducible apply St.alloc) | (with_reducible apply St.set0) | (with_reducible apply St.set1) | (with_reducible apply St.set2) | (with_reducible apply St.set3) | (with_reducible apply St.drew) | (with_reducible apply St.drewN))); all_goals (try (first | rfl | (simp; done)))), fun _ => ⟨X4, [_, _, _], rfl, HR4.out⟩⟩
      · have HV2 := hide (show validPostB (f r).1 = false by simpa using hv2)
        have HOK := hide (show chpOk r f = false by simp [chpOk, HV2.out])
        clear hv2
        go_enter Try.func30, Try.ntmps30
        go_wp2_with (first
          | (go_at_call 56
             refine (validPost_c (f r).1 _ _ K4.out HT2.out).mono ?_
             rintro e w5 ⟨rfl, hb⟩
             rw [HV2.out]
             obtain ⟨cs5, F5, hK, hS⟩ := (HS4.out.by hb).unbox
             obtain ⟨u1, rfl, k1⟩ := post_K hK
             obtain ⟨G1, g1, rfl⟩ := k1.shape
             have HS5 := hide hS
             (try clear x0 x1 xf xz)
             obtain ⟨x0, x1⟩ := (St.at2 HS5.out).c2
             have xf := (St.at2 HS5.out).frozen
             have xz := (St.at2 HS5.out).lt
             (try clear y0 y1 yz)
             obtain ⟨y0, y1⟩ := (St.at1 HS5.out).c2
             have yz := (St.at1 HS5.out).lt
             clear hb hK k1 hS)
          | (go_at_call 56
             refine (validPost_c r _ _ (H1.out.below HS0.out.below) HT.out).mono ?_
             rintro e w1 ⟨rfl, hb⟩
             rw [HV.out]
             have HS1 := hide (HS0.out.by hb)
             (try clear x0 x1 xf xz)
             obtain ⟨x0, x1⟩ := HS1.out.at0.c2
             have xf := HS1.out.at0.frozen
             have xz := HS1.out.at0.lt
             (try clear y0 y1 yz)
             obtain ⟨y0, y1⟩ := HS1.out.at1.c2
             have yz := HS1.out.at1.lt
             clear hb)
          | (go_at_call 57
             refine (clonePost_c r _ _ (H1.out.below HS1.out.below) HFEW.out).mono ?_
             rintro e w2 he
             obtain ⟨cs2, F2, rfl, hK, hb, hS⟩ := HS1.out.elem he
             obtain ⟨u1, rfl, k1⟩ := post_K hK
             obtain ⟨B1, e1, rfl⟩ := k1.shape
             have HS2 := hide hS
             (try clear x0 x1 xf xz)
             obtain ⟨x0, x1⟩ := HS2.out.at1.c2
             have xf := HS2.out.at1.frozen
             have xz := HS2.out.at1.lt
             have HS3 := hide (St.box (e := 28) (k := w2.heap.size) (arr := #[.int .i64 r.limit, .slice B1 r.boxes.length e1]) hS rfl rfl)
             clear hK k1 hb hS he)
          | (go_at_fn g
             refine (HTU.out r w2.heap.size _ _ [blk (w.heap.size + 1) #[.int .i64 0, .slice none 0 0] 28, blk w.heap.size #[.int .i64 r.limit, .slice A1 r.boxes.length c1] 28] (St.rot (M := [blk (w.heap.size + 1) #[.int .i64 0, .slice none 0 0] 28, blk w.heap.size #[.int .i64 r.limit, .slice A1 r.boxes.length c1] 28]) (St.over HX.out HS3.out)) HV.out).mono ?_
             rintro e w4 ⟨rfl, A4, X4, hS4, hyes⟩
             rw [HF2.out]
             replace hS4 := hS4.rot
             simp only [List.cons_append, List.nil_append] at hS4
             obtain ⟨⟨F4, rfl⟩, hR⟩ := hyes HF2.out
             have HR4 := hide hR
             have HS4 := hide hS4
             (try clear x0 x1 xf xz)
             obtain ⟨x0, x1⟩ := (St.at1 HS4.out).c2
             have xf := (St.at1 HS4.out).frozen
             have xz := (St.at1 HS4.out).lt
             obtain ⟨q1, k1, z4, b4_0, b4_1⟩ := post_at HS4.out.boxRow (Below.refl _ _) (j := 0) rfl
             simp only [Nat.zero_mul, Nat.add_zero] at b4_0 b4_1
             have K4 := hide k1
             clear k1 hR
             clear hS4 hyes))
        (refine bodyPost_ret (v := .tuple #[.agg #[.int .i64 0, .slice none 0 0], .bool false]) (by simp [results, Try.results30, go_sem, x0, x1, xf, xz]) rfl ?_; rw [chP_no HOK.out, HOK.out]; refine ⟨[.int .i64 0, .slice none 0 0], [], ?xxa, rfl, St.noPost ?ssa, fun h => by cases h⟩)
        case ssa =>
          show St w0 _ (ownD postD (f r).1 [.int .i64 (f r).1.limit, .slice G1 (f r).1.boxes.length g1] F5 :: blk w2.heap.size #[.int .i64 (f r).1.limit, .slice G1 (f r).1.boxes.length g1] 28 :: blk (w.heap.size + 1) #[.int .i64 0, .slice none 0 0] 28 :: blk w.heap.size #[.int .i64 r.limit, .slice A1 r.boxes.length c1] 28 :: X4)
          (repeat (first | (with_reducible exact HS5.out) | (with_reducible apply St.alloc) | (with_reducible apply St.set0) | (with_reducible apply St.set1) | (with_reducible apply St.set2) | (with_reducible apply St.set3) | (with_reducible apply St.drew) | (with_reducible apply St.drewN))); all_goals (try (first | rfl | (simp; done)))
    · have HF2 := hide (show (f r).2 = false by simpa using hf2)
      have HOK := hide (show chpOk r f = false by simp [chpOk, HF2.out])
      clear hf2
      go_enter Try.func30, Try.ntmps30
      go_wp2_with (first
        | (go_at_call 56
           refine (validPost_c r _ _ (H1.out.below HS0.out.below) HT.out).mono ?_
           rintro e w1 ⟨rfl, hb⟩
           rw [HV.out]
           have HS1 := hide (HS0.out.by hb)
           (try clear x0 x1 xf xz)
           obtain ⟨x0, x1⟩ := HS1.out.at0.c2
           have xf := HS1.out.at0.frozen
           have xz := HS1.out.at0.lt
           (try clear y0 y1 yz)
           obtain ⟨y0, y1⟩ := HS1.out.at1.c2
           have yz := HS1.out.at1.lt
           clear hb)
        | (go_at_call 57
           refine (clonePost_c r _ _ (H1.out.below HS1.out.below) HFEW.out).mono ?_
           rintro e w2 he
           obtain ⟨cs2, F2, rfl, hK, hb, hS⟩ := HS1.out.elem he
           obtain ⟨u1, rfl, k1⟩ := post_K hK
           obtain ⟨B1, e1, rfl⟩ := k1.shape
           have HS2 := hide hS
           (try clear x0 x1 xf xz)
           obtain ⟨x0, x1⟩ := HS2.out.at1.c2
           have xf := HS2.out.at1.frozen
           have xz := HS2.out.at1.lt
           have HS3 := hide (St.box (e := 28) (k := w2.heap.size) (arr := #[.int .i64 r.limit, .slice B1 r.boxes.length e1]) hS rfl rfl)
           clear hK k1 hb hS he)
        | (go_at_fn g
           refine (HTU.out r w2.heap.size _ _ [blk (w.heap.size + 1) #[.int .i64 0, .slice none 0 0] 28, blk w.heap.size #[.int .i64 r.limit, .slice A1 r.boxes.length c1] 28] (St.rot (M := [blk (w.heap.size + 1) #[.int .i64 0, .slice none 0 0] 28, blk w.heap.size #[.int .i64 r.limit, .slice A1 r.boxes.length c1] 28]) (St.over HX.out HS3.out)) HV.out).mono ?_
           rintro e w4 ⟨rfl, A4, X4, hS4, hyes⟩
           rw [HF2.out]
           replace hS4 := hS4.rot
           simp only [List.cons_append, List.nil_append] at hS4
           have HS4 := hide hS4.drop
           (try clear x0 x1 xf xz)
           obtain ⟨x0, x1⟩ := (St.at0 HS4.out).c2
           have xf := (St.at0 HS4.out).frozen
           have xz := (St.at0 HS4.out).lt
           clear hS4 hyes))
      (refine bodyPost_ret (v := .tuple #[.agg #[.int .i64 0, .slice none 0 0], .bool false]) (by simp [results, Try.results30, go_sem, x0, x1, xf, xz]) rfl ?_; rw [chP_no HOK.out, HOK.out]; refine ⟨[.int .i64 0, .slice none 0 0], [], ?xxb, rfl, St.noPost ?ssb, fun h => by cases h⟩)
      case ssb =>
          show St w0 _ (blk (w.heap.size + 1) #[.int .i64 0, .slice none 0 0] 28 :: blk w.heap.size #[.int .i64 r.limit, .slice A1 r.boxes.length c1] 28 :: X4)
          (repeat (first | (with_reducible exact HS4.out) | (with_reducible apply St.alloc) | (with_reducible apply St.set0) | (with_reducible apply St.set1) | (with_reducible apply St.set2) | (with_reducible apply St.set3) | (with_reducible apply St.drew) | (with_reducible apply St.drewN))); all_goals (try (first | rfl | (simp; done)))
  · have HV := hide (show validPostB r = false by simpa using hv)
    have HOK := hide (show chpOk r f = false by simp [chpOk, HV.out])
    clear hv
    go_enter Try.func30, Try.ntmps30
    go_wp2_with (go_at_call 56
                 refine (validPost_c r _ _ (H1.out.below HS0.out.below) HT.out).mono ?_
                 rintro e w1 ⟨rfl, hb⟩
                 rw [HV.out]
                 have HS1 := hide (HS0.out.by hb)
                 (try clear x0 x1 xf xz)
                 obtain ⟨x0, x1⟩ := HS1.out.at0.c2
                 have xf := HS1.out.at0.frozen
                 have xz := HS1.out.at0.lt
                 (try clear y0 y1 yz)
                 obtain ⟨y0, y1⟩ := HS1.out.at1.c2
                 have yz := HS1.out.at1.lt
                 clear hb)
    (refine bodyPost_ret (v := .tuple #[.agg #[.int .i64 0, .slice none 0 0], .bool false]) (by simp [results, Try.results30, go_sem, x0, x1, xf, xz]) rfl ?_; rw [chP_no HOK.out, HOK.out]; refine ⟨[.int .i64 0, .slice none 0 0], [], ?xxc, rfl, St.noPost ?ssc, fun h => by cases h⟩)
    case ssc =>
      refine St.over (L := [blk (w.heap.size + 1) #[.int .i64 0, .slice none 0 0] 28, blk w.heap.size #[.int .i64 r.limit, .slice A1 r.boxes.length c1] 28]) HX.out ?_
      (repeat (first | (with_reducible exact HS1.out) | (with_reducible apply St.alloc) | (with_reducible apply St.set0) | (with_reducible apply St.set1) | (with_reducible apply St.set2) | (with_reducible apply St.set3) | (with_reducible apply St.drew) | (with_reducible apply St.drewN))); all_goals (try (first | rfl | (simp; done)))
end Go.Proofs.Ytdmhjfajicclaaa
