/- A message is posted: the reference. -/
import Derived.Test.YtodmongmaoeknaaGreatPost
namespace Go.Proofs.YtodmongmaoeknaaGreat
open Go Go.RowKit Go.BigFrame
attribute [local go_sem] Calm.cell Calm.frozen
set_option linter.unusedVariables false
set_option linter.unusedSimpArgs false


/-- What the reference's post hands out. -/
def RetPost (l : Log) (s a : Int) (t : ByteArray) (r : Int) (w : World) (e : Ending) (w' : World) : Prop :=
  RetElem2 logD w (if (postC l r && validLogB (postNew l s a t r)) then postNew l s a t r else noLog) (postC l r && validLogB (postNew l s a t r)) e w'
theorem post_empty (w2 : World) (x y : Obj) : SliceM intD 2 ((((w2.alloc x).alloc (.cells #[] 2)).alloc y).drew) (.slice (some ⟨w2.heap.size + 1, 0, none⟩) 0 0) [] [w2.heap.size + 1] := by
  have h := emptyM (d := intD) (e := 2) (w2.alloc x)
  simp only [World.size_alloc] at h
  exact h.move fun y hy => alloc_old _ _ (by have : y = w2.heap.size + 1 := by simpa using hy
                                             simp; omega)
set_option maxHeartbeats 8000000 in
set_option maxRecDepth 100000 in
theorem l03Post_c (l : Log) (b o : Nat) (s a : Int) (t : ByteArray) (r : Int) (w : World) (hp : RowAt logD w b o [l]) (ht : okTexts l.messages) (hv : validLogB l = true) (hst : t.size ≤ 1048576) :
    Calls Tryz.prog 49 #[.pointer (some ⟨b, o, none⟩), .int .i64 s, .int .i64 a, .string t, .int .i64 r] w (RetPost l s a t r w) := by
  obtain ⟨v1, h1, hbz, hb0, hb1⟩ := log_at hp (Below.refl _ _) (j := 0) rfl
  simp only [Nat.zero_mul, Nat.add_zero] at hb0 hb1
  obtain ⟨A, c, rfl, hl, hm, hra⟩ := h1
  have HP := hide hp
  have h40 := validLog_40 hv
  have hnx := valid_next hv
  have hwr : IntKind.i64.wrap (l.next + 1) = l.next + 1 := IntWalk.i64_in _ (by omega)
  have HT2 := hide (post_texts (s := s) (a := a) (r := r) ht hst)
  have HFEW := hide (fewL_of hv)
  have HA0 := hide ((Below.refl w.heap.size w).alloc (Nat.le_refl _) (.cells #[.int .i64 0, .slice none 0 0] 31))
  clear hp hv ht hnx
  by_cases h0 : r = 0
  · subst h0
    have HC := hide (postC_zero (l := l) (r := 0) rfl)
    clear hra
    by_cases hv2 : validLogB (postNew l s a t 0) = true
    · have HV2 := hide hv2
      have HCV := hide (show (postC l 0 && validLogB (postNew l s a t 0)) = true by rw [HC.out, hv2]; rfl)
      clear hv2
      go_enter Tryz.func49, Tryz.ntmps49
      go_wp2_with (first
        | (go_at_call 73
           refine (l03Find_c l _ _ _ _ (HP.out.below HA0.out)).mono ?_
           rintro e w1 ⟨rfl, hb⟩
           skip
           have HB1 := hide (HA0.out.trans (hb.mono HA0.out.size))
           have hz1 := hb.size
           simp only [World.size_alloc] at hz1
           have b0 := cell_below HB1.out hb0
           have b1 := cell_below HB1.out hb1
           have hbr1 := Nat.lt_of_lt_of_le hbz HB1.out.size
           have hbl := (hb.block _ (by simp)).trans (alloc_new w _)
           have HBL1 := hide hbl
           have p0 : w1.cell? ⟨w.heap.size, 0, none⟩ = some (.int .i64 0) := by rw [cell_block hbl]; rfl
           have p1 : w1.cell? ⟨w.heap.size, 1, none⟩ = some (.slice none 0 0) := by rw [cell_block hbl]; rfl
           have pf : ∀ o, w1.frozen? ⟨w.heap.size, o, none⟩ = false := fun o => frozen_block hbl
           have HE := HB1
           skip
           clear hb hbl)
        | (go_at_call 32
           refine (l03Own_c l _ _ _ (HP.out.below HB1.out) HFEW.out).mono ?_
           rintro e w2 ⟨cs2, F2, rfl, hM2, hF2, hge2, hb⟩
           obtain ⟨v2, F2', rfl, rfl, hS2⟩ := log_M hM2
           obtain ⟨A5, c5, rfl⟩ := hS2.toK.shape
           have hz2 := hb.size
           have n0 := cell_below hb b0
           have hbr2 : b < w2.heap.size := Nat.lt_of_lt_of_le hbr1 hz2
           have HE2 := hide (HE.out.trans (hb.mono HE.out.size))
           have hbl := (hb.block _ (by omega)).trans HBL1.out
           have HBL2 := hide hbl
           have HS := hide hS2
           have HF := hide hF2
           have HGE := hide (show ∀ x ∈ F2, w.heap.size + 1 ≤ x from fun x hx => (by have := hge2 x hx; omega))
           clear hb hbl hM2 hF2 hge2 hS2 p0 p1 pf HE b0 b1))
      go_region_law (
        refine step_app (d := messageD) rfl (.tmp 37) (.tmp 48) 29 rfl (.agg #[(.int .i64 0), (.int .i64 0), (.int .i64 0), (.string ⟨#[]⟩), (.int .i64 0), (.bool false), (.int .i64 0), (.slice none 0 0)]) 8 88 Tryz.underlying29 infoMsg rfl (by omega) rfl (.slice A5 l.messages.length c5) l.messages F2 (by simp [Act.eval, Act.put])
          (HS.out.move fun b hb => (((((Chg.refl [] w2).alloc _).alloc _).alloc _).drew).block b (HS.out.lt b hb) (by simp)) HF.out ⟨w2.heap.size + 1 + 1, 0, none⟩ 1 1 (by simp [Act.eval, Act.put]) [postM l s a t 0] [[.int .i64 l.next, .int .i64 s, .int .i64 a, .string t, .int .i64 0, .bool false, .int .i64 0, .slice (some ⟨w2.heap.size + 1, 0, none⟩) 0 0]] [[w2.heap.size + 1]] rfl
          (.cons (message_M_mk (x := postM l s a t 0) (post_empty w2 _ _)) .nil) (by simp)
          (fun b hb hb2 => by have h1 := HS.out.lt b hb2; simp at hb; omega)
          (fun j u hu => by
            rw [addr_add]
            have h := World.cell?_alloc_new ((w2.alloc (.cells #[.int .i64 l.next, .slice A5 l.messages.length c5] 31)).alloc (.cells #[] 2)) #[.int .i64 l.next, .int .i64 s, .int .i64 a, .string t, .int .i64 0, .bool false, .int .i64 0, .slice (some ⟨w2.heap.size + 1, 0, none⟩) 0 0] 82 j
            simp only [World.size_alloc] at h
            exact h.trans (by simpa using hu)) (by omega) (by unfold maxLen; omega) (by omega) ?_
        intro g cap w3 F3 hap
        have ho := post_step (w := w2.alloc (.cells #[.int .i64 l.next, .slice A5 l.messages.length c5] 31)) (nx' := l.next + 1) (alloc_new w2 _) (show w2.heap.size ∉ F2 from fun h => (by have := HS.out.lt _ h; omega)) ((((Chg.refl [] _).alloc _).alloc _).drew) (by simp) hap
        have HO := hide ho.2
        have z0 : w3.cell? ⟨w2.heap.size, 0, none⟩ = some (.int .i64 l.next) := by rw [cell_block ho.1]; rfl
        have z1 : w3.cell? ⟨w2.heap.size, 1, none⟩ = some (.slice A5 l.messages.length c5) := by rw [cell_block ho.1]; rfl
        have zf : ∀ o, w3.frozen? ⟨w2.heap.size, o, none⟩ = false := fun o => frozen_block ho.1
        have m0 : w3.cell? ⟨b, o, none⟩ = some (.int .i64 l.next) := ((((((Chg.refl F2 w2).alloc _).alloc _).alloc _).drew).trans hap.chg).cell (fun h => by have h1 := HGE.out b h; omega) n0
        clear ho hap)
      all_goals
        go_wp2_with (
          go_at_call 74
          obtain ⟨hbx, hS5, hF5, hfr5, hn5, hc5⟩ := HO.out
          refine (giveYes_c (postNew l s a t 0) _ _ hS5.toK HT2.out HV2.out).mono ?_
          rintro e w5 ⟨rfl, hb⟩
          have cE : Chg F2 w2 _ := (((Chg.refl (w2.heap.size :: F2) w2).alloc _).trans hc5).mono (fun y hy => (by rcases List.mem_cons.1 hy with h | h; exact .inr (by omega); exact .inl h))
          have hge5 : ∀ x ∈ F3, w.heap.size + 1 ≤ x := fun x hx => (by rcases hfr5 x hx with h | h; exact HGE.out x h; simp at h; omega)
          have HS5 := hide (And.intro (hS5.by hb) (And.intro hF5 hge5))
          have hsz := cE.size
          have HE := hide ((HE2.out.trans (cE.below (B := w.heap.size) HE2.out.size (fun x hx => by have := HGE.out x hx; omega))).trans (hb.mono (by have := HE2.out.size; omega)))
          have hbl := (hb.block _ (by omega)).trans ((cE.block _ (by omega) (fun h => by have := HGE.out _ h; omega)).trans HBL2.out)
          have p0 : w5.cell? ⟨w.heap.size, 0, none⟩ = some (.int .i64 0) := by rw [cell_block hbl]; rfl
          have p1 : w5.cell? ⟨w.heap.size, 1, none⟩ = some (.slice none 0 0) := by rw [cell_block hbl]; rfl
          have pf : ∀ o, w5.frozen? ⟨w.heap.size, o, none⟩ = false := fun o => frozen_block hbl
          clear hb hbl hbx hS5 hF5 hfr5 hn5 hc5 cE hge5)
        have HZ : Hid (∀ wz, Chg [w.heap.size] w5 wz → RetPost l s a t 0 w (.returned (.tuple #[.agg #[.int .i64 (l.next + 1), .slice (some ⟨g, 0, none⟩) (l.messages ++ [postM l s a t 0]).length cap], .bool true])) wz) := by
          intro wz hch
          unfold RetPost
          rw [HCV.out, if_pos rfl]
          obtain ⟨hS, hF, hge⟩ := HS5.out
          exact ⟨_, F3, rfl, log_M_mk (x := postNew l s a t 0) (v1 := .slice (some ⟨g, 0, none⟩) (l.messages ++ [postM l s a t 0]).length cap) (by have h := hS.move fun b hb => hch.block b (hS.lt b hb) (by have := hge b hb; simp; omega); simpa [postNew] using h), hF, fun b hb => by have := hge b hb; omega, HE.out.trans (hch.below HE.out.size (by simp))⟩
        refine bodyPost_ret (v := .tuple #[.agg #[.int .i64 (l.next + 1), .slice (some ⟨g, 0, none⟩) (l.messages ++ [postM l s a t 0]).length cap], .bool true]) (by simp [results, Tryz.results49, go_sem, p0, p1, pf, postNew]) rfl (HZ.out _ ?_)
        (repeat (with_reducible refine Chg.setCell ?_ (.inl (by simp)) _))
        exact Chg.refl _ _
    · have HV2 := hide (show validLogB (postNew l s a t 0) = false by simpa using hv2)
      have HCV := hide (show (postC l 0 && validLogB (postNew l s a t 0)) = false by rw [HV2.out]; simp)
      clear hv2
      go_enter Tryz.func49, Tryz.ntmps49
      go_wp2_with (first
        | (go_at_call 73
           refine (l03Find_c l _ _ _ _ (HP.out.below HA0.out)).mono ?_
           rintro e w1 ⟨rfl, hb⟩
           skip
           have HB1 := hide (HA0.out.trans (hb.mono HA0.out.size))
           have hz1 := hb.size
           simp only [World.size_alloc] at hz1
           have b0 := cell_below HB1.out hb0
           have b1 := cell_below HB1.out hb1
           have hbr1 := Nat.lt_of_lt_of_le hbz HB1.out.size
           have hbl := (hb.block _ (by simp)).trans (alloc_new w _)
           have HBL1 := hide hbl
           have p0 : w1.cell? ⟨w.heap.size, 0, none⟩ = some (.int .i64 0) := by rw [cell_block hbl]; rfl
           have p1 : w1.cell? ⟨w.heap.size, 1, none⟩ = some (.slice none 0 0) := by rw [cell_block hbl]; rfl
           have pf : ∀ o, w1.frozen? ⟨w.heap.size, o, none⟩ = false := fun o => frozen_block hbl
           have HE := HB1
           skip
           clear hb hbl)
        | (go_at_call 32
           refine (l03Own_c l _ _ _ (HP.out.below HB1.out) HFEW.out).mono ?_
           rintro e w2 ⟨cs2, F2, rfl, hM2, hF2, hge2, hb⟩
           obtain ⟨v2, F2', rfl, rfl, hS2⟩ := log_M hM2
           obtain ⟨A5, c5, rfl⟩ := hS2.toK.shape
           have hz2 := hb.size
           have n0 := cell_below hb b0
           have hbr2 : b < w2.heap.size := Nat.lt_of_lt_of_le hbr1 hz2
           have HE2 := hide (HE.out.trans (hb.mono HE.out.size))
           have hbl := (hb.block _ (by omega)).trans HBL1.out
           have HBL2 := hide hbl
           have HS := hide hS2
           have HF := hide hF2
           have HGE := hide (show ∀ x ∈ F2, w.heap.size + 1 ≤ x from fun x hx => (by have := hge2 x hx; omega))
           clear hb hbl hM2 hF2 hge2 hS2 p0 p1 pf HE b0 b1))
      go_region_law (
        refine step_app (d := messageD) rfl (.tmp 37) (.tmp 48) 29 rfl (.agg #[(.int .i64 0), (.int .i64 0), (.int .i64 0), (.string ⟨#[]⟩), (.int .i64 0), (.bool false), (.int .i64 0), (.slice none 0 0)]) 8 88 Tryz.underlying29 infoMsg rfl (by omega) rfl (.slice A5 l.messages.length c5) l.messages F2 (by simp [Act.eval, Act.put])
          (HS.out.move fun b hb => (((((Chg.refl [] w2).alloc _).alloc _).alloc _).drew).block b (HS.out.lt b hb) (by simp)) HF.out ⟨w2.heap.size + 1 + 1, 0, none⟩ 1 1 (by simp [Act.eval, Act.put]) [postM l s a t 0] [[.int .i64 l.next, .int .i64 s, .int .i64 a, .string t, .int .i64 0, .bool false, .int .i64 0, .slice (some ⟨w2.heap.size + 1, 0, none⟩) 0 0]] [[w2.heap.size + 1]] rfl
          (.cons (message_M_mk (x := postM l s a t 0) (post_empty w2 _ _)) .nil) (by simp)
          (fun b hb hb2 => by have h1 := HS.out.lt b hb2; simp at hb; omega)
          (fun j u hu => by
            rw [addr_add]
            have h := World.cell?_alloc_new ((w2.alloc (.cells #[.int .i64 l.next, .slice A5 l.messages.length c5] 31)).alloc (.cells #[] 2)) #[.int .i64 l.next, .int .i64 s, .int .i64 a, .string t, .int .i64 0, .bool false, .int .i64 0, .slice (some ⟨w2.heap.size + 1, 0, none⟩) 0 0] 82 j
            simp only [World.size_alloc] at h
            exact h.trans (by simpa using hu)) (by omega) (by unfold maxLen; omega) (by omega) ?_
        intro g cap w3 F3 hap
        have ho := post_step (w := w2.alloc (.cells #[.int .i64 l.next, .slice A5 l.messages.length c5] 31)) (nx' := l.next + 1) (alloc_new w2 _) (show w2.heap.size ∉ F2 from fun h => (by have := HS.out.lt _ h; omega)) ((((Chg.refl [] _).alloc _).alloc _).drew) (by simp) hap
        have HO := hide ho.2
        have z0 : w3.cell? ⟨w2.heap.size, 0, none⟩ = some (.int .i64 l.next) := by rw [cell_block ho.1]; rfl
        have z1 : w3.cell? ⟨w2.heap.size, 1, none⟩ = some (.slice A5 l.messages.length c5) := by rw [cell_block ho.1]; rfl
        have zf : ∀ o, w3.frozen? ⟨w2.heap.size, o, none⟩ = false := fun o => frozen_block ho.1
        have m0 : w3.cell? ⟨b, o, none⟩ = some (.int .i64 l.next) := ((((((Chg.refl F2 w2).alloc _).alloc _).alloc _).drew).trans hap.chg).cell (fun h => by have h1 := HGE.out b h; omega) n0
        clear ho hap)
      all_goals
        go_wp2_with (
          go_at_call 74
          obtain ⟨hbx, hS5, hF5, hfr5, hn5, hc5⟩ := HO.out
          refine (giveNo_c (postNew l s a t 0) _ _ hS5.toK HT2.out HV2.out).mono ?_
          rintro e w5 ⟨rfl, hb⟩
          have cE : Chg F2 w2 _ := (((Chg.refl (w2.heap.size :: F2) w2).alloc _).trans hc5).mono (fun y hy => (by rcases List.mem_cons.1 hy with h | h; exact .inr (by omega); exact .inl h))
          have hge5 : ∀ x ∈ F3, w.heap.size + 1 ≤ x := fun x hx => (by rcases hfr5 x hx with h | h; exact HGE.out x h; simp at h; omega)
          have HS5 := hide (And.intro (hS5.by hb) (And.intro hF5 hge5))
          have hsz := cE.size
          have HE := hide ((HE2.out.trans (cE.below (B := w.heap.size) HE2.out.size (fun x hx => by have := HGE.out x hx; omega))).trans (hb.mono (by have := HE2.out.size; omega)))
          have hbl := (hb.block _ (by omega)).trans ((cE.block _ (by omega) (fun h => by have := HGE.out _ h; omega)).trans HBL2.out)
          have p0 : w5.cell? ⟨w.heap.size, 0, none⟩ = some (.int .i64 0) := by rw [cell_block hbl]; rfl
          have p1 : w5.cell? ⟨w.heap.size, 1, none⟩ = some (.slice none 0 0) := by rw [cell_block hbl]; rfl
          have pf : ∀ o, w5.frozen? ⟨w.heap.size, o, none⟩ = false := fun o => frozen_block hbl
          clear hb hbl hbx hS5 hF5 hfr5 hn5 hc5 cE hge5)
        have HZ : Hid (∀ wz, Chg [w.heap.size] w5 wz → RetPost l s a t 0 w (.returned (.tuple #[.agg #[.int .i64 0, .slice none 0 0], .bool false])) wz) := by
          intro wz hch
          unfold RetPost
          rw [HCV.out]
          exact ⟨_, [], rfl, noLog_M wz, by simp, by simp, HE.out.trans (hch.below HE.out.size (by simp))⟩
        refine bodyPost_ret (v := .tuple #[.agg #[.int .i64 0, .slice none 0 0], .bool false]) (by simp [results, Tryz.results49, go_sem, p0, p1, pf]) rfl (HZ.out _ ?_)
        (repeat (with_reducible refine Chg.setCell ?_ (.inl (by simp)) _))
        exact Chg.refl _ _
  · have h0' : (r != 0) = true := by simp [h0]
    by_cases hn : 0 ≤ idxP (numIs r) l.messages
    · obtain ⟨k, m, hk, hlk, hx, hmn⟩ := idx_found hn
      have hlt2 : (k : Int) < (l.messages.length : Int) := by omega
      have HX := hide hx
      have HC0 := hide (postC_at h0 hk hx)
      clear hn hx hmn
      rcases hra with hnil | ⟨q, o2, rfl, hra⟩
      · rw [hnil] at hlk; simp at hlk
      have HRB := hide hra
      clear hra
      by_cases hg : m.gone = true
      · have HC := hide (show postC l r = false by rw [HC0.out, hg]; rfl)
        have HCV := hide (show (postC l r && validLogB (postNew l s a t r)) = false by rw [HC.out]; rfl)
        go_enter Tryz.func49, Tryz.ntmps49
        go_wp2_with (go_at_call 73
                     refine (l03Find_c l _ _ _ _ (HP.out.below HA0.out)).mono ?_
                     rintro e w1 ⟨rfl, hb⟩
                     rw [hk]
                     have HB1 := hide (HA0.out.trans (hb.mono HA0.out.size))
                     have hz1 := hb.size
                     simp only [World.size_alloc] at hz1
                     have b0 := cell_below HB1.out hb0
                     have b1 := cell_below HB1.out hb1
                     have hbr1 := Nat.lt_of_lt_of_le hbz HB1.out.size
                     have hbl := (hb.block _ (by simp)).trans (alloc_new w _)
                     have HBL1 := hide hbl
                     have p0 : w1.cell? ⟨w.heap.size, 0, none⟩ = some (.int .i64 0) := by rw [cell_block hbl]; rfl
                     have p1 : w1.cell? ⟨w.heap.size, 1, none⟩ = some (.slice none 0 0) := by rw [cell_block hbl]; rfl
                     have pf : ∀ o, w1.frozen? ⟨w.heap.size, o, none⟩ = false := fun o => frozen_block hbl
                     have HE := HB1
                     obtain ⟨v7, h7, hq, hc0, hc1, hc2, hc3, hc4, hc5, hc6, hc7⟩ := message_at HRB.out HB1.out HX.out
                     clear hb hbl)
        have HZ : Hid (∀ wz, Chg [w.heap.size] w1 wz → RetPost l s a t r w (.returned (.tuple #[.agg #[.int .i64 0, .slice none 0 0], .bool false])) wz) := by
          intro wz hch
          unfold RetPost
          rw [HCV.out]
          exact ⟨_, [], rfl, noLog_M wz, by simp, by simp, HE.out.trans (hch.below HE.out.size (by simp))⟩
        refine bodyPost_ret (v := .tuple #[.agg #[.int .i64 0, .slice none 0 0], .bool false]) (by simp [results, Tryz.results49, go_sem, p0, p1, pf]) rfl (HZ.out _ ?_)
        (repeat (with_reducible refine Chg.setCell ?_ (.inl (by simp)) _))
        exact Chg.refl _ _
      · have hg' : m.gone = false := by simpa using hg
        clear hg
        have HC := hide (show postC l r = true by rw [HC0.out, hg']; rfl)
        by_cases hv2 : validLogB (postNew l s a t r) = true
        · have HV2 := hide hv2
          have HCV := hide (show (postC l r && validLogB (postNew l s a t r)) = true by rw [HC.out, hv2]; rfl)
          clear hv2
          go_enter Tryz.func49, Tryz.ntmps49
          go_wp2_with (first
            | (go_at_call 73
               refine (l03Find_c l _ _ _ _ (HP.out.below HA0.out)).mono ?_
               rintro e w1 ⟨rfl, hb⟩
               rw [hk]
               have HB1 := hide (HA0.out.trans (hb.mono HA0.out.size))
               have hz1 := hb.size
               simp only [World.size_alloc] at hz1
               have b0 := cell_below HB1.out hb0
               have b1 := cell_below HB1.out hb1
               have hbr1 := Nat.lt_of_lt_of_le hbz HB1.out.size
               have hbl := (hb.block _ (by simp)).trans (alloc_new w _)
               have HBL1 := hide hbl
               have p0 : w1.cell? ⟨w.heap.size, 0, none⟩ = some (.int .i64 0) := by rw [cell_block hbl]; rfl
               have p1 : w1.cell? ⟨w.heap.size, 1, none⟩ = some (.slice none 0 0) := by rw [cell_block hbl]; rfl
               have pf : ∀ o, w1.frozen? ⟨w.heap.size, o, none⟩ = false := fun o => frozen_block hbl
               have HE := HB1
               obtain ⟨v7, h7, hq, hc0, hc1, hc2, hc3, hc4, hc5, hc6, hc7⟩ := message_at HRB.out HB1.out HX.out
               clear hb hbl)
            | (go_at_call 32
               refine (l03Own_c l _ _ _ (HP.out.below HB1.out) HFEW.out).mono ?_
               rintro e w2 ⟨cs2, F2, rfl, hM2, hF2, hge2, hb⟩
               obtain ⟨v2, F2', rfl, rfl, hS2⟩ := log_M hM2
               obtain ⟨A5, c5, rfl⟩ := hS2.toK.shape
               have hz2 := hb.size
               have n0 := cell_below hb b0
               have hbr2 : b < w2.heap.size := Nat.lt_of_lt_of_le hbr1 hz2
               have HE2 := hide (HE.out.trans (hb.mono HE.out.size))
               have hbl := (hb.block _ (by omega)).trans HBL1.out
               have HBL2 := hide hbl
               have HS := hide hS2
               have HF := hide hF2
               have HGE := hide (show ∀ x ∈ F2, w.heap.size + 1 ≤ x from fun x hx => (by have := hge2 x hx; omega))
               clear hb hbl hM2 hF2 hge2 hS2 p0 p1 pf HE b0 b1))
          go_region_law (
            refine step_app (d := messageD) rfl (.tmp 37) (.tmp 48) 29 rfl (.agg #[(.int .i64 0), (.int .i64 0), (.int .i64 0), (.string ⟨#[]⟩), (.int .i64 0), (.bool false), (.int .i64 0), (.slice none 0 0)]) 8 88 Tryz.underlying29 infoMsg rfl (by omega) rfl (.slice A5 l.messages.length c5) l.messages F2 (by simp [Act.eval, Act.put])
              (HS.out.move fun b hb => (((((Chg.refl [] w2).alloc _).alloc _).alloc _).drew).block b (HS.out.lt b hb) (by simp)) HF.out ⟨w2.heap.size + 1 + 1, 0, none⟩ 1 1 (by simp [Act.eval, Act.put]) [postM l s a t r] [[.int .i64 l.next, .int .i64 s, .int .i64 a, .string t, .int .i64 0, .bool false, .int .i64 r, .slice (some ⟨w2.heap.size + 1, 0, none⟩) 0 0]] [[w2.heap.size + 1]] rfl
              (.cons (message_M_mk (x := postM l s a t r) (post_empty w2 _ _)) .nil) (by simp)
              (fun b hb hb2 => by have h1 := HS.out.lt b hb2; simp at hb; omega)
              (fun j u hu => by
                rw [addr_add]
                have h := World.cell?_alloc_new ((w2.alloc (.cells #[.int .i64 l.next, .slice A5 l.messages.length c5] 31)).alloc (.cells #[] 2)) #[.int .i64 l.next, .int .i64 s, .int .i64 a, .string t, .int .i64 0, .bool false, .int .i64 r, .slice (some ⟨w2.heap.size + 1, 0, none⟩) 0 0] 82 j
                simp only [World.size_alloc] at h
                exact h.trans (by simpa using hu)) (by omega) (by unfold maxLen; omega) (by omega) ?_
            intro g cap w3 F3 hap
            have ho := post_step (w := w2.alloc (.cells #[.int .i64 l.next, .slice A5 l.messages.length c5] 31)) (nx' := l.next + 1) (alloc_new w2 _) (show w2.heap.size ∉ F2 from fun h => (by have := HS.out.lt _ h; omega)) ((((Chg.refl [] _).alloc _).alloc _).drew) (by simp) hap
            have HO := hide ho.2
            have z0 : w3.cell? ⟨w2.heap.size, 0, none⟩ = some (.int .i64 l.next) := by rw [cell_block ho.1]; rfl
            have z1 : w3.cell? ⟨w2.heap.size, 1, none⟩ = some (.slice A5 l.messages.length c5) := by rw [cell_block ho.1]; rfl
            have zf : ∀ o, w3.frozen? ⟨w2.heap.size, o, none⟩ = false := fun o => frozen_block ho.1
            have m0 : w3.cell? ⟨b, o, none⟩ = some (.int .i64 l.next) := ((((((Chg.refl F2 w2).alloc _).alloc _).alloc _).drew).trans hap.chg).cell (fun h => by have h1 := HGE.out b h; omega) n0
            clear ho hap)
          all_goals
            go_wp2_with (
              go_at_call 74
              obtain ⟨hbx, hS5, hF5, hfr5, hn5, hc5⟩ := HO.out
              refine (giveYes_c (postNew l s a t r) _ _ hS5.toK HT2.out HV2.out).mono ?_
              rintro e w5 ⟨rfl, hb⟩
              have cE : Chg F2 w2 _ := (((Chg.refl (w2.heap.size :: F2) w2).alloc _).trans hc5).mono (fun y hy => (by rcases List.mem_cons.1 hy with h | h; exact .inr (by omega); exact .inl h))
              have hge5 : ∀ x ∈ F3, w.heap.size + 1 ≤ x := fun x hx => (by rcases hfr5 x hx with h | h; exact HGE.out x h; simp at h; omega)
              have HS5 := hide (And.intro (hS5.by hb) (And.intro hF5 hge5))
              have hsz := cE.size
              have HE := hide ((HE2.out.trans (cE.below (B := w.heap.size) HE2.out.size (fun x hx => by have := HGE.out x hx; omega))).trans (hb.mono (by have := HE2.out.size; omega)))
              have hbl := (hb.block _ (by omega)).trans ((cE.block _ (by omega) (fun h => by have := HGE.out _ h; omega)).trans HBL2.out)
              have p0 : w5.cell? ⟨w.heap.size, 0, none⟩ = some (.int .i64 0) := by rw [cell_block hbl]; rfl
              have p1 : w5.cell? ⟨w.heap.size, 1, none⟩ = some (.slice none 0 0) := by rw [cell_block hbl]; rfl
              have pf : ∀ o, w5.frozen? ⟨w.heap.size, o, none⟩ = false := fun o => frozen_block hbl
              clear hb hbl hbx hS5 hF5 hfr5 hn5 hc5 cE hge5)
            have HZ : Hid (∀ wz, Chg [w.heap.size] w5 wz → RetPost l s a t r w (.returned (.tuple #[.agg #[.int .i64 (l.next + 1), .slice (some ⟨g, 0, none⟩) (l.messages ++ [postM l s a t r]).length cap], .bool true])) wz) := by
              intro wz hch
              unfold RetPost
              rw [HCV.out, if_pos rfl]
              obtain ⟨hS, hF, hge⟩ := HS5.out
              exact ⟨_, F3, rfl, log_M_mk (x := postNew l s a t r) (v1 := .slice (some ⟨g, 0, none⟩) (l.messages ++ [postM l s a t r]).length cap) (by have h := hS.move fun b hb => hch.block b (hS.lt b hb) (by have := hge b hb; simp; omega); simpa [postNew] using h), hF, fun b hb => by have := hge b hb; omega, HE.out.trans (hch.below HE.out.size (by simp))⟩
            refine bodyPost_ret (v := .tuple #[.agg #[.int .i64 (l.next + 1), .slice (some ⟨g, 0, none⟩) (l.messages ++ [postM l s a t r]).length cap], .bool true]) (by simp [results, Tryz.results49, go_sem, p0, p1, pf, postNew]) rfl (HZ.out _ ?_)
            (repeat (with_reducible refine Chg.setCell ?_ (.inl (by simp)) _))
            exact Chg.refl _ _
        · have HV2 := hide (show validLogB (postNew l s a t r) = false by simpa using hv2)
          have HCV := hide (show (postC l r && validLogB (postNew l s a t r)) = false by rw [HV2.out]; simp)
          clear hv2
          go_enter Tryz.func49, Tryz.ntmps49
          go_wp2_with (first
            | (go_at_call 73
               refine (l03Find_c l _ _ _ _ (HP.out.below HA0.out)).mono ?_
               rintro e w1 ⟨rfl, hb⟩
               rw [hk]
               have HB1 := hide (HA0.out.trans (hb.mono HA0.out.size))
               have hz1 := hb.size
               simp only [World.size_alloc] at hz1
               have b0 := cell_below HB1.out hb0
               have b1 := cell_below HB1.out hb1
               have hbr1 := Nat.lt_of_lt_of_le hbz HB1.out.size
               have hbl := (hb.block _ (by simp)).trans (alloc_new w _)
               have HBL1 := hide hbl
               have p0 : w1.cell? ⟨w.heap.size, 0, none⟩ = some (.int .i64 0) := by rw [cell_block hbl]; rfl
               have p1 : w1.cell? ⟨w.heap.size, 1, none⟩ = some (.slice none 0 0) := by rw [cell_block hbl]; rfl
               have pf : ∀ o, w1.frozen? ⟨w.heap.size, o, none⟩ = false := fun o => frozen_block hbl
               have HE := HB1
               obtain ⟨v7, h7, hq, hc0, hc1, hc2, hc3, hc4, hc5, hc6, hc7⟩ := message_at HRB.out HB1.out HX.out
               clear hb hbl)
            | (go_at_call 32
               refine (l03Own_c l _ _ _ (HP.out.below HB1.out) HFEW.out).mono ?_
               rintro e w2 ⟨cs2, F2, rfl, hM2, hF2, hge2, hb⟩
               obtain ⟨v2, F2', rfl, rfl, hS2⟩ := log_M hM2
               obtain ⟨A5, c5, rfl⟩ := hS2.toK.shape
               have hz2 := hb.size
               have n0 := cell_below hb b0
               have hbr2 : b < w2.heap.size := Nat.lt_of_lt_of_le hbr1 hz2
               have HE2 := hide (HE.out.trans (hb.mono HE.out.size))
               have hbl := (hb.block _ (by omega)).trans HBL1.out
               have HBL2 := hide hbl
               have HS := hide hS2
               have HF := hide hF2
               have HGE := hide (show ∀ x ∈ F2, w.heap.size + 1 ≤ x from fun x hx => (by have := hge2 x hx; omega))
               clear hb hbl hM2 hF2 hge2 hS2 p0 p1 pf HE b0 b1))
          go_region_law (
            refine step_app (d := messageD) rfl (.tmp 37) (.tmp 48) 29 rfl (.agg #[(.int .i64 0), (.int .i64 0), (.int .i64 0), (.string ⟨#[]⟩), (.int .i64 0), (.bool false), (.int .i64 0), (.slice none 0 0)]) 8 88 Tryz.underlying29 infoMsg rfl (by omega) rfl (.slice A5 l.messages.length c5) l.messages F2 (by simp [Act.eval, Act.put])
              (HS.out.move fun b hb => (((((Chg.refl [] w2).alloc _).alloc _).alloc _).drew).block b (HS.out.lt b hb) (by simp)) HF.out ⟨w2.heap.size + 1 + 1, 0, none⟩ 1 1 (by simp [Act.eval, Act.put]) [postM l s a t r] [[.int .i64 l.next, .int .i64 s, .int .i64 a, .string t, .int .i64 0, .bool false, .int .i64 r, .slice (some ⟨w2.heap.size + 1, 0, none⟩) 0 0]] [[w2.heap.size + 1]] rfl
              (.cons (message_M_mk (x := postM l s a t r) (post_empty w2 _ _)) .nil) (by simp)
              (fun b hb hb2 => by have h1 := HS.out.lt b hb2; simp at hb; omega)
              (fun j u hu => by
                rw [addr_add]
                have h := World.cell?_alloc_new ((w2.alloc (.cells #[.int .i64 l.next, .slice A5 l.messages.length c5] 31)).alloc (.cells #[] 2)) #[.int .i64 l.next, .int .i64 s, .int .i64 a, .string t, .int .i64 0, .bool false, .int .i64 r, .slice (some ⟨w2.heap.size + 1, 0, none⟩) 0 0] 82 j
                simp only [World.size_alloc] at h
                exact h.trans (by simpa using hu)) (by omega) (by unfold maxLen; omega) (by omega) ?_
            intro g cap w3 F3 hap
            have ho := post_step (w := w2.alloc (.cells #[.int .i64 l.next, .slice A5 l.messages.length c5] 31)) (nx' := l.next + 1) (alloc_new w2 _) (show w2.heap.size ∉ F2 from fun h => (by have := HS.out.lt _ h; omega)) ((((Chg.refl [] _).alloc _).alloc _).drew) (by simp) hap
            have HO := hide ho.2
            have z0 : w3.cell? ⟨w2.heap.size, 0, none⟩ = some (.int .i64 l.next) := by rw [cell_block ho.1]; rfl
            have z1 : w3.cell? ⟨w2.heap.size, 1, none⟩ = some (.slice A5 l.messages.length c5) := by rw [cell_block ho.1]; rfl
            have zf : ∀ o, w3.frozen? ⟨w2.heap.size, o, none⟩ = false := fun o => frozen_block ho.1
            have m0 : w3.cell? ⟨b, o, none⟩ = some (.int .i64 l.next) := ((((((Chg.refl F2 w2).alloc _).alloc _).alloc _).drew).trans hap.chg).cell (fun h => by have h1 := HGE.out b h; omega) n0
            clear ho hap)
          all_goals
            go_wp2_with (
              go_at_call 74
              obtain ⟨hbx, hS5, hF5, hfr5, hn5, hc5⟩ := HO.out
              refine (giveNo_c (postNew l s a t r) _ _ hS5.toK HT2.out HV2.out).mono ?_
              rintro e w5 ⟨rfl, hb⟩
              have cE : Chg F2 w2 _ := (((Chg.refl (w2.heap.size :: F2) w2).alloc _).trans hc5).mono (fun y hy => (by rcases List.mem_cons.1 hy with h | h; exact .inr (by omega); exact .inl h))
              have hge5 : ∀ x ∈ F3, w.heap.size + 1 ≤ x := fun x hx => (by rcases hfr5 x hx with h | h; exact HGE.out x h; simp at h; omega)
              have HS5 := hide (And.intro (hS5.by hb) (And.intro hF5 hge5))
              have hsz := cE.size
              have HE := hide ((HE2.out.trans (cE.below (B := w.heap.size) HE2.out.size (fun x hx => by have := HGE.out x hx; omega))).trans (hb.mono (by have := HE2.out.size; omega)))
              have hbl := (hb.block _ (by omega)).trans ((cE.block _ (by omega) (fun h => by have := HGE.out _ h; omega)).trans HBL2.out)
              have p0 : w5.cell? ⟨w.heap.size, 0, none⟩ = some (.int .i64 0) := by rw [cell_block hbl]; rfl
              have p1 : w5.cell? ⟨w.heap.size, 1, none⟩ = some (.slice none 0 0) := by rw [cell_block hbl]; rfl
              have pf : ∀ o, w5.frozen? ⟨w.heap.size, o, none⟩ = false := fun o => frozen_block hbl
              clear hb hbl hbx hS5 hF5 hfr5 hn5 hc5 cE hge5)
            have HZ : Hid (∀ wz, Chg [w.heap.size] w5 wz → RetPost l s a t r w (.returned (.tuple #[.agg #[.int .i64 0, .slice none 0 0], .bool false])) wz) := by
              intro wz hch
              unfold RetPost
              rw [HCV.out]
              exact ⟨_, [], rfl, noLog_M wz, by simp, by simp, HE.out.trans (hch.below HE.out.size (by simp))⟩
            refine bodyPost_ret (v := .tuple #[.agg #[.int .i64 0, .slice none 0 0], .bool false]) (by simp [results, Tryz.results49, go_sem, p0, p1, pf]) rfl (HZ.out _ ?_)
            (repeat (with_reducible refine Chg.setCell ?_ (.inl (by simp)) _))
            exact Chg.refl _ _
    · have hn2 : idxP (numIs r) l.messages < 0 := by omega
      have HC := hide (postC_none h0 hn2)
      have HCV := hide (show (postC l r && validLogB (postNew l s a t r)) = false by rw [HC.out]; rfl)
      clear hra
      go_enter Tryz.func49, Tryz.ntmps49
      go_wp2_with (go_at_call 73
                   refine (l03Find_c l _ _ _ _ (HP.out.below HA0.out)).mono ?_
                   rintro e w1 ⟨rfl, hb⟩
                   skip
                   have HB1 := hide (HA0.out.trans (hb.mono HA0.out.size))
                   have hz1 := hb.size
                   simp only [World.size_alloc] at hz1
                   have b0 := cell_below HB1.out hb0
                   have b1 := cell_below HB1.out hb1
                   have hbr1 := Nat.lt_of_lt_of_le hbz HB1.out.size
                   have hbl := (hb.block _ (by simp)).trans (alloc_new w _)
                   have HBL1 := hide hbl
                   have p0 : w1.cell? ⟨w.heap.size, 0, none⟩ = some (.int .i64 0) := by rw [cell_block hbl]; rfl
                   have p1 : w1.cell? ⟨w.heap.size, 1, none⟩ = some (.slice none 0 0) := by rw [cell_block hbl]; rfl
                   have pf : ∀ o, w1.frozen? ⟨w.heap.size, o, none⟩ = false := fun o => frozen_block hbl
                   have HE := HB1
                   skip
                   clear hb hbl)
      have HZ : Hid (∀ wz, Chg [w.heap.size] w1 wz → RetPost l s a t r w (.returned (.tuple #[.agg #[.int .i64 0, .slice none 0 0], .bool false])) wz) := by
        intro wz hch
        unfold RetPost
        rw [HCV.out]
        exact ⟨_, [], rfl, noLog_M wz, by simp, by simp, HE.out.trans (hch.below HE.out.size (by simp))⟩
      refine bodyPost_ret (v := .tuple #[.agg #[.int .i64 0, .slice none 0 0], .bool false]) (by simp [results, Tryz.results49, go_sem, p0, p1, pf]) rfl (HZ.out _ ?_)
      (repeat (with_reducible refine Chg.setCell ?_ (.inl (by simp)) _))
      exact Chg.refl _ _
end Go.Proofs.YtodmongmaoeknaaGreat
