/- A message of a log: the program and the reference. -/
import Derived.Test.YtjidhgejahpmdaaClone
import Derived.Test.YtjidhgejahpmdaaRoot
import Derived.Test.YtjidhgejahpmdaaAnswers
namespace Go.Proofs.Ytjidhgejahpmdaa
open Go Go.RowKit Go.BigFrame
attribute [local go_sem] Calm.cell Calm.frozen
set_option linter.unusedVariables false
set_option linter.unusedSimpArgs false

def noMsg : Message := ⟨0, 0, 0, ⟨#[]⟩, 0, false, 0, []⟩
def msgOfM (l : Log) (n : Int) : Message := if answersOk l n then (l.messages.find? (numIs n)).getD noMsg else noMsg
theorem msgOf_yes {l : Log} {n : Int} {k : Nat} {m : Message} (h : answersOk l n = true) (hk : idxP (numIs n) l.messages = (k : Int)) (hx : l.messages[k]? = some m) : msgOfM l n = m := by
  simp [msgOfM, h, (find_of_idx hk hx).1]
theorem msgOf_no {l : Log} {n : Int} (h : answersOk l n = false) : msgOfM l n = noMsg := by simp [msgOfM, h]
theorem msgOf_cnt (l : Log) (n : Int) : tcntMessage (msgOfM l n) ≤ 20 := by
  unfold msgOfM
  split
  · rename_i h
    rcases hf : l.messages.find? (numIs n) with _ | m
    · simp [tcntMessage, noMsg]
    · simp only [Option.getD_some]
      have hv : validLogB l = true := by simp only [answersOk, Bool.and_eq_true] at h; exact h.1
      exact valid_likes (valid_msgs hv (find_num hf).1)
  · simp [tcntMessage, noMsg]
theorem noMsg_M (w : World) : messageD.M w noMsg [.int .i64 0, .int .i64 0, .int .i64 0, .string ⟨#[]⟩, .int .i64 0, .bool false, .int .i64 0, .slice none 0 0] [] :=
  message_M_mk (x := noMsg) (.inl ⟨rfl, rfl, rfl⟩)
theorem zero_cells {w : World} {b : Nat} {arr : Array Value} {t : TypeId} (h : w.heap[b]? = some (.cells arr t (0, 0))) : ∀ o, w.frozen? ⟨b, o, none⟩ = false := fun o => frozen_block h

set_option maxHeartbeats 4000000 in
set_option maxRecDepth 100000 in
theorem messageOf_c (l : Log) (v1 : Value) (n : Int) (w : World) (h1 : SliceK messageD w v1 l.messages) (ht : okTexts l.messages) :
    Calls Try.prog 25 #[.agg #[.int .i64 l.next, v1], .int .i64 n] w (RetElem2 messageD w (msgOfM l n) (answersOk l n)) := by
  obtain ⟨A, c, rfl, hl, hm, hra⟩ := h1
  have HA := hide hra
  have H1 := hide (show SliceK messageD w (.slice A l.messages.length c) l.messages from ⟨_, _, rfl, hl, hm, hra⟩)
  have HT := hide ht
  clear hra ht
  have HW := hide (((Below.refl w.heap.size w).alloc (Nat.le_refl _) (.cells #[.int .i64 l.next, .slice A l.messages.length c] 31)).alloc (by simp) (.cells #[.int .i64 0, .int .i64 0, .int .i64 0, .string ⟨#[]⟩, .int .i64 0, .bool false, .int .i64 0, .slice none 0 0] 39))
  have HBX := hide ((RowAt.box (d := logD) (x := l) (log_K_mk H1.out) (arr := #[.int .i64 l.next, .slice A l.messages.length c]) rfl 31).below ((Below.refl _ _).alloc (Nat.le_refl _) (.cells #[.int .i64 0, .int .i64 0, .int .i64 0, .string ⟨#[]⟩, .int .i64 0, .bool false, .int .i64 0, .slice none 0 0] 39)))
  have HZB := hide (show ((w.alloc (.cells #[.int .i64 l.next, .slice A l.messages.length c] 31)).alloc (.cells #[.int .i64 0, .int .i64 0, .int .i64 0, .string ⟨#[]⟩, .int .i64 0, .bool false, .int .i64 0, .slice none 0 0] 39)).heap[w.heap.size + 1]? = some (.cells #[.int .i64 0, .int .i64 0, .int .i64 0, .string ⟨#[]⟩, .int .i64 0, .bool false, .int .i64 0, .slice none 0 0] 39 (0, 0)) by
    have := alloc_new (w.alloc (.cells #[.int .i64 l.next, .slice A l.messages.length c] 31)) (.cells #[.int .i64 0, .int .i64 0, .int .i64 0, .string ⟨#[]⟩, .int .i64 0, .bool false, .int .i64 0, .slice none 0 0] 39)
    simpa using this)
  by_cases hv : validLogB l = true
  · have h40 := validLog_40 hv
    have HV := hide hv
    have HFEW := hide (fewL_of hv).2
    clear hv
    by_cases hn : 0 ≤ idxP (numIs n) l.messages
    · obtain ⟨k, m, hk, hlk, hx, hmn⟩ := idx_found hn
      have HOK := hide (show answersOk l n = true by simp [answersOk, hasNum, HV.out, hn])
      have HM := hide (msgOf_yes HOK.out hk hx)
      have hlt2 : (k : Int) < (l.messages.length : Int) := by omega
      have HX := hide hx
      have HFM := hide (HFEW.out m (List.mem_of_getElem? hx))
      rcases HA.out with hnil | ⟨q, o2, rfl, hra⟩
      · rw [hnil] at hlk; simp at hlk
      have HRA := hide hra
      clear hra HA hn hx hmn
      go_enter Try.func25, Try.ntmps25
      go_wp2_with (first
        | (go_at_call 44
           refine (validLog_c l _ _ (H1.out.below HW.out) HT.out).mono ?_
           rintro e w1 ⟨rfl, hb⟩
           rw [HV.out]
           obtain ⟨iq, rfl⟩ : ∃ i : Calm _, w1 = i.world := ⟨⟨w1, hb⟩, rfl⟩
           clear hb
           have hz := iq.size
           simp only [World.size_alloc] at hz)
        | (go_at_call 56
           refine (at_c l _ _ n _ (HBX.out.below iq.below)).mono ?_
           rintro e w1 ⟨rfl, hb⟩
           rw [hk]
           have HBR := hide (iq.below.trans (hb.mono iq.below.size))
           have hzr := HBR.out.size
           simp only [World.size_alloc] at hzr
           have hbl := (HBR.out.block _ (by simp)).trans HZB.out
           have hb1 : w1.cell? ⟨w.heap.size, 1, none⟩ = some (.slice (some ⟨q, o2, none⟩) l.messages.length c) := (HBR.out.cell (p := ⟨w.heap.size, 1, none⟩) (by simp; omega)).trans (by go_simp)
           obtain ⟨v7, h7, hq, hc0, hc1, hc2, hc3, hc4, hc5, hc6, hc7⟩ := message_at HRA.out (below_step HW.out HBR.out) HX.out
           obtain ⟨A7, c7, rfl⟩ := h7.shape
           have H7 := hide h7
           have HWR := hide (below_step HW.out HBR.out)
           have HBL := hide hbl
           have hfz := zero_cells hbl
           clear hb hbl h7))
      go_region_with (first
        | (go_at_call 56
           refine (at_c l _ _ n _ ((HBX.out.below HBR.out).below (Below.refl _ _).drew)).mono ?_
           rintro e w2 ⟨rfl, hb⟩
           rw [hk]
           have hb2 : Below w1.heap.size w1 w2 := (Below.refl _ w1).drew.trans hb
           have hb1 := cell_below hb2 hb1
           have hc0 := cell_below hb2 hc0
           have hc1 := cell_below hb2 hc1
           have hc2 := cell_below hb2 hc2
           have hc3 := cell_below hb2 hc3
           have hc4 := cell_below hb2 hc4
           have hc5 := cell_below hb2 hc5
           have hc6 := cell_below hb2 hc6
           have hc7 := cell_below hb2 hc7
           have HB2 := hide hb2
           clear hb hb2)
        | (go_at_call 65
           refine (cloneMessage_c m _ _ (H7.out.below HB2.out) HFM.out).mono ?_
           rintro e w3 ⟨cs9, F9, rfl, hM9, hF9, hge9, hb⟩
           obtain ⟨v9, F9', rfl, hFF, hS9⟩ := message_M hM9
           obtain ⟨A9, c9, rfl⟩ := hS9.toK.shape
           have hb3 := below_step HB2.out hb
           have HB3 := hide hb3
           have hz3 := hb3.size
           have hbl3 := (hb3.block _ (by omega)).trans HBL.out
           have hf3 := zero_cells hbl3
           have d0 : w3.cell? ⟨w.heap.size + 1, 0, none⟩ = some (.int .i64 0) := by rw [cell_block hbl3]; rfl
           have d1 : w3.cell? ⟨w.heap.size + 1, 1, none⟩ = some (.int .i64 0) := by rw [cell_block hbl3]; rfl
           have d2 : w3.cell? ⟨w.heap.size + 1, 2, none⟩ = some (.int .i64 0) := by rw [cell_block hbl3]; rfl
           have d3 : w3.cell? ⟨w.heap.size + 1, 3, none⟩ = some (.string ⟨#[]⟩) := by rw [cell_block hbl3]; rfl
           have d4 : w3.cell? ⟨w.heap.size + 1, 4, none⟩ = some (.int .i64 0) := by rw [cell_block hbl3]; rfl
           have d5 : w3.cell? ⟨w.heap.size + 1, 5, none⟩ = some (.bool false) := by rw [cell_block hbl3]; rfl
           have d6 : w3.cell? ⟨w.heap.size + 1, 6, none⟩ = some (.int .i64 0) := by rw [cell_block hbl3]; rfl
           have d7 : w3.cell? ⟨w.heap.size + 1, 7, none⟩ = some (.slice none 0 0) := by rw [cell_block hbl3]; rfl
           have HMD := hide (And.intro hM9 (And.intro hF9 (show ∀ b ∈ F9, w.heap.size + 1 < b from fun b hb => (by have := hge9 b hb; have := HB2.out.size; omega))))
           clear hM9 hF9 hge9 hb hS9 hFF hb3 hbl3))
      all_goals
        go_wp2_with fail
        have HZ : Hid (∀ wz, Chg [w.heap.size + 1] w3 wz → RetElem2 messageD w (msgOfM l n) (answersOk l n) (.returned (.tuple #[.agg #[.int .i64 m.number, .int .i64 m.sender, .int .i64 m.at_, .string m.text, .int .i64 m.edits, .bool m.gone, .int .i64 m.reply, .slice A9 m.likes.length c9], .bool true])) wz) := by
          intro wz hch
          obtain ⟨hM9, hF9, hge9⟩ := HMD.out
          rw [HM.out, HOK.out]
          have hs := below_step HWR.out HB3.out
          exact ⟨_, F9, rfl, Dt.M_move _ (fun b hb => hch.block b (messageD.M_lt hM9 b hb) (by have := hge9 b hb; simp; omega)) hM9, hF9, fun b hb => by have := hge9 b hb; omega, hs.trans (hch.below hs.size (by simp))⟩
        refine bodyPost_ret (v := .tuple #[.agg #[.int .i64 m.number, .int .i64 m.sender, .int .i64 m.at_, .string m.text, .int .i64 m.edits, .bool m.gone, .int .i64 m.reply, .slice A9 m.likes.length c9], .bool true]) (by simp [results, Try.results25, go_sem, d0, d1, d2, d3, d4, d5, d6, d7, hf3]) rfl (HZ.out _ ?_)
        (repeat (with_reducible refine Chg.setCell ?_ (.inl (by simp)) _))
        exact Chg.refl _ _
    · have HOK := hide (show answersOk l n = false by simp [answersOk, hasNum]; intro _; omega)
      have hn2 : idxP (numIs n) l.messages < 0 := by omega
      go_enter Try.func25, Try.ntmps25
      go_wp2_with (first
        | (go_at_call 44
           refine (validLog_c l _ _ (H1.out.below HW.out) HT.out).mono ?_
           rintro e w1 ⟨rfl, hb⟩
           rw [HV.out]
           obtain ⟨iq, rfl⟩ : ∃ i : Calm _, w1 = i.world := ⟨⟨w1, hb⟩, rfl⟩
           clear hb
           have hz := iq.size
           simp only [World.size_alloc] at hz)
        | (go_at_call 56
           refine (at_c l _ _ n _ (HBX.out.below iq.below)).mono ?_
           rintro e w1 ⟨rfl, hb⟩
           have HBR := hide (iq.below.trans (hb.mono iq.below.size))
           have HWR := hide (below_step HW.out HBR.out)
           have hzr := HBR.out.size
           simp only [World.size_alloc] at hzr
           have hbl := (HBR.out.block _ (by simp)).trans HZB.out
           have hfz := zero_cells hbl
           have d0 : w1.cell? ⟨w.heap.size + 1, 0, none⟩ = some (.int .i64 0) := by rw [cell_block hbl]; rfl
           have d1 : w1.cell? ⟨w.heap.size + 1, 1, none⟩ = some (.int .i64 0) := by rw [cell_block hbl]; rfl
           have d2 : w1.cell? ⟨w.heap.size + 1, 2, none⟩ = some (.int .i64 0) := by rw [cell_block hbl]; rfl
           have d3 : w1.cell? ⟨w.heap.size + 1, 3, none⟩ = some (.string ⟨#[]⟩) := by rw [cell_block hbl]; rfl
           have d4 : w1.cell? ⟨w.heap.size + 1, 4, none⟩ = some (.int .i64 0) := by rw [cell_block hbl]; rfl
           have d5 : w1.cell? ⟨w.heap.size + 1, 5, none⟩ = some (.bool false) := by rw [cell_block hbl]; rfl
           have d6 : w1.cell? ⟨w.heap.size + 1, 6, none⟩ = some (.int .i64 0) := by rw [cell_block hbl]; rfl
           have d7 : w1.cell? ⟨w.heap.size + 1, 7, none⟩ = some (.slice none 0 0) := by rw [cell_block hbl]; rfl
           clear hb))
      have HZ : Hid (∀ wz, Chg [w.heap.size + 1] w1 wz → RetElem2 messageD w (msgOfM l n) (answersOk l n) (.returned (.tuple #[.agg #[.int .i64 0, .int .i64 0, .int .i64 0, .string ⟨#[]⟩, .int .i64 0, .bool false, .int .i64 0, .slice none 0 0], .bool false])) wz) := by
        intro wz hch
        rw [msgOf_no HOK.out, HOK.out]
        have hs := (HWR.out).size
        exact ⟨_, [], rfl, noMsg_M wz, by simp, by simp, (HWR.out).trans (hch.below hs (by simp))⟩
      refine bodyPost_ret (v := .tuple #[.agg #[.int .i64 0, .int .i64 0, .int .i64 0, .string ⟨#[]⟩, .int .i64 0, .bool false, .int .i64 0, .slice none 0 0], .bool false]) (by simp [results, Try.results25, go_sem, *]) rfl (HZ.out _ ?_)
      (repeat (with_reducible refine Chg.setCell ?_ (.inl (by simp)) _))
      exact Chg.refl _ _
  · have HV := hide (show validLogB l = false by simpa using hv)
    have HOK := hide (show answersOk l n = false by simp [answersOk, HV.out])
    clear hv
    go_enter Try.func25, Try.ntmps25
    go_wp2_with (
           go_at_call 44
           refine (validLog_c l _ _ (H1.out.below HW.out) HT.out).mono ?_
           rintro e w1 ⟨rfl, hb⟩
           rw [HV.out]
           have HBR := hide hb
           have HWR := hide (below_step HW.out HBR.out)
           have hzr := HBR.out.size
           simp only [World.size_alloc] at hzr
           have hbl := (HBR.out.block _ (by simp)).trans HZB.out
           have hfz := zero_cells hbl
           have d0 : w1.cell? ⟨w.heap.size + 1, 0, none⟩ = some (.int .i64 0) := by rw [cell_block hbl]; rfl
           have d1 : w1.cell? ⟨w.heap.size + 1, 1, none⟩ = some (.int .i64 0) := by rw [cell_block hbl]; rfl
           have d2 : w1.cell? ⟨w.heap.size + 1, 2, none⟩ = some (.int .i64 0) := by rw [cell_block hbl]; rfl
           have d3 : w1.cell? ⟨w.heap.size + 1, 3, none⟩ = some (.string ⟨#[]⟩) := by rw [cell_block hbl]; rfl
           have d4 : w1.cell? ⟨w.heap.size + 1, 4, none⟩ = some (.int .i64 0) := by rw [cell_block hbl]; rfl
           have d5 : w1.cell? ⟨w.heap.size + 1, 5, none⟩ = some (.bool false) := by rw [cell_block hbl]; rfl
           have d6 : w1.cell? ⟨w.heap.size + 1, 6, none⟩ = some (.int .i64 0) := by rw [cell_block hbl]; rfl
           have d7 : w1.cell? ⟨w.heap.size + 1, 7, none⟩ = some (.slice none 0 0) := by rw [cell_block hbl]; rfl
           clear hb)
    have HZ : Hid (∀ wz, Chg [w.heap.size + 1] w1 wz → RetElem2 messageD w (msgOfM l n) (answersOk l n) (.returned (.tuple #[.agg #[.int .i64 0, .int .i64 0, .int .i64 0, .string ⟨#[]⟩, .int .i64 0, .bool false, .int .i64 0, .slice none 0 0], .bool false])) wz) := by
      intro wz hch
      rw [msgOf_no HOK.out, HOK.out]
      have hs := (HWR.out).size
      exact ⟨_, [], rfl, noMsg_M wz, by simp, by simp, (HWR.out).trans (hch.below hs (by simp))⟩
    refine bodyPost_ret (v := .tuple #[.agg #[.int .i64 0, .int .i64 0, .int .i64 0, .string ⟨#[]⟩, .int .i64 0, .bool false, .int .i64 0, .slice none 0 0], .bool false]) (by simp [results, Try.results25, go_sem, *]) rfl (HZ.out _ ?_)
    (repeat (with_reducible refine Chg.setCell ?_ (.inl (by simp)) _))
    exact Chg.refl _ _
theorem fieldLog1 (a : Value) (A : Option Addr) (n c : Nat) (w : World) : (Instr.field 31 (.agg #[a, .slice A n c]) 1).run Try.prog w = .ok (.slice A n c) w := by kernel_rfl
attribute [local go_sem] fieldLog1
set_option maxHeartbeats 4000000 in
set_option maxRecDepth 100000 in
theorem specMessageOf_c (l : Log) (v1 : Value) (n : Int) (w : World) (h1 : SliceK messageD w v1 l.messages) (ht : okTexts l.messages) :
    Calls Try.prog 24 #[.agg #[.int .i64 l.next, v1], .int .i64 n] w (RetElem2 messageD w (msgOfM l n) (answersOk l n)) := by
  obtain ⟨A, c, rfl⟩ := h1.shape
  have H1 := hide h1
  have HT := hide ht
  clear h1 ht
  have HW := hide (((Below.refl w.heap.size w).alloc (Nat.le_refl _) (.cells #[.int .i64 l.next, .slice A l.messages.length c] 31)).alloc (by simp) (.cells #[.int .i64 0, .int .i64 0, .int .i64 0, .string ⟨#[]⟩, .int .i64 0, .bool false, .int .i64 0, .slice none 0 0] 39))
  have HBX := hide ((RowAt.box (d := logD) (x := l) (log_K_mk H1.out) (arr := #[.int .i64 l.next, .slice A l.messages.length c]) rfl 31).below ((Below.refl _ _).alloc (Nat.le_refl _) (.cells #[.int .i64 0, .int .i64 0, .int .i64 0, .string ⟨#[]⟩, .int .i64 0, .bool false, .int .i64 0, .slice none 0 0] 39)))
  have HZB := hide (show ((w.alloc (.cells #[.int .i64 l.next, .slice A l.messages.length c] 31)).alloc (.cells #[.int .i64 0, .int .i64 0, .int .i64 0, .string ⟨#[]⟩, .int .i64 0, .bool false, .int .i64 0, .slice none 0 0] 39)).heap[w.heap.size + 1]? = some (.cells #[.int .i64 0, .int .i64 0, .int .i64 0, .string ⟨#[]⟩, .int .i64 0, .bool false, .int .i64 0, .slice none 0 0] 39 (0, 0)) by
    have := alloc_new (w.alloc (.cells #[.int .i64 l.next, .slice A l.messages.length c] 31)) (.cells #[.int .i64 0, .int .i64 0, .int .i64 0, .string ⟨#[]⟩, .int .i64 0, .bool false, .int .i64 0, .slice none 0 0] 39)
    simpa using this)
  by_cases hv : validLogB l = true
  · have HV := hide hv
    have HFEW := hide (fewL_of hv)
    clear hv
    by_cases hn : 0 ≤ idxP (numIs n) l.messages
    · obtain ⟨k, m, hk, hlk, hx, hmn⟩ := idx_found hn
      have HOK := hide (show answersOk l n = true by simp [answersOk, hasNum, HV.out, hn])
      have HM := hide (msgOf_yes HOK.out hk hx)
      have hlt2 : (k : Int) < (l.messages.length : Int) := by omega
      have HX := hide hx
      clear hn hx hmn
      go_enter Try.func24, Try.ntmps24
      go_wp2_with (first
        | (go_at_call 54
           refine (l03Find_c l _ _ n _ HBX.out).mono ?_
           rintro e w1 ⟨rfl, hb⟩
           rw [hk]
           have HBP := hide hb
           clear hb)
        | (go_at_call 53
           refine (l03Is_c l _ _ _ (HBX.out.below HBP.out) HT.out).mono ?_
           rintro e w2 ⟨rfl, hb⟩
           rw [HV.out]
           have HBR := hide (HBP.out.trans (hb.mono HBP.out.size))
           clear hb)
        | (go_at_call 64
           refine (l03Own_c l _ _ _ (HBX.out.below HBR.out) HFEW.out).mono ?_
           rintro e w3 ⟨cs, F, rfl, hM, hF, hge, hb⟩
           have HBS := hide (HBR.out.trans (hb.mono HBR.out.size))
           have HWR := hide (below_step HW.out HBS.out)
           obtain ⟨v9, F9, rfl, rfl, hS⟩ := log_M hM
           rcases hS.row with ⟨rfl, hnil, rfl⟩ | ⟨b9, cap9, cur9, css9, Fs9, rfl, hrow, rfl⟩
           · rw [hnil] at hlk; simp at hlk
           obtain ⟨cse, Ge, hce, hGe, hme, hcell⟩ := hrow.elem HX.out
           obtain ⟨ve, Fe, rfl, rfl, hse⟩ := message_M hme
           obtain ⟨Ae, ce, rfl⟩ := hse.toK.shape
           have g0 := hcell 0 _ rfl
           have g1 := hcell 1 _ rfl
           have g2 := hcell 2 _ rfl
           have g3 := hcell 3 _ rfl
           have g4 := hcell 4 _ rfl
           have g5 := hcell 5 _ rfl
           have g6 := hcell 6 _ rfl
           have g7 := hcell 7 _ rfl
           simp only [show messageD.sz = 8 from rfl, Nat.add_zero] at g0 g1 g2 g3 g4 g5 g6 g7
           have hbe := hrow.lt b9 List.mem_cons_self
           have hge9 : ∀ b ∈ Ge, w.heap.size + 1 < b := fun b hb2 => (by have h1 := hge b (List.mem_cons_of_mem _ (mem_flatten_of hGe hb2)); have h2 := HBR.out.size; simp at h2; omega)
           have hne9 : ¬ w.heap.size + 1 = b9 := (by have h1 := hge b9 List.mem_cons_self; have h2 := HBR.out.size; simp at h2; omega)
           have hne8 : ¬ b9 = w.heap.size + 1 := fun h => hne9 h.symm
           have HMD := hide (And.intro hme (And.intro (nodup_sub (List.nodup_cons.1 hF).2 hGe) hge9))
           have hzr := HBS.out.size
           simp only [World.size_alloc] at hzr
           have hbl := (HBS.out.block _ (by simp)).trans HZB.out
           have hfz := zero_cells hbl
           have d0 : w3.cell? ⟨w.heap.size + 1, 0, none⟩ = some (.int .i64 0) := by rw [cell_block hbl]; rfl
           have d1 : w3.cell? ⟨w.heap.size + 1, 1, none⟩ = some (.int .i64 0) := by rw [cell_block hbl]; rfl
           have d2 : w3.cell? ⟨w.heap.size + 1, 2, none⟩ = some (.int .i64 0) := by rw [cell_block hbl]; rfl
           have d3 : w3.cell? ⟨w.heap.size + 1, 3, none⟩ = some (.string ⟨#[]⟩) := by rw [cell_block hbl]; rfl
           have d4 : w3.cell? ⟨w.heap.size + 1, 4, none⟩ = some (.int .i64 0) := by rw [cell_block hbl]; rfl
           have d5 : w3.cell? ⟨w.heap.size + 1, 5, none⟩ = some (.bool false) := by rw [cell_block hbl]; rfl
           have d6 : w3.cell? ⟨w.heap.size + 1, 6, none⟩ = some (.int .i64 0) := by rw [cell_block hbl]; rfl
           have d7 : w3.cell? ⟨w.heap.size + 1, 7, none⟩ = some (.slice none 0 0) := by rw [cell_block hbl]; rfl
           clear hb hM hF hge hS hrow hce hGe hme hcell hse hge9))
      have HZ : Hid (∀ wz, Chg [w.heap.size + 1] w3 wz → RetElem2 messageD w (msgOfM l n) (answersOk l n) (.returned (.tuple #[.agg #[.int .i64 m.number, .int .i64 m.sender, .int .i64 m.at_, .string m.text, .int .i64 m.edits, .bool m.gone, .int .i64 m.reply, .slice Ae m.likes.length ce], .bool true])) wz) := by
        intro wz hch
        obtain ⟨hM9, hF9, hge9⟩ := HMD.out
        rw [HM.out, HOK.out]
        have hs := HWR.out
        exact ⟨_, Ge, rfl, Dt.M_move _ (fun b hb => hch.block b (messageD.M_lt hM9 b hb) (by have := hge9 b hb; simp; omega)) hM9, hF9, fun b hb => by have := hge9 b hb; omega, hs.trans (hch.below hs.size (by simp))⟩
      refine bodyPost_ret (v := .tuple #[.agg #[.int .i64 m.number, .int .i64 m.sender, .int .i64 m.at_, .string m.text, .int .i64 m.edits, .bool m.gone, .int .i64 m.reply, .slice Ae m.likes.length ce], .bool true]) (by simp [results, Try.results24, go_sem, d0, d1, d2, d3, d4, d5, d6, d7, hfz]) rfl (HZ.out _ ?_)
      (repeat (with_reducible refine Chg.setCell ?_ (.inl (by simp)) _))
      exact Chg.refl _ _
    · have HOK := hide (show answersOk l n = false by simp [answersOk, hasNum]; intro _; omega)
      have hn2 : idxP (numIs n) l.messages < 0 := by omega
      go_enter Try.func24, Try.ntmps24
      go_wp2_with (first
        | (go_at_call 54
           refine (l03Find_c l _ _ n _ HBX.out).mono ?_
           rintro e w1 ⟨rfl, hb⟩
           have HBP := hide hb
           clear hb)
        | (go_at_call 53
           refine (l03Is_c l _ _ _ (HBX.out.below HBP.out) HT.out).mono ?_
           rintro e w2 ⟨rfl, hb⟩
           rw [HV.out]
           have HBR := hide (HBP.out.trans (hb.mono HBP.out.size))
           have HWR := hide (below_step HW.out HBR.out)
           have hzr := HBR.out.size
           simp only [World.size_alloc] at hzr
           have hbl := (HBR.out.block _ (by simp)).trans HZB.out
           have hfz := zero_cells hbl
           have d0 : w2.cell? ⟨w.heap.size + 1, 0, none⟩ = some (.int .i64 0) := by rw [cell_block hbl]; rfl
           have d1 : w2.cell? ⟨w.heap.size + 1, 1, none⟩ = some (.int .i64 0) := by rw [cell_block hbl]; rfl
           have d2 : w2.cell? ⟨w.heap.size + 1, 2, none⟩ = some (.int .i64 0) := by rw [cell_block hbl]; rfl
           have d3 : w2.cell? ⟨w.heap.size + 1, 3, none⟩ = some (.string ⟨#[]⟩) := by rw [cell_block hbl]; rfl
           have d4 : w2.cell? ⟨w.heap.size + 1, 4, none⟩ = some (.int .i64 0) := by rw [cell_block hbl]; rfl
           have d5 : w2.cell? ⟨w.heap.size + 1, 5, none⟩ = some (.bool false) := by rw [cell_block hbl]; rfl
           have d6 : w2.cell? ⟨w.heap.size + 1, 6, none⟩ = some (.int .i64 0) := by rw [cell_block hbl]; rfl
           have d7 : w2.cell? ⟨w.heap.size + 1, 7, none⟩ = some (.slice none 0 0) := by rw [cell_block hbl]; rfl
           clear hb))
      have HZ : Hid (∀ wz, Chg [w.heap.size + 1] w2 wz → RetElem2 messageD w (msgOfM l n) (answersOk l n) (.returned (.tuple #[.agg #[.int .i64 0, .int .i64 0, .int .i64 0, .string ⟨#[]⟩, .int .i64 0, .bool false, .int .i64 0, .slice none 0 0], .bool false])) wz) := by
        intro wz hch
        rw [msgOf_no HOK.out, HOK.out]
        have hs := (HWR.out).size
        exact ⟨_, [], rfl, noMsg_M wz, by simp, by simp, (HWR.out).trans (hch.below hs (by simp))⟩
      refine bodyPost_ret (v := .tuple #[.agg #[.int .i64 0, .int .i64 0, .int .i64 0, .string ⟨#[]⟩, .int .i64 0, .bool false, .int .i64 0, .slice none 0 0], .bool false]) (by simp [results, Try.results24, go_sem, *]) rfl (HZ.out _ ?_)
      (repeat (with_reducible refine Chg.setCell ?_ (.inl (by simp)) _))
      exact Chg.refl _ _
  · have HV := hide (show validLogB l = false by simpa using hv)
    have HOK := hide (show answersOk l n = false by simp [answersOk, HV.out])
    clear hv
    go_enter Try.func24, Try.ntmps24
    go_wp2_with (first
        | (go_at_call 54
           refine (l03Find_c l _ _ n _ HBX.out).mono ?_
           rintro e w1 ⟨rfl, hb⟩
           have HBP := hide hb
           clear hb)
        | (go_at_call 53
           refine (l03Is_c l _ _ _ (HBX.out.below HBP.out) HT.out).mono ?_
           rintro e w2 ⟨rfl, hb⟩
           rw [HV.out]
           have HBR := hide (HBP.out.trans (hb.mono HBP.out.size))
           have HWR := hide (below_step HW.out HBR.out)
           have hzr := HBR.out.size
           simp only [World.size_alloc] at hzr
           have hbl := (HBR.out.block _ (by simp)).trans HZB.out
           have hfz := zero_cells hbl
           have d0 : w2.cell? ⟨w.heap.size + 1, 0, none⟩ = some (.int .i64 0) := by rw [cell_block hbl]; rfl
           have d1 : w2.cell? ⟨w.heap.size + 1, 1, none⟩ = some (.int .i64 0) := by rw [cell_block hbl]; rfl
           have d2 : w2.cell? ⟨w.heap.size + 1, 2, none⟩ = some (.int .i64 0) := by rw [cell_block hbl]; rfl
           have d3 : w2.cell? ⟨w.heap.size + 1, 3, none⟩ = some (.string ⟨#[]⟩) := by rw [cell_block hbl]; rfl
           have d4 : w2.cell? ⟨w.heap.size + 1, 4, none⟩ = some (.int .i64 0) := by rw [cell_block hbl]; rfl
           have d5 : w2.cell? ⟨w.heap.size + 1, 5, none⟩ = some (.bool false) := by rw [cell_block hbl]; rfl
           have d6 : w2.cell? ⟨w.heap.size + 1, 6, none⟩ = some (.int .i64 0) := by rw [cell_block hbl]; rfl
           have d7 : w2.cell? ⟨w.heap.size + 1, 7, none⟩ = some (.slice none 0 0) := by rw [cell_block hbl]; rfl
           clear hb))
    have HZ : Hid (∀ wz, Chg [w.heap.size + 1] w2 wz → RetElem2 messageD w (msgOfM l n) (answersOk l n) (.returned (.tuple #[.agg #[.int .i64 0, .int .i64 0, .int .i64 0, .string ⟨#[]⟩, .int .i64 0, .bool false, .int .i64 0, .slice none 0 0], .bool false])) wz) := by
      intro wz hch
      rw [msgOf_no HOK.out, HOK.out]
      have hs := (HWR.out).size
      exact ⟨_, [], rfl, noMsg_M wz, by simp, by simp, (HWR.out).trans (hch.below hs (by simp))⟩
    refine bodyPost_ret (v := .tuple #[.agg #[.int .i64 0, .int .i64 0, .int .i64 0, .string ⟨#[]⟩, .int .i64 0, .bool false, .int .i64 0, .slice none 0 0], .bool false]) (by simp [results, Try.results24, go_sem, *]) rfl (HZ.out _ ?_)
    (repeat (with_reducible refine Chg.setCell ?_ (.inl (by simp)) _))
    exact Chg.refl _ _
end Go.Proofs.Ytjidhgejahpmdaa
