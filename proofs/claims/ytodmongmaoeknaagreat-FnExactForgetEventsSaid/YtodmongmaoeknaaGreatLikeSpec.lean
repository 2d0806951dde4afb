/- A like is given: the reference's inner function. -/
import Derived.Test.YtodmongmaoeknaaGreatUnlikeCall
import Derived.Test.YtodmongmaoeknaaGreatPut
namespace Go.Proofs.YtodmongmaoeknaaGreat
open Go Go.RowKit Go.BigFrame
attribute [local go_sem] Calm.cell Calm.frozen
set_option linter.unusedVariables false
set_option linter.unusedSimpArgs false

def liF (b : Int) (m : Message) : Message × Bool := if hasB m.likes b then (m, false) else ({ m with likes := putN b (dropN b m.likes) }, true)
theorem liF_yes {b : Int} {m : Message} (h : hasB m.likes b = false) : liF b m = ({ m with likes := putN b (dropN b m.likes) }, true) := by simp [liF, h]
theorem liF_no {b : Int} {m : Message} (h : hasB m.likes b = true) : liF b m = (m, false) := by simp [liF, h]
theorem liF_text {b : Int} {m : Message} : (liF b m).1.text = m.text := by unfold liF; split <;> rfl
def likeL (l : Log) (n b : Int) : Log := wmL l n (liF b)
def likeOk (l : Log) (n b : Int) : Bool := wmOk l n (liF b)
theorem like_cnt (l : Log) (n b : Int) : tcntLog (likeL l n b) ≤ 1080 := wmL_cnt _ _ _
set_option maxHeartbeats 8000000 in
set_option maxRecDepth 100000 in
theorem l03LikeMore_c (l : Log) (b o : Nat) (n s : Int) (w : World) (hp : RowAt logD w b o [l]) (ht : okTexts l.messages) (hv : validLogB l = true) :
    Calls Tryz.prog 52 #[.pointer (some ⟨b, o, none⟩), .int .i64 n, .int .i64 s, .bool true] w (RetElem2 logD w (wmL l n (liF s)) (wmOk l n (liF s))) := by
  obtain ⟨v1, h1, hbz, hb0, hb1⟩ := log_at hp (Below.refl _ _) (j := 0) rfl
  simp only [Nat.zero_mul, Nat.add_zero] at hb0 hb1
  obtain ⟨A, c, rfl, hl, hm, hra⟩ := h1
  have HP := hide hp
  have HV := hide hv
  have HT := hide ht
  have HFEW := hide (fewL_of hv)
  have HA0 := hide ((Below.refl w.heap.size w).alloc (Nat.le_refl _) (.cells #[.int .i64 0, .slice none 0 0] 31))
  clear hp hv ht
  by_cases hn : 0 ≤ idxP (numIs n) l.messages
  · obtain ⟨k, m, hk, hlk, hx, hmn⟩ := idx_found hn
    have hlt2 : (k : Int) < (l.messages.length : Int) := by omega
    have HX := hide hx
    have HRA := hide hra
    have HOKE := hide (wmOk_at (f := liF s) HV.out hk hx)
    clear hn hx hmn hra
    by_cases hg : m.gone = true
    · have hlive := live_gone hk HX.out hg
      have HOK := hide (show wmOk l n (liF s) = false by rw [HOKE.out, hg]; rfl)
      go_enter Tryz.func52, Tryz.ntmps52
      go_wp2_with (go_at_call 75
                   refine (l03Live_c l _ _ n _ (HP.out.below HA0.out)).mono ?_
                   rintro e w1 ⟨rfl, hb⟩
                   rw [hlive]
                   have HB1 := hide (HA0.out.trans (hb.mono HA0.out.size))
                   have hz1 := hb.size
                   simp only [World.size_alloc] at hz1
                   have b1 := cell_below HB1.out hb1
                   have hbl := (hb.block _ (by simp)).trans (alloc_new w _)
                   have HBL1 := hide hbl
                   have p0 : w1.cell? ⟨w.heap.size, 0, none⟩ = some (.int .i64 0) := by rw [cell_block hbl]; rfl
                   have p1 : w1.cell? ⟨w.heap.size, 1, none⟩ = some (.slice none 0 0) := by rw [cell_block hbl]; rfl
                   have pf : ∀ o, w1.frozen? ⟨w.heap.size, o, none⟩ = false := fun o => frozen_block hbl
                   have HE := HB1
                   skip
                   clear hb hbl)
      have HZ : Hid (∀ wz, Chg [w.heap.size] w1 wz → RetElem2 logD w (wmL l n (liF s)) (wmOk l n (liF s)) (.returned (.tuple #[.agg #[.int .i64 0, .slice none 0 0], .bool false])) wz) := by
        intro wz hch
        rw [wmL_no HOK.out, HOK.out]
        exact ⟨_, [], rfl, noLog_M wz, by simp, by simp, HE.out.trans (hch.below HE.out.size (by simp))⟩
      refine bodyPost_ret (v := .tuple #[.agg #[.int .i64 0, .slice none 0 0], .bool false]) (by simp [results, Tryz.results52, go_sem, p0, p1, pf]) rfl (HZ.out _ ?_)
      (repeat (with_reducible refine Chg.setCell ?_ (.inl (by simp)) _))
      exact Chg.refl _ _
    · have hg' : m.gone = false := by simpa using hg
      have hlive := live_at hk HX.out hg'
      clear hg
      rcases HRA.out with hnil | ⟨q, o2, rfl, hra⟩
      · rw [hnil] at hlk; simp at hlk
      have HRB := hide hra
      clear hra
      have hvl := valid_likes (valid_msgs HV.out (List.mem_of_getElem? HX.out))
      by_cases hh : hasB m.likes s = false
      · have HHB := hide hh
        have HYES := hide (liF_yes hh)
        clear hh
        have HT2 := hide (show okTexts (setMsg l k (liF s m).1).messages from fun y hy => by
          rcases List.mem_or_eq_of_mem_set hy with h | h
          · exact HT.out y h
          · rw [h, liF_text]; exact HT.out m (List.mem_of_getElem? HX.out))
        by_cases hv2 : validLogB (setMsg l k (liF s m).1) = true
        · have HV2 := hide hv2
          have HOK := hide (show wmOk l n (liF s) = true by rw [HOKE.out, hg', hv2, HYES.out]; rfl)
          have HL := hide (wmL_yes HOK.out hk HX.out)
          clear hv2
          go_enter Tryz.func52, Tryz.ntmps52
          go_wp2_with (first
            | (go_at_call 75
               refine (l03Live_c l _ _ n _ (HP.out.below HA0.out)).mono ?_
               rintro e w1 ⟨rfl, hb⟩
               rw [hlive]
               have HB1 := hide (HA0.out.trans (hb.mono HA0.out.size))
               have hz1 := hb.size
               simp only [World.size_alloc] at hz1
               have b1 := cell_below HB1.out hb1
               have hbl := (hb.block _ (by simp)).trans (alloc_new w _)
               have HBL1 := hide hbl
               have p0 : w1.cell? ⟨w.heap.size, 0, none⟩ = some (.int .i64 0) := by rw [cell_block hbl]; rfl
               have p1 : w1.cell? ⟨w.heap.size, 1, none⟩ = some (.slice none 0 0) := by rw [cell_block hbl]; rfl
               have pf : ∀ o, w1.frozen? ⟨w.heap.size, o, none⟩ = false := fun o => frozen_block hbl
               have HE := HB1
               obtain ⟨v7, h7, hq, hc0, hc1, hc2, hc3, hc4, hc5, hc6, hc7⟩ := message_at HRB.out HB1.out HX.out
               clear hb hbl)
            | (go_at_call 72
               refine (l00Has_c _ m.likes _ _ h7).mono ?_
               rintro e wq ⟨rfl, hb⟩
               rw [HHB.out]
               have HB1q := hide (HB1.out.trans (hb.mono HB1.out.size))
               have b1 := cell_below hb b1
               have hzq := hb.size
               have hblq := (hb.block w.heap.size (by omega)).trans HBL1.out
               have HBL1q := hide hblq
               clear p0 p1 pf HE HB1 HBL1
               have HB1 := HB1q
               have HE := HB1q
               have HBL1 := HBL1q
               clear HB1q HBL1q
               have p0 : wq.cell? ⟨w.heap.size, 0, none⟩ = some (.int .i64 0) := by rw [cell_block hblq]; rfl
               have p1 : wq.cell? ⟨w.heap.size, 1, none⟩ = some (.slice none 0 0) := by rw [cell_block hblq]; rfl
               have pf : ∀ o, wq.frozen? ⟨w.heap.size, o, none⟩ = false := fun o => frozen_block hblq
               clear hb hblq hc0 hc1 hc2 hc3 hc4 hc5 hc6 hc7 h7)
            | (go_at_call 32
               refine (l03Own_c l _ _ _ (HP.out.below HB1.out) HFEW.out).mono ?_
               rintro e w2 ⟨cs2, F2, rfl, hM2, hF2, hge2, hb⟩
               obtain ⟨v2, F2', rfl, rfl, hS2⟩ := log_M hM2
               rcases hS2.row with ⟨_, hnil, _⟩ | ⟨b9, c2, cur9, css9, Fs9, rfl, hrow, hFe⟩
               · rw [hnil] at hlk; simp at hlk
               obtain ⟨cse, Ge, hE⟩ := hS2.elem hF2 HX.out
               obtain ⟨ve, Fe, rfl, rfl, hse⟩ := message_M hE.M
               obtain ⟨Ae, ce, rfl⟩ := hse.toK.shape
               have hbe := hE.lt
               have hz2 := hb.size
               have hge9 : ∀ x ∈ F2, w.heap.size + 1 ≤ x := fun x hx => (by have := hge2 x hx; omega)
               have HE2 := hide (HE.out.trans (hb.mono HE.out.size))
               have hbl := (hb.block _ (by omega)).trans HBL1.out
               have HBL2 := hide hbl
               have n1 := cell_below hb b1
               obtain ⟨v7, h7, hq, hc0, hc1, hc2, hc3, hc4, hc5, hc6, hc7⟩ := message_at HRB.out HE2.out HX.out
               obtain ⟨A7, c7, rfl, hl7, hm7, hr7⟩ := h7
               have HN := hide (And.intro n1 hc7)
               have HR7 := hide hr7
               have hbz2 : b < w2.heap.size := (by have := HE2.out.size; omega)
               have hbz3 : b < w2.heap.size + 1 := (by omega)
               have hq3 : q < w2.heap.size + 1 := (by omega)
               have HELEM := hide (And.intro hE (And.intro hse (And.intro hF2 hge9)))
               clear hb hbl hM2 hF2 hge2 hge9 hrow hFe hS2 hE hse p0 p1 pf HE hr7 hc0 hc1 hc2 hc3 hc4 hc5 hc6 b1))
          obtain ⟨Wb, hWb⟩ : ∃ V, V = w2.alloc (.cells #[.int .i64 l.next, .slice (some ⟨b9, 0, none⟩) l.messages.length c2] 31) := ⟨_, rfl⟩
          rw [← hWb]
          have HWb := hide (boxed hWb).1
          have hzb := (boxed hWb).2
          have HCb := hide (Cells.new hWb)
          clear hWb
          go_loopg [12, 46] m.likes.length (fun gg s12 s46 wr => ∃ i : Nat, i ≤ m.likes.length ∧ m.likes.length - i ≤ gg ∧ s46 = .int .i64 i ∧ Hid (Made intD 2 Wb wr s12 (dropN s (m.likes.take i))) ∧ Hid (Below Wb.heap.size Wb wr))
          case atStart => exact ⟨0, Nat.zero_le _, by omega, rfl, hide ⟨[w2.heap.size + 1], (by have h := emptyM (d := intD) (e := 2) Wb; rw [hzb] at h; exact h), by simp, by simp; omega⟩, (Below.refl _ _).alloc (Nat.le_refl _) _⟩
          case round =>
            obtain ⟨i, hi, hg2, rfl, HMD, HB⟩ := hrel
            have n1 := cell_below HB.out (cell_below HWb.out HN.out.1)
            have n7 := cell_below HB.out (cell_below HWb.out HN.out.2)
            clear hc7
            have hzr := HB.out.size
            by_cases hil : i < m.likes.length
            · obtain ⟨x, hx⟩ : ∃ x, m.likes[i]? = some x := ⟨_, List.getElem?_eq_getElem hil⟩
              rcases HR7.out with hnil | ⟨q7, o7, rfl, hr7⟩
              · rw [hnil] at hil; simp at hil
              obtain ⟨hq7, hx7⟩ := int_at hr7 (below_step HWb.out HB.out) hx
              obtain ⟨F, hM, hF, hFB⟩ := HMD.out
              obtain ⟨A5, c5, rfl⟩ := hM.toK.shape
              have HXX := hide hx
              have HM2 := hide (And.intro hM (And.intro hF hFB))
              have hil2 : (i : Int) < (m.likes.length : Int) := by omega
              have hpl : (dropN s (m.likes.take i)).length < 1048576 := by
                have := List.length_filter_le (fun x => decide (x ≠ s)) (m.likes.take i)
                have h2 : (dropN s (m.likes.take i)).length ≤ (m.likes.take i).length := this
                simp at h2; omega
              clear hx hr7 hM hF hFB HMD
              by_cases hxs : x = s
              · have hxs2 : (x != s) = false := by simp [hxs]
                have HDR := hide (dropN_no HXX.out hxs)
                clear hxs
                go_wp2_with fail
                go_roundg (m.likes.length - (i + 1))
                case measure => omega
                case rel => exact ⟨i + 1, by omega, by omega, by go_num, by rw [HDR.out]; exact hide ⟨F, HM2.out⟩, HB⟩
              · have hxs2 : (x != s) = true := by simp [hxs]
                have HDR := hide (dropN_yes HXX.out hxs)
                clear hxs
                go_wp2_with (
                  at_builtin
                  obtain ⟨hM, hF, hFB⟩ := HM2.out
                  refine wpList_app_int _ rfl _ _ _ rfl Tryz.underlying78 infoInt _ _ F rfl (hM.move fun b hb => ((Below.refl wr.heap.size wr).alloc (Nat.le_refl _) _).block b (hM.lt b hb)) hF _ _ x rfl (by simp) hpl ?_
                  intro g2 cap2 w3 F3 hap
                  have HAP := hide hap
                  clear hap hM hF hFB)
                go_roundg (m.likes.length - (i + 1))
                case measure => omega
                case rel =>
                  obtain ⟨hM, hF, hFB⟩ := HM2.out
                  have hap := HAP.out
                  have hge : ∀ x ∈ F3, Wb.heap.size ≤ x := fun x hx2 => by
                    rcases hap.from_ x hx2 with h | h | h
                    · exact hFB x h
                    · simp at h
                    · rw [h]; simp; omega
                  refine ⟨i + 1, by omega, by omega, by go_num, hide ⟨F3, ?_, hap.nodup, hge⟩, hide ((HB.out.trans (((Below.refl wr.heap.size wr).alloc (Nat.le_refl _) _).mono HB.out.size)).trans (hap.chg.below (by simp; omega) hFB))⟩
                  rw [HDR.out]
                  have := hap.m
                  rwa [show (dropN s (m.likes.take i)).length + 1 = (dropN s (m.likes.take i) ++ [x]).length by simp] at this ⊢
            · have : i = m.likes.length := by omega
              subst this
              have hm2 := HMD.out
              rw [List.take_length] at hm2
              obtain ⟨F, hM, hF, hFB⟩ := hm2
              obtain ⟨A5, c5, rfl⟩ := hM.toK.shape
              have HM2 := hide (And.intro hM (And.intro hF hFB))
              have hEl := HELEM.out.1
              have hb2r : Below w2.heap.size w2 wr := below_step HWb.out HB.out
              have g0 := cell_below hb2r (hEl.cell 0 _ rfl)
              have g1 := cell_below hb2r (hEl.cell 1 _ rfl)
              have g2 := cell_below hb2r (hEl.cell 2 _ rfl)
              have g3 := cell_below hb2r (hEl.cell 3 _ rfl)
              have g4 := cell_below hb2r (hEl.cell 4 _ rfl)
              have g5 := cell_below hb2r (hEl.cell 5 _ rfl)
              have g6 := cell_below hb2r (hEl.cell 6 _ rfl)
              have g7 := cell_below hb2r (hEl.cell 7 _ rfl)
              simp only [show messageD.sz = 8 from rfl, Nat.add_zero] at g0 g1 g2 g3 g4 g5 g6 g7
              have hfz : ∀ o, wr.frozen? ⟨b9, o, none⟩ = false := fun o => (World.frozen?_of_block (a := ⟨b9, o, none⟩) (hb2r.block b9 hbe)).trans (hEl.frozen o)
              have y0 := cell_below HB.out (HCb.out 0 _ rfl)
              have y1 := cell_below HB.out (HCb.out 1 _ rfl)
              have hne9 : ¬ b9 = w2.heap.size := by omega
              have hne8 : ¬ w2.heap.size = b9 := by omega
              have HBR := hide hb2r
              clear HMD hM hF hFB hEl hb2r
              go_wp2_with (first
                | (go_at_call 76
                   refine (l00Put_c _ (dropN s m.likes) s _ HM2.out.1.toK (by have := List.length_filter_le (fun x => decide (x ≠ s)) m.likes; have h2 : (dropN s m.likes).length ≤ m.likes.length := this; omega)).mono ?_
                   rintro e wp ⟨v9, rfl, hmd, hb⟩
                   obtain ⟨F9, hM9, hF9, hge9'⟩ := hmd
                   obtain ⟨A9, c9, rfl⟩ := hM9.toK.shape
                   have hzp := hb.size
                   have hzr2 := HBR.out.size
                   have HBP := hide (HBR.out.trans (hb.mono hzr2))
                   have HMP := hide (And.intro hM9 (And.intro hF9 (show ∀ y ∈ F9, Wb.heap.size ≤ y from fun y hy => (by have := hge9' y hy; have := HB.out.size; omega))))
                   have k0 := cell_below hb g0
                   have k1 := cell_below hb g1
                   have k2 := cell_below hb g2
                   have k3 := cell_below hb g3
                   have k4 := cell_below hb g4
                   have k5 := cell_below hb g5
                   have k6 := cell_below hb g6
                   have k7 := cell_below hb g7
                   have z0 := cell_below hb y0
                   have z1 := cell_below hb y1
                   have kfz : ∀ o, wp.frozen? ⟨b9, o, none⟩ = false := fun o => (World.frozen?_of_block (a := ⟨b9, o, none⟩) (hb.block b9 (by omega))).trans (hfz o)
                   clear hb hM9 hF9 hge9' g0 g1 g2 g3 g4 g5 g6 g7 y0 y1 hfz)
                | (go_at_call 74
                   obtain ⟨hE, hse, hF2, hge9⟩ := HELEM.out
                   have hT := (by rw [HYES.out]; exact hE.turn (wp.setCell ⟨b9, k * 8 + 7, none⟩ (.slice A9 (putN s (dropN s m.likes)).length c9)) [.int .i64 m.number, .int .i64 m.sender, .int .i64 m.at_, .string m.text, .int .i64 m.edits, .bool m.gone, .int .i64 m.reply, .slice A9 (putN s (dropN s m.likes)).length c9] { m with likes := putN s (dropN s m.likes) } F9 (((Wrote.refl _ _ _ _ w2).below HBP.out).set (k * 8 + 7) _ (by simp [show messageD.sz = 8 from rfl]) (by simp [show messageD.sz = 8 from rfl])) (Chg.setCell (p := ⟨b9, k * 8 + 7, none⟩) (Chg.of_below HBP.out (b9 :: Ge)) (.inl List.mem_cons_self) _) (message_M_mk (x := { m with likes := putN s (dropN s m.likes) }) (HMP.out.1.move fun y hy => Below.heap_setCell _ _ _ y (fun e => (by have h : y = b9 := e; have h2 := HMP.out.2.2 y hy; omega)))) (eight (P := fun i u => (wp.setCell ⟨b9, k * 8 + 7, none⟩ (.slice A9 (putN s (dropN s m.likes)).length c9)).cell? ⟨b9, k * 8 + i, none⟩ = some u) (by go_simp) (by go_simp) (by go_simp) (by go_simp) (by go_simp) (by go_simp) (by go_simp) (by go_simp)) HMP.out.2.1 (fun y hy => .inr (by have := HMP.out.2.2 y hy; omega)) : ∃ F', SliceM messageD 82 (wp.setCell ⟨b9, k * 8 + 7, none⟩ (.slice A9 (putN s (dropN s m.likes)).length c9)) (.slice (some ⟨b9, 0, none⟩) l.messages.length c2) (l.messages.set k (liF s m).1) F' ∧ F'.Nodup ∧ (∀ y ∈ F', y ∈ F2 ∨ w2.heap.size ≤ y) ∧ Chg F2 w2 (wp.setCell ⟨b9, k * 8 + 7, none⟩ (.slice A9 (putN s (dropN s m.likes)).length c9)))
                   obtain ⟨F5, hS5, hF5, hfr5, hc5⟩ := hT
                   have hz5 := hc5.size
                   refine (giveYes_c (setMsg l k (liF s m).1) _ _ (by have h := hS5.toK; exact h) HT2.out HV2.out).mono ?_
                   rintro e w5 ⟨rfl, hb⟩
                   have hge5 : ∀ x ∈ F5, w.heap.size + 1 ≤ x := fun x hx => (by rcases hfr5 x hx with h | h; exact hge9 x h; omega)
                   have HS5 := hide (And.intro (hS5.by hb) (And.intro hF5 hge5))
                   have HE := hide ((HE2.out.trans (hc5.below (B := w.heap.size) HE2.out.size (fun x hx => by have := hge9 x hx; omega))).trans (hb.mono (by have := HE2.out.size; omega)))
                   have hbl := (hb.block _ (by omega)).trans ((hc5.block _ (by omega) (fun h => by have := hge9 _ h; omega)).trans HBL2.out)
                   have p0 : w5.cell? ⟨w.heap.size, 0, none⟩ = some (.int .i64 0) := by rw [cell_block hbl]; rfl
                   have p1 : w5.cell? ⟨w.heap.size, 1, none⟩ = some (.slice none 0 0) := by rw [cell_block hbl]; rfl
                   have pf : ∀ o, w5.frozen? ⟨w.heap.size, o, none⟩ = false := fun o => frozen_block hbl
                   clear hb hbl hE hse hF2 hge9 hS5 hF5 hfr5 hc5 hge5 hz5))
              have HZ : Hid (∀ wz, Chg [w.heap.size] w5 wz → RetElem2 logD w (wmL l n (liF s)) (wmOk l n (liF s)) (.returned (.tuple #[.agg #[.int .i64 l.next, .slice (some ⟨b9, 0, none⟩) l.messages.length c2], .bool true])) wz) := by
                intro wz hch
                rw [HL.out, HOK.out]
                obtain ⟨hS, hF, hge⟩ := HS5.out
                have hS' := hS.move fun b hb => hch.block b (hS.lt b hb) (by have := hge b hb; simp; omega)
                have hlen : (setMsg l k ((liF s) m).1).messages.length = l.messages.length := by simp [setMsg]
                exact ⟨_, F5, rfl, log_M_mk (x := setMsg l k ((liF s) m).1) hS', hF, fun b hb => by have := hge b hb; omega, HE.out.trans (hch.below HE.out.size (by simp))⟩
              refine bodyPost_ret (v := .tuple #[.agg #[.int .i64 l.next, .slice (some ⟨b9, 0, none⟩) l.messages.length c2], .bool true]) (by simp [results, Tryz.results52, go_sem, p0, p1, pf, setMsg]) rfl (HZ.out _ ?_)
              (repeat (with_reducible refine Chg.setCell ?_ (.inl (by simp)) _))
              exact Chg.refl _ _
        · have HV2 := hide (show validLogB (setMsg l k (liF s m).1) = false by simpa using hv2)
          have HOK := hide (show wmOk l n (liF s) = false by rw [HOKE.out, HV2.out]; simp)
          clear hv2
          go_enter Tryz.func52, Tryz.ntmps52
          go_wp2_with (first
            | (go_at_call 75
               refine (l03Live_c l _ _ n _ (HP.out.below HA0.out)).mono ?_
               rintro e w1 ⟨rfl, hb⟩
               rw [hlive]
               have HB1 := hide (HA0.out.trans (hb.mono HA0.out.size))
               have hz1 := hb.size
               simp only [World.size_alloc] at hz1
               have b1 := cell_below HB1.out hb1
               have hbl := (hb.block _ (by simp)).trans (alloc_new w _)
               have HBL1 := hide hbl
               have p0 : w1.cell? ⟨w.heap.size, 0, none⟩ = some (.int .i64 0) := by rw [cell_block hbl]; rfl
               have p1 : w1.cell? ⟨w.heap.size, 1, none⟩ = some (.slice none 0 0) := by rw [cell_block hbl]; rfl
               have pf : ∀ o, w1.frozen? ⟨w.heap.size, o, none⟩ = false := fun o => frozen_block hbl
               have HE := HB1
               obtain ⟨v7, h7, hq, hc0, hc1, hc2, hc3, hc4, hc5, hc6, hc7⟩ := message_at HRB.out HB1.out HX.out
               clear hb hbl)
            | (go_at_call 72
               refine (l00Has_c _ m.likes _ _ h7).mono ?_
               rintro e wq ⟨rfl, hb⟩
               rw [HHB.out]
               have HB1q := hide (HB1.out.trans (hb.mono HB1.out.size))
               have b1 := cell_below hb b1
               have hzq := hb.size
               have hblq := (hb.block w.heap.size (by omega)).trans HBL1.out
               have HBL1q := hide hblq
               clear p0 p1 pf HE HB1 HBL1
               have HB1 := HB1q
               have HE := HB1q
               have HBL1 := HBL1q
               clear HB1q HBL1q
               have p0 : wq.cell? ⟨w.heap.size, 0, none⟩ = some (.int .i64 0) := by rw [cell_block hblq]; rfl
               have p1 : wq.cell? ⟨w.heap.size, 1, none⟩ = some (.slice none 0 0) := by rw [cell_block hblq]; rfl
               have pf : ∀ o, wq.frozen? ⟨w.heap.size, o, none⟩ = false := fun o => frozen_block hblq
               clear hb hblq hc0 hc1 hc2 hc3 hc4 hc5 hc6 hc7 h7)
            | (go_at_call 32
               refine (l03Own_c l _ _ _ (HP.out.below HB1.out) HFEW.out).mono ?_
               rintro e w2 ⟨cs2, F2, rfl, hM2, hF2, hge2, hb⟩
               obtain ⟨v2, F2', rfl, rfl, hS2⟩ := log_M hM2
               rcases hS2.row with ⟨_, hnil, _⟩ | ⟨b9, c2, cur9, css9, Fs9, rfl, hrow, hFe⟩
               · rw [hnil] at hlk; simp at hlk
               obtain ⟨cse, Ge, hE⟩ := hS2.elem hF2 HX.out
               obtain ⟨ve, Fe, rfl, rfl, hse⟩ := message_M hE.M
               obtain ⟨Ae, ce, rfl⟩ := hse.toK.shape
               have hbe := hE.lt
               have hz2 := hb.size
               have hge9 : ∀ x ∈ F2, w.heap.size + 1 ≤ x := fun x hx => (by have := hge2 x hx; omega)
               have HE2 := hide (HE.out.trans (hb.mono HE.out.size))
               have hbl := (hb.block _ (by omega)).trans HBL1.out
               have HBL2 := hide hbl
               have n1 := cell_below hb b1
               obtain ⟨v7, h7, hq, hc0, hc1, hc2, hc3, hc4, hc5, hc6, hc7⟩ := message_at HRB.out HE2.out HX.out
               obtain ⟨A7, c7, rfl, hl7, hm7, hr7⟩ := h7
               have HN := hide (And.intro n1 hc7)
               have HR7 := hide hr7
               have hbz2 : b < w2.heap.size := (by have := HE2.out.size; omega)
               have hbz3 : b < w2.heap.size + 1 := (by omega)
               have hq3 : q < w2.heap.size + 1 := (by omega)
               have HELEM := hide (And.intro hE (And.intro hse (And.intro hF2 hge9)))
               clear hb hbl hM2 hF2 hge2 hge9 hrow hFe hS2 hE hse p0 p1 pf HE hr7 hc0 hc1 hc2 hc3 hc4 hc5 hc6 b1))
          obtain ⟨Wb, hWb⟩ : ∃ V, V = w2.alloc (.cells #[.int .i64 l.next, .slice (some ⟨b9, 0, none⟩) l.messages.length c2] 31) := ⟨_, rfl⟩
          rw [← hWb]
          have HWb := hide (boxed hWb).1
          have hzb := (boxed hWb).2
          have HCb := hide (Cells.new hWb)
          clear hWb
          go_loopg [12, 46] m.likes.length (fun gg s12 s46 wr => ∃ i : Nat, i ≤ m.likes.length ∧ m.likes.length - i ≤ gg ∧ s46 = .int .i64 i ∧ Hid (Made intD 2 Wb wr s12 (dropN s (m.likes.take i))) ∧ Hid (Below Wb.heap.size Wb wr))
          case atStart => exact ⟨0, Nat.zero_le _, by omega, rfl, hide ⟨[w2.heap.size + 1], (by have h := emptyM (d := intD) (e := 2) Wb; rw [hzb] at h; exact h), by simp, by simp; omega⟩, (Below.refl _ _).alloc (Nat.le_refl _) _⟩
          case round =>
            obtain ⟨i, hi, hg2, rfl, HMD, HB⟩ := hrel
            have n1 := cell_below HB.out (cell_below HWb.out HN.out.1)
            have n7 := cell_below HB.out (cell_below HWb.out HN.out.2)
            clear hc7
            have hzr := HB.out.size
            by_cases hil : i < m.likes.length
            · obtain ⟨x, hx⟩ : ∃ x, m.likes[i]? = some x := ⟨_, List.getElem?_eq_getElem hil⟩
              rcases HR7.out with hnil | ⟨q7, o7, rfl, hr7⟩
              · rw [hnil] at hil; simp at hil
              obtain ⟨hq7, hx7⟩ := int_at hr7 (below_step HWb.out HB.out) hx
              obtain ⟨F, hM, hF, hFB⟩ := HMD.out
              obtain ⟨A5, c5, rfl⟩ := hM.toK.shape
              have HXX := hide hx
              have HM2 := hide (And.intro hM (And.intro hF hFB))
              have hil2 : (i : Int) < (m.likes.length : Int) := by omega
              have hpl : (dropN s (m.likes.take i)).length < 1048576 := by
                have := List.length_filter_le (fun x => decide (x ≠ s)) (m.likes.take i)
                have h2 : (dropN s (m.likes.take i)).length ≤ (m.likes.take i).length := this
                simp at h2; omega
              clear hx hr7 hM hF hFB HMD
              by_cases hxs : x = s
              · have hxs2 : (x != s) = false := by simp [hxs]
                have HDR := hide (dropN_no HXX.out hxs)
                clear hxs
                go_wp2_with fail
                go_roundg (m.likes.length - (i + 1))
                case measure => omega
                case rel => exact ⟨i + 1, by omega, by omega, by go_num, by rw [HDR.out]; exact hide ⟨F, HM2.out⟩, HB⟩
              · have hxs2 : (x != s) = true := by simp [hxs]
                have HDR := hide (dropN_yes HXX.out hxs)
                clear hxs
                go_wp2_with (
                  at_builtin
                  obtain ⟨hM, hF, hFB⟩ := HM2.out
                  refine wpList_app_int _ rfl _ _ _ rfl Tryz.underlying78 infoInt _ _ F rfl (hM.move fun b hb => ((Below.refl wr.heap.size wr).alloc (Nat.le_refl _) _).block b (hM.lt b hb)) hF _ _ x rfl (by simp) hpl ?_
                  intro g2 cap2 w3 F3 hap
                  have HAP := hide hap
                  clear hap hM hF hFB)
                go_roundg (m.likes.length - (i + 1))
                case measure => omega
                case rel =>
                  obtain ⟨hM, hF, hFB⟩ := HM2.out
                  have hap := HAP.out
                  have hge : ∀ x ∈ F3, Wb.heap.size ≤ x := fun x hx2 => by
                    rcases hap.from_ x hx2 with h | h | h
                    · exact hFB x h
                    · simp at h
                    · rw [h]; simp; omega
                  refine ⟨i + 1, by omega, by omega, by go_num, hide ⟨F3, ?_, hap.nodup, hge⟩, hide ((HB.out.trans (((Below.refl wr.heap.size wr).alloc (Nat.le_refl _) _).mono HB.out.size)).trans (hap.chg.below (by simp; omega) hFB))⟩
                  rw [HDR.out]
                  have := hap.m
                  rwa [show (dropN s (m.likes.take i)).length + 1 = (dropN s (m.likes.take i) ++ [x]).length by simp] at this ⊢
            · have : i = m.likes.length := by omega
              subst this
              have hm2 := HMD.out
              rw [List.take_length] at hm2
              obtain ⟨F, hM, hF, hFB⟩ := hm2
              obtain ⟨A5, c5, rfl⟩ := hM.toK.shape
              have HM2 := hide (And.intro hM (And.intro hF hFB))
              have hEl := HELEM.out.1
              have hb2r : Below w2.heap.size w2 wr := below_step HWb.out HB.out
              have g0 := cell_below hb2r (hEl.cell 0 _ rfl)
              have g1 := cell_below hb2r (hEl.cell 1 _ rfl)
              have g2 := cell_below hb2r (hEl.cell 2 _ rfl)
              have g3 := cell_below hb2r (hEl.cell 3 _ rfl)
              have g4 := cell_below hb2r (hEl.cell 4 _ rfl)
              have g5 := cell_below hb2r (hEl.cell 5 _ rfl)
              have g6 := cell_below hb2r (hEl.cell 6 _ rfl)
              have g7 := cell_below hb2r (hEl.cell 7 _ rfl)
              simp only [show messageD.sz = 8 from rfl, Nat.add_zero] at g0 g1 g2 g3 g4 g5 g6 g7
              have hfz : ∀ o, wr.frozen? ⟨b9, o, none⟩ = false := fun o => (World.frozen?_of_block (a := ⟨b9, o, none⟩) (hb2r.block b9 hbe)).trans (hEl.frozen o)
              have y0 := cell_below HB.out (HCb.out 0 _ rfl)
              have y1 := cell_below HB.out (HCb.out 1 _ rfl)
              have hne9 : ¬ b9 = w2.heap.size := by omega
              have hne8 : ¬ w2.heap.size = b9 := by omega
              have HBR := hide hb2r
              clear HMD hM hF hFB hEl hb2r
              go_wp2_with (first
                | (go_at_call 76
                   refine (l00Put_c _ (dropN s m.likes) s _ HM2.out.1.toK (by have := List.length_filter_le (fun x => decide (x ≠ s)) m.likes; have h2 : (dropN s m.likes).length ≤ m.likes.length := this; omega)).mono ?_
                   rintro e wp ⟨v9, rfl, hmd, hb⟩
                   obtain ⟨F9, hM9, hF9, hge9'⟩ := hmd
                   obtain ⟨A9, c9, rfl⟩ := hM9.toK.shape
                   have hzp := hb.size
                   have hzr2 := HBR.out.size
                   have HBP := hide (HBR.out.trans (hb.mono hzr2))
                   have HMP := hide (And.intro hM9 (And.intro hF9 (show ∀ y ∈ F9, Wb.heap.size ≤ y from fun y hy => (by have := hge9' y hy; have := HB.out.size; omega))))
                   have k0 := cell_below hb g0
                   have k1 := cell_below hb g1
                   have k2 := cell_below hb g2
                   have k3 := cell_below hb g3
                   have k4 := cell_below hb g4
                   have k5 := cell_below hb g5
                   have k6 := cell_below hb g6
                   have k7 := cell_below hb g7
                   have z0 := cell_below hb y0
                   have z1 := cell_below hb y1
                   have kfz : ∀ o, wp.frozen? ⟨b9, o, none⟩ = false := fun o => (World.frozen?_of_block (a := ⟨b9, o, none⟩) (hb.block b9 (by omega))).trans (hfz o)
                   clear hb hM9 hF9 hge9' g0 g1 g2 g3 g4 g5 g6 g7 y0 y1 hfz)
                | (go_at_call 74
                   obtain ⟨hE, hse, hF2, hge9⟩ := HELEM.out
                   have hT := (by rw [HYES.out]; exact hE.turn (wp.setCell ⟨b9, k * 8 + 7, none⟩ (.slice A9 (putN s (dropN s m.likes)).length c9)) [.int .i64 m.number, .int .i64 m.sender, .int .i64 m.at_, .string m.text, .int .i64 m.edits, .bool m.gone, .int .i64 m.reply, .slice A9 (putN s (dropN s m.likes)).length c9] { m with likes := putN s (dropN s m.likes) } F9 (((Wrote.refl _ _ _ _ w2).below HBP.out).set (k * 8 + 7) _ (by simp [show messageD.sz = 8 from rfl]) (by simp [show messageD.sz = 8 from rfl])) (Chg.setCell (p := ⟨b9, k * 8 + 7, none⟩) (Chg.of_below HBP.out (b9 :: Ge)) (.inl List.mem_cons_self) _) (message_M_mk (x := { m with likes := putN s (dropN s m.likes) }) (HMP.out.1.move fun y hy => Below.heap_setCell _ _ _ y (fun e => (by have h : y = b9 := e; have h2 := HMP.out.2.2 y hy; omega)))) (eight (P := fun i u => (wp.setCell ⟨b9, k * 8 + 7, none⟩ (.slice A9 (putN s (dropN s m.likes)).length c9)).cell? ⟨b9, k * 8 + i, none⟩ = some u) (by go_simp) (by go_simp) (by go_simp) (by go_simp) (by go_simp) (by go_simp) (by go_simp) (by go_simp)) HMP.out.2.1 (fun y hy => .inr (by have := HMP.out.2.2 y hy; omega)) : ∃ F', SliceM messageD 82 (wp.setCell ⟨b9, k * 8 + 7, none⟩ (.slice A9 (putN s (dropN s m.likes)).length c9)) (.slice (some ⟨b9, 0, none⟩) l.messages.length c2) (l.messages.set k (liF s m).1) F' ∧ F'.Nodup ∧ (∀ y ∈ F', y ∈ F2 ∨ w2.heap.size ≤ y) ∧ Chg F2 w2 (wp.setCell ⟨b9, k * 8 + 7, none⟩ (.slice A9 (putN s (dropN s m.likes)).length c9)))
                   obtain ⟨F5, hS5, hF5, hfr5, hc5⟩ := hT
                   have hz5 := hc5.size
                   refine (giveNo_c (setMsg l k (liF s m).1) _ _ (by have h := hS5.toK; exact h) HT2.out HV2.out).mono ?_
                   rintro e w5 ⟨rfl, hb⟩
                   have hge5 : ∀ x ∈ F5, w.heap.size + 1 ≤ x := fun x hx => (by rcases hfr5 x hx with h | h; exact hge9 x h; omega)
                   have HS5 := hide (And.intro (hS5.by hb) (And.intro hF5 hge5))
                   have HE := hide ((HE2.out.trans (hc5.below (B := w.heap.size) HE2.out.size (fun x hx => by have := hge9 x hx; omega))).trans (hb.mono (by have := HE2.out.size; omega)))
                   have hbl := (hb.block _ (by omega)).trans ((hc5.block _ (by omega) (fun h => by have := hge9 _ h; omega)).trans HBL2.out)
                   have p0 : w5.cell? ⟨w.heap.size, 0, none⟩ = some (.int .i64 0) := by rw [cell_block hbl]; rfl
                   have p1 : w5.cell? ⟨w.heap.size, 1, none⟩ = some (.slice none 0 0) := by rw [cell_block hbl]; rfl
                   have pf : ∀ o, w5.frozen? ⟨w.heap.size, o, none⟩ = false := fun o => frozen_block hbl
                   clear hb hbl hE hse hF2 hge9 hS5 hF5 hfr5 hc5 hge5 hz5))
              have HZ : Hid (∀ wz, Chg [w.heap.size] w5 wz → RetElem2 logD w (wmL l n (liF s)) (wmOk l n (liF s)) (.returned (.tuple #[.agg #[.int .i64 0, .slice none 0 0], .bool false])) wz) := by
                intro wz hch
                rw [wmL_no HOK.out, HOK.out]
                exact ⟨_, [], rfl, noLog_M wz, by simp, by simp, HE.out.trans (hch.below HE.out.size (by simp))⟩
              refine bodyPost_ret (v := .tuple #[.agg #[.int .i64 0, .slice none 0 0], .bool false]) (by simp [results, Tryz.results52, go_sem, p0, p1, pf]) rfl (HZ.out _ ?_)
              (repeat (with_reducible refine Chg.setCell ?_ (.inl (by simp)) _))
              exact Chg.refl _ _
      · have hh' : hasB m.likes s = true := by simpa using hh
        have HHB := hide hh'
        have HOK := hide (show wmOk l n (liF s) = false by rw [HOKE.out, liF_no hh']; simp)
        clear hh hh'
        go_enter Tryz.func52, Tryz.ntmps52
        go_wp2_with (first
          | (go_at_call 75
             refine (l03Live_c l _ _ n _ (HP.out.below HA0.out)).mono ?_
             rintro e w1 ⟨rfl, hb⟩
             rw [hlive]
             have HB1 := hide (HA0.out.trans (hb.mono HA0.out.size))
             have hz1 := hb.size
             simp only [World.size_alloc] at hz1
             have b1 := cell_below HB1.out hb1
             have hbl := (hb.block _ (by simp)).trans (alloc_new w _)
             have HBL1 := hide hbl
             have p0 : w1.cell? ⟨w.heap.size, 0, none⟩ = some (.int .i64 0) := by rw [cell_block hbl]; rfl
             have p1 : w1.cell? ⟨w.heap.size, 1, none⟩ = some (.slice none 0 0) := by rw [cell_block hbl]; rfl
             have pf : ∀ o, w1.frozen? ⟨w.heap.size, o, none⟩ = false := fun o => frozen_block hbl
             have HE := HB1
             obtain ⟨v7, h7, hq, hc0, hc1, hc2, hc3, hc4, hc5, hc6, hc7⟩ := message_at HRB.out HB1.out HX.out
             clear hb hbl)
          | (go_at_call 72
             refine (l00Has_c _ m.likes _ _ h7).mono ?_
             rintro e wq ⟨rfl, hb⟩
             rw [HHB.out]
             have HB1q := hide (HB1.out.trans (hb.mono HB1.out.size))
             have b1 := cell_below hb b1
             have hzq := hb.size
             have hblq := (hb.block w.heap.size (by omega)).trans HBL1.out
             have HBL1q := hide hblq
             clear p0 p1 pf HE HB1 HBL1
             have HB1 := HB1q
             have HE := HB1q
             have HBL1 := HBL1q
             clear HB1q HBL1q
             have p0 : wq.cell? ⟨w.heap.size, 0, none⟩ = some (.int .i64 0) := by rw [cell_block hblq]; rfl
             have p1 : wq.cell? ⟨w.heap.size, 1, none⟩ = some (.slice none 0 0) := by rw [cell_block hblq]; rfl
             have pf : ∀ o, wq.frozen? ⟨w.heap.size, o, none⟩ = false := fun o => frozen_block hblq
             clear hb hblq hc0 hc1 hc2 hc3 hc4 hc5 hc6 hc7 h7))
        have HZ : Hid (∀ wz, Chg [w.heap.size] wq wz → RetElem2 logD w (wmL l n (liF s)) (wmOk l n (liF s)) (.returned (.tuple #[.agg #[.int .i64 0, .slice none 0 0], .bool false])) wz) := by
          intro wz hch
          rw [wmL_no HOK.out, HOK.out]
          exact ⟨_, [], rfl, noLog_M wz, by simp, by simp, HE.out.trans (hch.below HE.out.size (by simp))⟩
        refine bodyPost_ret (v := .tuple #[.agg #[.int .i64 0, .slice none 0 0], .bool false]) (by simp [results, Tryz.results52, go_sem, p0, p1, pf]) rfl (HZ.out _ ?_)
        (repeat (with_reducible refine Chg.setCell ?_ (.inl (by simp)) _))
        exact Chg.refl _ _
  · have hn2 : idxP (numIs n) l.messages < 0 := by omega
    have HOK := hide (wmOk_none (f := liF s) hn2)
    have hlive := live_none hn2
    clear hn hra
    go_enter Tryz.func52, Tryz.ntmps52
    go_wp2_with (go_at_call 75
                 refine (l03Live_c l _ _ n _ (HP.out.below HA0.out)).mono ?_
                 rintro e w1 ⟨rfl, hb⟩
                 rw [hlive]
                 have HB1 := hide (HA0.out.trans (hb.mono HA0.out.size))
                 have hz1 := hb.size
                 simp only [World.size_alloc] at hz1
                 have b1 := cell_below HB1.out hb1
                 have hbl := (hb.block _ (by simp)).trans (alloc_new w _)
                 have HBL1 := hide hbl
                 have p0 : w1.cell? ⟨w.heap.size, 0, none⟩ = some (.int .i64 0) := by rw [cell_block hbl]; rfl
                 have p1 : w1.cell? ⟨w.heap.size, 1, none⟩ = some (.slice none 0 0) := by rw [cell_block hbl]; rfl
                 have pf : ∀ o, w1.frozen? ⟨w.heap.size, o, none⟩ = false := fun o => frozen_block hbl
                 have HE := HB1
                 skip
                 clear hb hbl)
    have HZ : Hid (∀ wz, Chg [w.heap.size] w1 wz → RetElem2 logD w (wmL l n (liF s)) (wmOk l n (liF s)) (.returned (.tuple #[.agg #[.int .i64 0, .slice none 0 0], .bool false])) wz) := by
      intro wz hch
      rw [wmL_no HOK.out, HOK.out]
      exact ⟨_, [], rfl, noLog_M wz, by simp, by simp, HE.out.trans (hch.below HE.out.size (by simp))⟩
    refine bodyPost_ret (v := .tuple #[.agg #[.int .i64 0, .slice none 0 0], .bool false]) (by simp [results, Tryz.results52, go_sem, p0, p1, pf]) rfl (HZ.out _ ?_)
    (repeat (with_reducible refine Chg.setCell ?_ (.inl (by simp)) _))
    exact Chg.refl _ _
end Go.Proofs.YtodmongmaoeknaaGreat
