/- A message is taken back: the program and the reference. -/
import Derived.Test.YtodmongmaoeknaaGreatLive
namespace Go.Proofs.YtodmongmaoeknaaGreat
open Go Go.RowKit Go.BigFrame
attribute [local go_sem] Calm.cell Calm.frozen
set_option linter.unusedVariables false
set_option linter.unusedSimpArgs false

def tbF (s : Int) (m : Message) : Message × Bool := ({ m with gone := true, text := ⟨#[]⟩, likes := [] }, decide (m.sender = s))

def takeBackL (l : Log) (n s : Int) : Log := wmL l n (tbF s)
def takeBackOk (l : Log) (n s : Int) : Bool := wmOk l n (tbF s)
theorem takeBack_cnt (l : Log) (n s : Int) : tcntLog (takeBackL l n s) ≤ 1080 := wmL_cnt _ _ _

set_option maxHeartbeats 2000000 in
set_option maxRecDepth 100000 in
theorem takeBack1_c (s : Int) (b5 : Nat) (w : World) (h5 : w.cell? ⟨b5, 0, none⟩ = some (.int .i64 s)) : Turns 88 #[.pointer (some ⟨b5, 0, none⟩)] (tbF s) w := by
  intro ms k m b cap F W hb hS hF hFge hx hv
  show Calls Tryz.prog 88 #[.pointer (some ⟨b, k * 8, none⟩), .pointer (some ⟨b5, 0, none⟩)] W _
  obtain ⟨cs, G, hE⟩ := hS.elem hF hx
  obtain ⟨v7, F7, rfl, rfl, h7⟩ := message_M hE.M
  obtain ⟨A7, c7, rfl⟩ := h7.toK.shape
  have h5' := cell_below hb h5
  have hl5' := World.block_lt_of_cell? w _ h5
  have hl5 := World.block_lt_of_cell? W _ h5'
  simp only [] at hl5 hl5'
  have hbb := hFge b hE.mem
  have hne : ¬ b5 = b := by omega
  have hne' : ¬ b = b5 := by omega
  have hlb := hE.lt
  have hfz := hE.frozen
  have g0 := hE.cell 0 _ rfl
  have g1 := hE.cell 1 _ rfl
  have g2 := hE.cell 2 _ rfl
  have g3 := hE.cell 3 _ rfl
  have g4 := hE.cell 4 _ rfl
  have g5 := hE.cell 5 _ rfl
  have g6 := hE.cell 6 _ rfl
  have g7 := hE.cell 7 _ rfl
  simp only [show messageD.sz = 8 from rfl, Nat.add_zero] at g0 g1 g2 g3 g4 g5 g6 g7
  have HE := hide hE
  clear hS hF hFge hE h7 h5 hb
  go_enter Tryz.func88, Tryz.ntmps88
  go_wp2_with fail
  (refine wp_region_calm (by kernel_rfl) (by kernel_rfl) ?_; (repeat (first | go_big_quiet_skip | (go_big_quiet_want; go_big_quiet_op; (first | go_big_quiet_on | (apply Exists.intro; refine ⟨fun ic => ?_, ?_⟩; (focus (fail; done)); go_big_quiet_on))))); refine wpQuiet_nil ?_; intro wq hwq; obtain ⟨iq, hwe⟩ := hwq; subst hwe)
  go_wp2_with fail
  have cc : ∀ i u, ([.int .i64 m.number, .int .i64 m.sender, .int .i64 m.at_, .string ⟨#[]⟩, .int .i64 m.edits, .bool true, .int .i64 m.reply, .slice none 0 0] : List Value)[i]? = some u → iq.world.cell? ⟨b, k * 8 + i, none⟩ = some u :=
    fun i u hu => cell_below iq.below (eight (P := fun i u => (((W.setCell ⟨b, k * 8 + 5, none⟩ (.bool true)).setCell ⟨b, k * 8 + 3, none⟩ (.string ⟨#[]⟩)).setCell ⟨b, k * 8 + 7, none⟩ (.slice none 0 0)).cell? ⟨b, k * 8 + i, none⟩ = some u)
      (by go_simp) (by go_simp) (by go_simp) (by go_simp) (by go_simp) (by go_simp) (by go_simp) (by go_simp) i u hu)
  have hw : Wrote b (k * 8) (k * 8 + 8) 82 W iq.world := ((((Wrote.refl _ _ _ _ W).set (k * 8 + 5) (.bool true) (by omega) (by omega)).set (k * 8 + 3) (.string ⟨#[]⟩) (by omega) (by omega)).set (k * 8 + 7) (.slice none 0 0) (by omega) (by omega)).below iq.below
  have hch : Chg (b :: G) W iq.world := ((((Chg.refl (b :: G) W).setCell (p := ⟨b, k * 8 + 5, none⟩) (.inl List.mem_cons_self) (.bool true)).setCell (p := ⟨b, k * 8 + 3, none⟩) (.inl List.mem_cons_self) (.string ⟨#[]⟩)).setCell (p := ⟨b, k * 8 + 7, none⟩) (.inl List.mem_cons_self) (.slice none 0 0)).trans (.of_below iq.below _)
  have HT := hide (HE.out.turn iq.world _ (tbF s m).1 [] hw hch (message_M_mk (x := (tbF s m).1) (.inl ⟨rfl, rfl, rfl⟩)) cc (by simp) (by simp))
  clear cc hw hch
  go_ret
  exact ⟨ret_bool (by rw [Bool.eq_iff_iff]; simp [tbF]), HT.out⟩
set_option maxHeartbeats 4000000 in
set_option maxRecDepth 100000 in
theorem takeBack_c (l : Log) (v1 : Value) (n : Int) (s : Int) (w : World) (h1 : SliceK messageD w v1 l.messages) (ht : okTexts l.messages) :
    Calls Tryz.prog 61 #[.agg #[.int .i64 l.next, v1], .int .i64 n, .int .i64 s] w (RetElem2 logD w (takeBackL l n s) (takeBackOk l n s)) := by
  show Calls Tryz.prog 61 #[.agg #[.int .i64 l.next, v1], .int .i64 n, .int .i64 s] w (RetElem2 logD w (wmL l n (tbF s)) (wmOk l n (tbF s)))
  obtain ⟨A, c, rfl⟩ := h1.shape
  have H1 := hide h1
  have HT := hide ht
  clear h1 ht
  have HW := hide ((((Below.refl w.heap.size w).alloc (Nat.le_refl _) (.cells #[.int .i64 l.next, .slice A l.messages.length c] 31)).alloc (by simp <;> omega) (.cells #[.int .i64 s] 2)).alloc (by simp <;> omega) (.cells #[.int .i64 0, .slice none 0 0] 31))
  have HC0 := hide (show (((w.alloc (.cells #[.int .i64 l.next, .slice A l.messages.length c] 31)).alloc (.cells #[.int .i64 s] 2)).alloc (.cells #[.int .i64 0, .slice none 0 0] 31)).cell? ⟨w.heap.size + 1, 0, none⟩ = some (.int .i64 s) by go_simp)
  have HZB := hide (show (((w.alloc (.cells #[.int .i64 l.next, .slice A l.messages.length c] 31)).alloc (.cells #[.int .i64 s] 2)).alloc (.cells #[.int .i64 0, .slice none 0 0] 31)).heap[w.heap.size + 1 + 1]? = some (.cells #[.int .i64 0, .slice none 0 0] 31 (0, 0)) by
    have := alloc_new ((w.alloc (.cells #[.int .i64 l.next, .slice A l.messages.length c] 31)).alloc (.cells #[.int .i64 s] 2)) (.cells #[.int .i64 0, .slice none 0 0] 31)
    simpa using this)
  have eg := enters_of Tryz.func88 (by kernel_rfl) rfl
  go_enter Tryz.func61, Tryz.ntmps61
  go_wp2_with (
    go_at_call 86
    refine (withMessage_c _ _ (tbF s) l _ n _ (H1.out.below HW.out) HT.out (fun m hm => by simp [tbF, ByteArray.size]) eg (takeBack1_c s _ _ HC0.out)).mono ?_
    rintro e w1 ⟨cs, F, rfl, hM, hF, hge, hb⟩
    obtain ⟨v9, F9, rfl, hFF, hS⟩ := log_M hM
    obtain ⟨A9, c9, rfl⟩ := hS.toK.shape
    have hz1 := hb.size
    simp only [World.size_alloc] at hz1
    have hbl := (hb.block _ (by simp <;> omega)).trans HZB.out
    have p0 : w1.cell? ⟨w.heap.size + 1 + 1, 0, none⟩ = some (.int .i64 0) := by rw [cell_block hbl]; rfl
    have p1 : w1.cell? ⟨w.heap.size + 1 + 1, 1, none⟩ = some (.slice none 0 0) := by rw [cell_block hbl]; rfl
    have pf : ∀ o, w1.frozen? ⟨w.heap.size + 1 + 1, o, none⟩ = false := fun o => frozen_block hbl
    have HE := hide (below_step HW.out hb)
    have HMD := hide (And.intro hM (And.intro hF (show ∀ b ∈ F, w.heap.size + 1 + 1 < b from fun b hb => (by have := hge b hb; simp at this; omega))))
    clear hM hF hge hb hFF hS hbl)
  have HZ : Hid (∀ wz, Chg [w.heap.size + 1 + 1] w1 wz → RetElem2 logD w (wmL l n (tbF s)) (wmOk l n (tbF s)) (.returned (.tuple #[.agg #[.int .i64 (wmL l n (tbF s)).next, .slice A9 (wmL l n (tbF s)).messages.length c9], .bool (wmOk l n (tbF s))])) wz) := by
    intro wz hch
    obtain ⟨hM, hF, hge⟩ := HMD.out
    exact ⟨_, F, rfl, Dt.M_move _ (fun b hb => hch.block b (logD.M_lt hM b hb) (by have := hge b hb; simp; omega)) hM, hF, fun b hb => by have := hge b hb; omega, HE.out.trans (hch.below HE.out.size (by simp <;> omega))⟩
  refine bodyPost_ret (v := .tuple #[.agg #[.int .i64 (wmL l n (tbF s)).next, .slice A9 (wmL l n (tbF s)).messages.length c9], .bool (wmOk l n (tbF s))]) (by simp [results, Tryz.results61, go_sem, p0, p1, pf]) rfl (HZ.out _ ?_)
  (repeat (with_reducible refine Chg.setCell ?_ (.inl (by simp)) _))
  exact Chg.refl _ _
theorem tb_empty (w2 : World) (p3 p7 p5 : Addr) (c : Obj) (u3 u7 u5 : Value) :
    SliceM intD 2 (((((w2.setCell p3 u3).setCell p7 u7).setCell p5 u5).alloc c).alloc (.cells #[] 2)) (.slice (some ⟨w2.heap.size + 1, 0, none⟩) 0 0) [] [w2.heap.size + 1] := by
  have h := emptyM (d := intD) (e := 2) ((((w2.setCell p3 u3).setCell p7 u7).setCell p5 u5).alloc c)
  simp only [World.size_setCell, World.size_alloc] at h
  exact h
set_option maxHeartbeats 8000000 in
set_option maxRecDepth 100000 in
theorem l03TakeBack_c (l : Log) (b o : Nat) (n s : Int) (w : World) (hp : RowAt logD w b o [l]) (ht : okTexts l.messages) (hv : validLogB l = true) :
    Calls Tryz.prog 51 #[.pointer (some ⟨b, o, none⟩), .int .i64 n, .int .i64 s] w (RetElem2 logD w (wmL l n (tbF s)) (wmOk l n (tbF s))) := by
  obtain ⟨v1, h1, hbz, hb0, hb1⟩ := log_at hp (Below.refl _ _) (j := 0) rfl
  simp only [Nat.zero_mul, Nat.add_zero] at hb0 hb1
  obtain ⟨A, c, rfl, hl, hm, hra⟩ := h1
  have HP := hide hp
  have HV := hide hv
  have HT := hide ht
  have HFEW := hide (fewL_of hv)
  have HA0 := hide ((Below.refl w.heap.size w).alloc (Nat.le_refl _) (.cells #[.int .i64 0, .slice none 0 0] 31))
  clear hp hv ht
  by_cases hn : 0 ≤ idxP (numIs n) l.messages
  · obtain ⟨k, m, hk, hlk, hx, hmn⟩ := idx_found hn
    have hlt2 : (k : Int) < (l.messages.length : Int) := by omega
    have HX := hide hx
    have HRA := hide hra
    have HOKE := hide (wmOk_at (f := tbF s) HV.out hk hx)
    clear hn hx hmn hra
    by_cases hg : m.gone = true
    · have hlive := live_gone hk HX.out hg
      have HOK := hide (show wmOk l n (tbF s) = false by rw [HOKE.out, hg]; rfl)
      go_enter Tryz.func51, Tryz.ntmps51
      go_wp2_with (go_at_call 75
                   refine (l03Live_c l _ _ n _ (HP.out.below HA0.out)).mono ?_
                   rintro e w1 ⟨rfl, hb⟩
                   rw [hlive]
                   have HB1 := hide (HA0.out.trans (hb.mono HA0.out.size))
                   have hz1 := hb.size
                   simp only [World.size_alloc] at hz1
                   have b1 := cell_below HB1.out hb1
                   have hbl := (hb.block _ (by simp)).trans (alloc_new w _)
                   have HBL1 := hide hbl
                   have p0 : w1.cell? ⟨w.heap.size, 0, none⟩ = some (.int .i64 0) := by rw [cell_block hbl]; rfl
                   have p1 : w1.cell? ⟨w.heap.size, 1, none⟩ = some (.slice none 0 0) := by rw [cell_block hbl]; rfl
                   have pf : ∀ o, w1.frozen? ⟨w.heap.size, o, none⟩ = false := fun o => frozen_block hbl
                   have HE := HB1
                   skip
                   clear hb hbl)
      have HZ : Hid (∀ wz, Chg [w.heap.size] w1 wz → RetElem2 logD w (wmL l n (tbF s)) (wmOk l n (tbF s)) (.returned (.tuple #[.agg #[.int .i64 0, .slice none 0 0], .bool false])) wz) := by
        intro wz hch
        rw [wmL_no HOK.out, HOK.out]
        exact ⟨_, [], rfl, noLog_M wz, by simp, by simp, HE.out.trans (hch.below HE.out.size (by simp))⟩
      refine bodyPost_ret (v := .tuple #[.agg #[.int .i64 0, .slice none 0 0], .bool false]) (by simp [results, Tryz.results51, go_sem, p0, p1, pf]) rfl (HZ.out _ ?_)
      (repeat (with_reducible refine Chg.setCell ?_ (.inl (by simp)) _))
      exact Chg.refl _ _
    · have hg' : m.gone = false := by simpa using hg
      have hlive := live_at hk HX.out hg'
      clear hg
      rcases HRA.out with hnil | ⟨q, o2, rfl, hra⟩
      · rw [hnil] at hlk; simp at hlk
      have HRB := hide hra
      clear hra
      by_cases hs : m.sender = s
      · have HT2 := hide (show okTexts (setMsg l k (tbF s m).1).messages from fun y hy => by
          rcases List.mem_or_eq_of_mem_set hy with h | h
          · exact HT.out y h
          · rw [h]; simp [tbF, ByteArray.size])
        by_cases hv2 : validLogB (setMsg l k (tbF s m).1) = true
        · have HV2 := hide hv2
          have HOK := hide (show wmOk l n (tbF s) = true by rw [HOKE.out, hg', hv2]; simp [tbF, hs])
          have HL := hide (wmL_yes HOK.out hk HX.out)
          clear hv2
          go_enter Tryz.func51, Tryz.ntmps51
          go_wp2_with (first
            | (go_at_call 75
               refine (l03Live_c l _ _ n _ (HP.out.below HA0.out)).mono ?_
               rintro e w1 ⟨rfl, hb⟩
               rw [hlive]
               have HB1 := hide (HA0.out.trans (hb.mono HA0.out.size))
               have hz1 := hb.size
               simp only [World.size_alloc] at hz1
               have b1 := cell_below HB1.out hb1
               have hbl := (hb.block _ (by simp)).trans (alloc_new w _)
               have HBL1 := hide hbl
               have p0 : w1.cell? ⟨w.heap.size, 0, none⟩ = some (.int .i64 0) := by rw [cell_block hbl]; rfl
               have p1 : w1.cell? ⟨w.heap.size, 1, none⟩ = some (.slice none 0 0) := by rw [cell_block hbl]; rfl
               have pf : ∀ o, w1.frozen? ⟨w.heap.size, o, none⟩ = false := fun o => frozen_block hbl
               have HE := HB1
               obtain ⟨v7, h7, hq, hc0, hc1, hc2, hc3, hc4, hc5, hc6, hc7⟩ := message_at HRB.out HB1.out HX.out
               clear hb hbl)
            | (go_at_call 32
               refine (l03Own_c l _ _ _ (HP.out.below HB1.out) HFEW.out).mono ?_
               rintro e w2 ⟨cs2, F2, rfl, hM2, hF2, hge2, hb⟩
               obtain ⟨v2, F2', rfl, rfl, hS2⟩ := log_M hM2
               rcases hS2.row with ⟨_, hnil, _⟩ | ⟨b9, c2, cur9, css9, Fs9, rfl, hrow, hFe⟩
               · rw [hnil] at hlk; simp at hlk
               obtain ⟨cse, Ge, hE⟩ := hS2.elem hF2 HX.out
               obtain ⟨ve, Fe, rfl, rfl, hse⟩ := message_M hE.M
               obtain ⟨Ae, ce, rfl⟩ := hse.toK.shape
               have g0 := hE.cell 0 _ rfl
               have g1 := hE.cell 1 _ rfl
               have g2 := hE.cell 2 _ rfl
               have g3 := hE.cell 3 _ rfl
               have g4 := hE.cell 4 _ rfl
               have g5 := hE.cell 5 _ rfl
               have g6 := hE.cell 6 _ rfl
               have g7 := hE.cell 7 _ rfl
               simp only [show messageD.sz = 8 from rfl, Nat.add_zero] at g0 g1 g2 g3 g4 g5 g6 g7
               have hfz := hE.frozen
               have hbe := hE.lt
               have hz2 := hb.size
               have hne9 : ¬ b9 = w2.heap.size := by omega
               have hne8 : ¬ w2.heap.size = b9 := by omega
               have hbe1 : b9 < w2.heap.size + 1 := by omega
               have hge9 : ∀ x ∈ F2, w.heap.size + 1 ≤ x := fun x hx => (by have := hge2 x hx; omega)
               have HE2 := hide (HE.out.trans (hb.mono HE.out.size))
               have hbl := (hb.block _ (by omega)).trans HBL1.out
               have HBL2 := hide hbl
               have HELEM := hide (And.intro hE (And.intro hse (And.intro hF2 hge9)))
               clear hb hbl hM2 hF2 hge2 hge9 hrow hFe hS2 hE hse p0 p1 pf HE)
            | (go_at_call 74
               obtain ⟨hE, hse, hF2, hge9⟩ := HELEM.out
               have hT := (hE.turn (((((w2.setCell ⟨b9, k * 8 + 3, none⟩ (.string ⟨#[]⟩)).setCell ⟨b9, k * 8 + 7, none⟩ (.slice (some ⟨w2.heap.size + 1, 0, none⟩) 0 0)).setCell ⟨b9, k * 8 + 5, none⟩ (.bool true)).alloc (.cells #[.int .i64 l.next, .slice (some ⟨b9, 0, none⟩) l.messages.length c2] 31)).alloc (.cells #[] 2)) [.int .i64 m.number, .int .i64 m.sender, .int .i64 m.at_, .string ⟨#[]⟩, .int .i64 m.edits, .bool true, .int .i64 m.reply, .slice (some ⟨w2.heap.size + 1, 0, none⟩) 0 0] (tbF s m).1 [w2.heap.size + 1] ((((((Wrote.refl _ _ _ _ w2).set (k * 8 + 3) (.string ⟨#[]⟩) (by simp [show messageD.sz = 8 from rfl]) (by simp [show messageD.sz = 8 from rfl])).set (k * 8 + 7) _ (by simp [show messageD.sz = 8 from rfl]) (by simp [show messageD.sz = 8 from rfl])).set (k * 8 + 5) _ (by simp [show messageD.sz = 8 from rfl]) (by simp [show messageD.sz = 8 from rfl])).alloc _).alloc _) ((((((Chg.refl (b9 :: Ge) w2).setCell (p := ⟨b9, k * 8 + 3, none⟩) (.inl List.mem_cons_self) _).setCell (p := ⟨b9, k * 8 + 7, none⟩) (.inl List.mem_cons_self) _).setCell (p := ⟨b9, k * 8 + 5, none⟩) (.inl List.mem_cons_self) _).alloc _).alloc _) (message_M_mk (x := (tbF s m).1) (v7 := .slice (some ⟨w2.heap.size + 1, 0, none⟩) 0 0) (tb_empty w2 _ _ _ _ _ _ _)) (eight (P := fun i u => (((((w2.setCell ⟨b9, k * 8 + 3, none⟩ (.string ⟨#[]⟩)).setCell ⟨b9, k * 8 + 7, none⟩ (.slice (some ⟨w2.heap.size + 1, 0, none⟩) 0 0)).setCell ⟨b9, k * 8 + 5, none⟩ (.bool true)).alloc (.cells #[.int .i64 l.next, .slice (some ⟨b9, 0, none⟩) l.messages.length c2] 31)).alloc (.cells #[] 2)).cell? ⟨b9, k * 8 + i, none⟩ = some u) (by go_simp) (by go_simp) (by go_simp) (by go_simp) (by go_simp) (by go_simp) (by go_simp) (by go_simp)) (by simp) (by simp))
               obtain ⟨F5, hS5, hF5, hfr5, hc5⟩ := hT
               have hz5 := hc5.size
               refine (giveYes_c (setMsg l k (tbF s m).1) _ _ (by have h := hS5.toK; exact h) HT2.out HV2.out).mono ?_
               rintro e w5 ⟨rfl, hb⟩
               have hge5 : ∀ x ∈ F5, w.heap.size + 1 ≤ x := fun x hx => (by rcases hfr5 x hx with h | h; exact hge9 x h; omega)
               have HS5 := hide (And.intro (hS5.by hb) (And.intro hF5 hge5))
               have HE := hide ((HE2.out.trans (hc5.below (B := w.heap.size) HE2.out.size (fun x hx => by have := hge9 x hx; omega))).trans (hb.mono (by have := HE2.out.size; omega)))
               have hbl := (hb.block _ (by omega)).trans ((hc5.block _ (by omega) (fun h => by have := hge9 _ h; omega)).trans HBL2.out)
               have p0 : w5.cell? ⟨w.heap.size, 0, none⟩ = some (.int .i64 0) := by rw [cell_block hbl]; rfl
               have p1 : w5.cell? ⟨w.heap.size, 1, none⟩ = some (.slice none 0 0) := by rw [cell_block hbl]; rfl
               have pf : ∀ o, w5.frozen? ⟨w.heap.size, o, none⟩ = false := fun o => frozen_block hbl
               clear hb hbl hE hse hF2 hge9 hS5 hF5 hfr5 hc5 hge5 hz5))
          have HZ : Hid (∀ wz, Chg [w.heap.size] w5 wz → RetElem2 logD w (wmL l n (tbF s)) (wmOk l n (tbF s)) (.returned (.tuple #[.agg #[.int .i64 l.next, .slice (some ⟨b9, 0, none⟩) l.messages.length c2], .bool true])) wz) := by
            intro wz hch
            rw [HL.out, HOK.out]
            obtain ⟨hS, hF, hge⟩ := HS5.out
            have hS' := hS.move fun b hb => hch.block b (hS.lt b hb) (by have := hge b hb; simp; omega)
            have hlen : (setMsg l k ((tbF s) m).1).messages.length = l.messages.length := by simp [setMsg]
            exact ⟨_, F5, rfl, log_M_mk (x := setMsg l k ((tbF s) m).1) hS', hF, fun b hb => by have := hge b hb; omega, HE.out.trans (hch.below HE.out.size (by simp))⟩
          refine bodyPost_ret (v := .tuple #[.agg #[.int .i64 l.next, .slice (some ⟨b9, 0, none⟩) l.messages.length c2], .bool true]) (by simp [results, Tryz.results51, go_sem, p0, p1, pf, setMsg]) rfl (HZ.out _ ?_)
          (repeat (with_reducible refine Chg.setCell ?_ (.inl (by simp)) _))
          exact Chg.refl _ _
        · have HV2 := hide (show validLogB (setMsg l k (tbF s m).1) = false by simpa using hv2)
          have HOK := hide (show wmOk l n (tbF s) = false by rw [HOKE.out, HV2.out]; simp)
          clear hv2
          go_enter Tryz.func51, Tryz.ntmps51
          go_wp2_with (first
            | (go_at_call 75
               refine (l03Live_c l _ _ n _ (HP.out.below HA0.out)).mono ?_
               rintro e w1 ⟨rfl, hb⟩
               rw [hlive]
               have HB1 := hide (HA0.out.trans (hb.mono HA0.out.size))
               have hz1 := hb.size
               simp only [World.size_alloc] at hz1
               have b1 := cell_below HB1.out hb1
               have hbl := (hb.block _ (by simp)).trans (alloc_new w _)
               have HBL1 := hide hbl
               have p0 : w1.cell? ⟨w.heap.size, 0, none⟩ = some (.int .i64 0) := by rw [cell_block hbl]; rfl
               have p1 : w1.cell? ⟨w.heap.size, 1, none⟩ = some (.slice none 0 0) := by rw [cell_block hbl]; rfl
               have pf : ∀ o, w1.frozen? ⟨w.heap.size, o, none⟩ = false := fun o => frozen_block hbl
               have HE := HB1
               obtain ⟨v7, h7, hq, hc0, hc1, hc2, hc3, hc4, hc5, hc6, hc7⟩ := message_at HRB.out HB1.out HX.out
               clear hb hbl)
            | (go_at_call 32
               refine (l03Own_c l _ _ _ (HP.out.below HB1.out) HFEW.out).mono ?_
               rintro e w2 ⟨cs2, F2, rfl, hM2, hF2, hge2, hb⟩
               obtain ⟨v2, F2', rfl, rfl, hS2⟩ := log_M hM2
               rcases hS2.row with ⟨_, hnil, _⟩ | ⟨b9, c2, cur9, css9, Fs9, rfl, hrow, hFe⟩
               · rw [hnil] at hlk; simp at hlk
               obtain ⟨cse, Ge, hE⟩ := hS2.elem hF2 HX.out
               obtain ⟨ve, Fe, rfl, rfl, hse⟩ := message_M hE.M
               obtain ⟨Ae, ce, rfl⟩ := hse.toK.shape
               have g0 := hE.cell 0 _ rfl
               have g1 := hE.cell 1 _ rfl
               have g2 := hE.cell 2 _ rfl
               have g3 := hE.cell 3 _ rfl
               have g4 := hE.cell 4 _ rfl
               have g5 := hE.cell 5 _ rfl
               have g6 := hE.cell 6 _ rfl
               have g7 := hE.cell 7 _ rfl
               simp only [show messageD.sz = 8 from rfl, Nat.add_zero] at g0 g1 g2 g3 g4 g5 g6 g7
               have hfz := hE.frozen
               have hbe := hE.lt
               have hz2 := hb.size
               have hne9 : ¬ b9 = w2.heap.size := by omega
               have hne8 : ¬ w2.heap.size = b9 := by omega
               have hbe1 : b9 < w2.heap.size + 1 := by omega
               have hge9 : ∀ x ∈ F2, w.heap.size + 1 ≤ x := fun x hx => (by have := hge2 x hx; omega)
               have HE2 := hide (HE.out.trans (hb.mono HE.out.size))
               have hbl := (hb.block _ (by omega)).trans HBL1.out
               have HBL2 := hide hbl
               have HELEM := hide (And.intro hE (And.intro hse (And.intro hF2 hge9)))
               clear hb hbl hM2 hF2 hge2 hge9 hrow hFe hS2 hE hse p0 p1 pf HE)
            | (go_at_call 74
               obtain ⟨hE, hse, hF2, hge9⟩ := HELEM.out
               have hT := (hE.turn (((((w2.setCell ⟨b9, k * 8 + 3, none⟩ (.string ⟨#[]⟩)).setCell ⟨b9, k * 8 + 7, none⟩ (.slice (some ⟨w2.heap.size + 1, 0, none⟩) 0 0)).setCell ⟨b9, k * 8 + 5, none⟩ (.bool true)).alloc (.cells #[.int .i64 l.next, .slice (some ⟨b9, 0, none⟩) l.messages.length c2] 31)).alloc (.cells #[] 2)) [.int .i64 m.number, .int .i64 m.sender, .int .i64 m.at_, .string ⟨#[]⟩, .int .i64 m.edits, .bool true, .int .i64 m.reply, .slice (some ⟨w2.heap.size + 1, 0, none⟩) 0 0] (tbF s m).1 [w2.heap.size + 1] ((((((Wrote.refl _ _ _ _ w2).set (k * 8 + 3) (.string ⟨#[]⟩) (by simp [show messageD.sz = 8 from rfl]) (by simp [show messageD.sz = 8 from rfl])).set (k * 8 + 7) _ (by simp [show messageD.sz = 8 from rfl]) (by simp [show messageD.sz = 8 from rfl])).set (k * 8 + 5) _ (by simp [show messageD.sz = 8 from rfl]) (by simp [show messageD.sz = 8 from rfl])).alloc _).alloc _) ((((((Chg.refl (b9 :: Ge) w2).setCell (p := ⟨b9, k * 8 + 3, none⟩) (.inl List.mem_cons_self) _).setCell (p := ⟨b9, k * 8 + 7, none⟩) (.inl List.mem_cons_self) _).setCell (p := ⟨b9, k * 8 + 5, none⟩) (.inl List.mem_cons_self) _).alloc _).alloc _) (message_M_mk (x := (tbF s m).1) (v7 := .slice (some ⟨w2.heap.size + 1, 0, none⟩) 0 0) (tb_empty w2 _ _ _ _ _ _ _)) (eight (P := fun i u => (((((w2.setCell ⟨b9, k * 8 + 3, none⟩ (.string ⟨#[]⟩)).setCell ⟨b9, k * 8 + 7, none⟩ (.slice (some ⟨w2.heap.size + 1, 0, none⟩) 0 0)).setCell ⟨b9, k * 8 + 5, none⟩ (.bool true)).alloc (.cells #[.int .i64 l.next, .slice (some ⟨b9, 0, none⟩) l.messages.length c2] 31)).alloc (.cells #[] 2)).cell? ⟨b9, k * 8 + i, none⟩ = some u) (by go_simp) (by go_simp) (by go_simp) (by go_simp) (by go_simp) (by go_simp) (by go_simp) (by go_simp)) (by simp) (by simp))
               obtain ⟨F5, hS5, hF5, hfr5, hc5⟩ := hT
               have hz5 := hc5.size
               refine (giveNo_c (setMsg l k (tbF s m).1) _ _ (by have h := hS5.toK; exact h) HT2.out HV2.out).mono ?_
               rintro e w5 ⟨rfl, hb⟩
               have hge5 : ∀ x ∈ F5, w.heap.size + 1 ≤ x := fun x hx => (by rcases hfr5 x hx with h | h; exact hge9 x h; omega)
               have HS5 := hide (And.intro (hS5.by hb) (And.intro hF5 hge5))
               have HE := hide ((HE2.out.trans (hc5.below (B := w.heap.size) HE2.out.size (fun x hx => by have := hge9 x hx; omega))).trans (hb.mono (by have := HE2.out.size; omega)))
               have hbl := (hb.block _ (by omega)).trans ((hc5.block _ (by omega) (fun h => by have := hge9 _ h; omega)).trans HBL2.out)
               have p0 : w5.cell? ⟨w.heap.size, 0, none⟩ = some (.int .i64 0) := by rw [cell_block hbl]; rfl
               have p1 : w5.cell? ⟨w.heap.size, 1, none⟩ = some (.slice none 0 0) := by rw [cell_block hbl]; rfl
               have pf : ∀ o, w5.frozen? ⟨w.heap.size, o, none⟩ = false := fun o => frozen_block hbl
               clear hb hbl hE hse hF2 hge9 hS5 hF5 hfr5 hc5 hge5 hz5))
          have HZ : Hid (∀ wz, Chg [w.heap.size] w5 wz → RetElem2 logD w (wmL l n (tbF s)) (wmOk l n (tbF s)) (.returned (.tuple #[.agg #[.int .i64 0, .slice none 0 0], .bool false])) wz) := by
            intro wz hch
            rw [wmL_no HOK.out, HOK.out]
            exact ⟨_, [], rfl, noLog_M wz, by simp, by simp, HE.out.trans (hch.below HE.out.size (by simp))⟩
          refine bodyPost_ret (v := .tuple #[.agg #[.int .i64 0, .slice none 0 0], .bool false]) (by simp [results, Tryz.results51, go_sem, p0, p1, pf]) rfl (HZ.out _ ?_)
          (repeat (with_reducible refine Chg.setCell ?_ (.inl (by simp)) _))
          exact Chg.refl _ _
      · have HOK := hide (show wmOk l n (tbF s) = false by rw [HOKE.out]; simp [tbF, hs])
        have hs2 : (m.sender != s) = true := by simp [hs]
        go_enter Tryz.func51, Tryz.ntmps51
        go_wp2_with (go_at_call 75
                     refine (l03Live_c l _ _ n _ (HP.out.below HA0.out)).mono ?_
                     rintro e w1 ⟨rfl, hb⟩
                     rw [hlive]
                     have HB1 := hide (HA0.out.trans (hb.mono HA0.out.size))
                     have hz1 := hb.size
                     simp only [World.size_alloc] at hz1
                     have b1 := cell_below HB1.out hb1
                     have hbl := (hb.block _ (by simp)).trans (alloc_new w _)
                     have HBL1 := hide hbl
                     have p0 : w1.cell? ⟨w.heap.size, 0, none⟩ = some (.int .i64 0) := by rw [cell_block hbl]; rfl
                     have p1 : w1.cell? ⟨w.heap.size, 1, none⟩ = some (.slice none 0 0) := by rw [cell_block hbl]; rfl
                     have pf : ∀ o, w1.frozen? ⟨w.heap.size, o, none⟩ = false := fun o => frozen_block hbl
                     have HE := HB1
                     obtain ⟨v7, h7, hq, hc0, hc1, hc2, hc3, hc4, hc5, hc6, hc7⟩ := message_at HRB.out HB1.out HX.out
                     clear hb hbl)
        have HZ : Hid (∀ wz, Chg [w.heap.size] w1 wz → RetElem2 logD w (wmL l n (tbF s)) (wmOk l n (tbF s)) (.returned (.tuple #[.agg #[.int .i64 0, .slice none 0 0], .bool false])) wz) := by
          intro wz hch
          rw [wmL_no HOK.out, HOK.out]
          exact ⟨_, [], rfl, noLog_M wz, by simp, by simp, HE.out.trans (hch.below HE.out.size (by simp))⟩
        refine bodyPost_ret (v := .tuple #[.agg #[.int .i64 0, .slice none 0 0], .bool false]) (by simp [results, Tryz.results51, go_sem, p0, p1, pf]) rfl (HZ.out _ ?_)
        (repeat (with_reducible refine Chg.setCell ?_ (.inl (by simp)) _))
        exact Chg.refl _ _
  · have hn2 : idxP (numIs n) l.messages < 0 := by omega
    have HOK := hide (wmOk_none (f := tbF s) hn2)
    have hlive := live_none hn2
    clear hn hra
    go_enter Tryz.func51, Tryz.ntmps51
    go_wp2_with (go_at_call 75
                 refine (l03Live_c l _ _ n _ (HP.out.below HA0.out)).mono ?_
                 rintro e w1 ⟨rfl, hb⟩
                 rw [hlive]
                 have HB1 := hide (HA0.out.trans (hb.mono HA0.out.size))
                 have hz1 := hb.size
                 simp only [World.size_alloc] at hz1
                 have b1 := cell_below HB1.out hb1
                 have hbl := (hb.block _ (by simp)).trans (alloc_new w _)
                 have HBL1 := hide hbl
                 have p0 : w1.cell? ⟨w.heap.size, 0, none⟩ = some (.int .i64 0) := by rw [cell_block hbl]; rfl
                 have p1 : w1.cell? ⟨w.heap.size, 1, none⟩ = some (.slice none 0 0) := by rw [cell_block hbl]; rfl
                 have pf : ∀ o, w1.frozen? ⟨w.heap.size, o, none⟩ = false := fun o => frozen_block hbl
                 have HE := HB1
                 skip
                 clear hb hbl)
    have HZ : Hid (∀ wz, Chg [w.heap.size] w1 wz → RetElem2 logD w (wmL l n (tbF s)) (wmOk l n (tbF s)) (.returned (.tuple #[.agg #[.int .i64 0, .slice none 0 0], .bool false])) wz) := by
      intro wz hch
      rw [wmL_no HOK.out, HOK.out]
      exact ⟨_, [], rfl, noLog_M wz, by simp, by simp, HE.out.trans (hch.below HE.out.size (by simp))⟩
    refine bodyPost_ret (v := .tuple #[.agg #[.int .i64 0, .slice none 0 0], .bool false]) (by simp [results, Tryz.results51, go_sem, p0, p1, pf]) rfl (HZ.out _ ?_)
    (repeat (with_reducible refine Chg.setCell ?_ (.inl (by simp)) _))
    exact Chg.refl _ _
end Go.Proofs.YtodmongmaoeknaaGreat
