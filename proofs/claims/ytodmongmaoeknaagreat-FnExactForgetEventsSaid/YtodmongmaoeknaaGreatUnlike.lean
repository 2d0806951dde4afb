/- A like is taken away: the program and the reference. -/
import Derived.Test.YtodmongmaoeknaaGreatLive
import Derived.Test.YtodmongmaoeknaaGreatDelete
namespace Go.Proofs.YtodmongmaoeknaaGreat
open Go Go.RowKit Go.BigFrame
attribute [local go_sem] Calm.cell Calm.frozen
set_option linter.unusedVariables false
set_option linter.unusedSimpArgs false

theorem rises_of {p : Int → Bool} {l : List Int} (h : risesB p l = true) : Rises l := by
  have hn : ∀ (j : Nat) (x y : Int), l[j]? = some x → l[j + 1]? = some y → x < y := fun j x y hx hy => by
    have := (adjB_iff (riseF p) l none).1 h (j + 1) y hy
    rw [if_neg (by omega), Nat.add_sub_cancel, hx] at this
    simp only [riseF, Bool.and_eq_true, decide_eq_true_eq] at this
    exact this.2
  have hd : ∀ (d s : Nat) (x y : Int), l[s]? = some x → l[s + d + 1]? = some y → x < y := by
    intro d
    induction d with
    | zero => intro s x y hx hy; exact hn s x y hx hy
    | succ d ih =>
      intro s x y hx hy
      have hl := (List.getElem?_eq_some_iff.1 hy).1
      obtain ⟨z, hz⟩ : ∃ z, l[s + d + 1]? = some z := ⟨_, List.getElem?_eq_getElem (by omega)⟩
      exact Int.lt_trans (ih s x z hx hz) (hn (s + d + 1) z y hz hy)
  intro s t x y hst hx hy
  have := hd (t - s - 1) s x y hx (by rw [show s + (t - s - 1) + 1 = t by omega]; exact hy)
  exact this
theorem lb_ex (n : Int) : ∀ l : List Int, Rises l → ∃ i, isLb l n i
  | [], _ => ⟨0, Nat.le_refl _, by intro t y h; omega, by intro t y _ h; simp at h⟩
  | x :: t, h => by
    by_cases hx : x < n
    · obtain ⟨i, h1, h2, h3⟩ := lb_ex n t fun s u a b hsu ha hb => h (s + 1) (u + 1) a b (by omega) (by simpa using ha) (by simpa using hb)
      refine ⟨i + 1, by simp; exact h1, fun u y hu hy => ?_, fun u y hu hy => ?_⟩
      · cases u with
        | zero => simp at hy; omega
        | succ u => exact h2 u y (by omega) (by simpa using hy)
      · cases u with
        | zero => omega
        | succ u => exact h3 u y (by omega) (by simpa using hy)
    · refine ⟨0, Nat.zero_le _, by intro t y h; omega, fun u y _ hy => ?_⟩
      cases u with
      | zero => simp at hy; omega
      | succ u => have := h 0 (u + 1) x y (by omega) rfl hy; omega
noncomputable def lbN (l : List Int) (n : Int) : Nat := open Classical in if h : ∃ i, isLb l n i then h.choose else 0
theorem lbN_is {l : List Int} {n : Int} (h : Rises l) : isLb l n (lbN l n) := by
  have := lb_ex n l h
  unfold lbN; rw [dif_pos this]; exact this.choose_spec
theorem lb_uniq {l : List Int} {n : Int} {i j : Nat} (hi : isLb l n i) (hj : isLb l n j) : i = j := by
  rcases Nat.lt_trichotomy i j with h | h | h
  · have hl := hj.1
    have h1 := hj.2.1 i _ h (List.getElem?_eq_getElem (by omega))
    have h2 := hi.2.2 i _ (Nat.le_refl _) (List.getElem?_eq_getElem (by omega)); omega
  · exact h
  · have hl := hi.1
    have h1 := hi.2.1 j _ h (List.getElem?_eq_getElem (by omega))
    have h2 := hj.2.2 j _ (Nat.le_refl _) (List.getElem?_eq_getElem (by omega)); omega
def dropN (b : Int) (l : List Int) : List Int := l.filter fun x => decide (x ≠ b)
theorem lb_at {l : List Int} {n : Int} (h : Rises l) (hb : hasB l n = true) : l[lbN l n]? = some n := by
  have hi := lbN_is (n := n) h
  obtain ⟨t, ht⟩ := List.getElem?_of_mem (show n ∈ l by simpa [hasB] using hb)
  have hlt := (List.getElem?_eq_some_iff.1 ht).1
  rcases Nat.lt_trichotomy t (lbN l n) with h1 | h1 | h1
  · have := hi.2.1 t n h1 ht; omega
  · rw [← h1]; exact ht
  · have h3 := h (lbN l n) t _ n h1 (List.getElem?_eq_getElem (by omega)) ht
    have h4 := hi.2.2 (lbN l n) _ (Nat.le_refl _) (List.getElem?_eq_getElem (by omega)); omega
theorem erase_lb {l : List Int} {n : Int} (h : Rises l) (hb : hasB l n = true) : l.eraseIdx (lbN l n) = dropN n l := by
  have hi := lbN_is (n := n) h
  have ha := lb_at h hb
  obtain ⟨hk, he⟩ := List.getElem?_eq_some_iff.1 ha
  have hs : l = l.take (lbN l n) ++ n :: l.drop (lbN l n + 1) := by
    conv => lhs; rw [← List.take_append_drop (lbN l n) l, List.drop_eq_getElem_cons hk, he]
  rw [List.eraseIdx_eq_take_drop_succ]
  unfold dropN
  conv => rhs; rw [hs]
  rw [List.filter_append, List.filter_cons_of_neg (by simp), List.filter_eq_self.2 (fun x hx => ?_), List.filter_eq_self.2 (fun x hx => ?_)]
  · obtain ⟨t, ht⟩ := List.getElem?_of_mem hx
    rw [List.getElem?_drop] at ht
    have := h (lbN l n) (lbN l n + 1 + t) n x (by omega) ha ht
    simp; omega
  · obtain ⟨t, ht⟩ := List.getElem?_of_mem hx
    rw [List.getElem?_take] at ht
    split at ht
    · have := hi.2.1 t x ‹_› ht
      simp; omega
    · cases ht
def unF (b : Int) (m : Message) : Message × Bool := if hasB m.likes b then ({ m with likes := dropN b m.likes }, true) else (m, false)
theorem unF_yes {b : Int} {m : Message} (h : hasB m.likes b = true) : unF b m = ({ m with likes := dropN b m.likes }, true) := by simp [unF, h]
theorem unF_no {b : Int} {m : Message} (h : hasB m.likes b = false) : unF b m = (m, false) := by simp [unF, h]
theorem unF_text {b : Int} {m : Message} : (unF b m).1.text = m.text := by unfold unF; split <;> rfl
def unlikeL (l : Log) (n b : Int) : Log := wmL l n (unF b)
def unlikeOk (l : Log) (n b : Int) : Bool := wmOk l n (unF b)
theorem unlike_cnt (l : Log) (n b : Int) : tcntLog (unlikeL l n b) ≤ 1080 := wmL_cnt _ _ _
theorem valid_rises {m : Message} (h : validMessageB m = true) : Rises m.likes := by
  simp only [validMessageB, Bool.and_eq_true] at h
  exact rises_of h.1.1.2
theorem binN_c (v : Value) (l : List Int) (n : Int) (w : World) (h : SliceK intD w v l) (hr : Rises l) (hlen : l.length ≤ 1048576) :
    Calls Tryz.prog 90 #[v, .int .i64 n] w fun e w' => e = .returned (.tuple #[.int .i64 (lbN l n : Nat), .bool (hasB l n)]) ∧ w = w' :=
  (binSearch_c v l n w h hr hlen).mono fun e w' ⟨⟨i, hi, he⟩, hw⟩ => ⟨by rw [he, lb_uniq hi (lbN_is hr)], hw⟩

set_option maxHeartbeats 4000000 in
set_option maxRecDepth 100000 in
theorem unlike1_c (s : Int) (b5 : Nat) (w : World) (h5 : w.cell? ⟨b5, 0, none⟩ = some (.int .i64 s)) : Turns 92 #[.pointer (some ⟨b5, 0, none⟩)] (unF s) w := by
  intro ms k m b cap F W hb hS hF hFge hx hv
  show Calls Tryz.prog 92 #[.pointer (some ⟨b, k * 8, none⟩), .pointer (some ⟨b5, 0, none⟩)] W _
  obtain ⟨cs, G, hE⟩ := hS.elem hF hx
  obtain ⟨v7, F7, rfl, rfl, h7⟩ := message_M hE.M
  obtain ⟨A7, c7, rfl⟩ := h7.toK.shape
  have h5' := cell_below hb h5
  have hl5' := World.block_lt_of_cell? w _ h5
  have hl5 := World.block_lt_of_cell? W _ h5'
  simp only [] at hl5 hl5'
  have hbb := hFge b hE.mem
  have hne : ¬ b5 = b := by omega
  have hne' : ¬ b = b5 := by omega
  have hlb := hE.lt
  have hfz := hE.frozen
  have g0 := hE.cell 0 _ rfl
  have g1 := hE.cell 1 _ rfl
  have g2 := hE.cell 2 _ rfl
  have g3 := hE.cell 3 _ rfl
  have g4 := hE.cell 4 _ rfl
  have g5 := hE.cell 5 _ rfl
  have g6 := hE.cell 6 _ rfl
  have g7 := hE.cell 7 _ rfl
  simp only [show messageD.sz = 8 from rfl, Nat.add_zero] at g0 g1 g2 g3 g4 g5 g6 g7
  have HRI := hide (valid_rises hv)
  have hlk := valid_likes hv
  have HE := hide (And.intro hE (And.intro h7 (And.intro hS (And.intro hF hx))))
  clear hS hF hFge hE h7 h5 hb hx hv
  by_cases hh : hasB m.likes s = true
  · have HHB := hide hh
    have HYES := hide (unF_yes hh)
    have hlbl : lbN m.likes s < m.likes.length := (List.getElem?_eq_some_iff.1 (lb_at HRI.out hh)).1
    have HER := hide (erase_lb HRI.out hh)
    have hwr : IntKind.i64.wrap ((lbN m.likes s : Int) + 1) = (lbN m.likes s : Int) + 1 := IntWalk.i64_in _ (by omega)
    clear hh
    go_enter Tryz.func92, Tryz.ntmps92
    go_wp2_with fail
    (refine wp_region_calm (by kernel_rfl) (by kernel_rfl) ?_; (repeat (first | go_big_quiet_skip | (go_big_quiet_want; go_big_quiet_op; (first | go_big_quiet_on | (apply Exists.intro; refine ⟨fun ic => ?_, ?_⟩; (focus ((go_at_call 90; refine (binN_c _ m.likes _ _ (HE.out.2.1.toK.below ic.below) HRI.out (by omega)).mono ?_; rintro e w2 ⟨rfl, rfl⟩; rw [HHB.out]; exact ⟨rfl, Calm.same _⟩); done)); go_big_quiet_on))))); refine wpQuiet_nil ?_; intro wq hwq; obtain ⟨iq, hwe⟩ := hwq; subst hwe)
    go_wp2_with (
      go_at_call 93
      refine (delete_c _ m.likes G (lbN m.likes s) _ (HE.out.2.1.by iq.below) hlbl).mono ?_
      rintro e w2 ⟨v', rfl, hS2, hc2⟩
      rw [HER.out] at hS2
      obtain ⟨A8, c8, rfl⟩ := hS2.toK.shape
      have hGo := HE.out.1.out
      have q0 := hc2.cell hGo (cell_below iq.below g0)
      have q1 := hc2.cell hGo (cell_below iq.below g1)
      have q2 := hc2.cell hGo (cell_below iq.below g2)
      have q3 := hc2.cell hGo (cell_below iq.below g3)
      have q4 := hc2.cell hGo (cell_below iq.below g4)
      have q5 := hc2.cell hGo (cell_below iq.below g5)
      have q6 := hc2.cell hGo (cell_below iq.below g6)
      have q7 := hc2.cell hGo (cell_below iq.below g7)
      have hw : Wrote b (k * 8) (k * 8 + 8) 82 W w2 := ((Wrote.refl _ _ _ _ W).below iq.below).chg hc2 hGo
      have qf : ∀ o, w2.frozen? ⟨b, o, none⟩ = false := fun o => (World.frozen?_of_block (a := ⟨b, o, none⟩) ((hc2.block b (Nat.lt_of_lt_of_le hlb iq.below.size) hGo).trans (iq.below.block b hlb))).trans (hfz o)
      have HS2 := hide (And.intro hS2 (And.intro hc2 hw))
      clear hS2 hc2 hw)
    go_ret
    rw [HYES.out]
    refine ⟨rfl, ?_⟩
    obtain ⟨hE, h7, hS, hF, hx⟩ := HE.out
    obtain ⟨hS2, hc2, hw⟩ := HS2.out
    have hGo := hE.out
    refine hE.turn (w2.setCell ⟨b, k * 8 + 7, none⟩ (.slice A8 (dropN s m.likes).length c8)) [.int .i64 m.number, .int .i64 m.sender, .int .i64 m.at_, .string m.text, .int .i64 m.edits, .bool m.gone,   .int .i64 m.reply, .slice A8 (dropN s m.likes).length c8] { m with likes := dropN s m.likes } G
      (hw.set (k * 8 + 7) _ (by omega) (by omega))
      (Chg.setCell (p := ⟨b, k * 8 + 7, none⟩) (((Chg.refl (b :: G) W).trans (.of_below iq.below _)).trans (hc2.mono fun y hy => .inl (List.mem_cons_of_mem _ hy))) (.inl List.mem_cons_self) _)
      (message_M_mk (x := { m with likes := dropN s m.likes }) (hS2.move fun y hy => Below.heap_setCell _ _ _ y (fun e => hGo (by have h : y = b := e; exact h ▸ hy))))
      (eight (P := fun i u => (w2.setCell ⟨b, k * 8 + 7, none⟩ (.slice A8 (dropN s m.likes).length c8)).cell? ⟨b, k * 8 + i, none⟩ = some u) (by go_simp) (by go_simp) (by go_simp) (by go_simp) (by go_simp) (by go_simp) (by go_simp) (by go_simp))
      hE.nodup (fun y hy => .inl hy)
  · have hh' : hasB m.likes s = false := by simpa using hh
    have HHB := hide hh'
    have HNO := hide (unF_no hh')
    clear hh hh'
    go_enter Tryz.func92, Tryz.ntmps92
    go_wp2_with fail
    (refine wp_region_calm (by kernel_rfl) (by kernel_rfl) ?_; (repeat (first | go_big_quiet_skip | (go_big_quiet_want; go_big_quiet_op; (first | go_big_quiet_on | (apply Exists.intro; refine ⟨fun ic => ?_, ?_⟩; (focus ((go_at_call 90; refine (binN_c _ m.likes _ _ (HE.out.2.1.toK.below ic.below) HRI.out (by omega)).mono ?_; rintro e w2 ⟨rfl, rfl⟩; rw [HHB.out]; exact ⟨rfl, Calm.same _⟩); done)); go_big_quiet_on))))); refine wpQuiet_nil ?_; intro wq hwq; obtain ⟨iq, hwe⟩ := hwq; subst hwe)
    go_wp2_with fail
    go_ret
    rw [HNO.out]
    refine ⟨rfl, ?_⟩
    obtain ⟨hE, h7, hS, hF, hx⟩ := HE.out
    rw [set_same hx]
    exact ⟨F, hS.by iq.below, hF, fun y hy => .inl hy, .of_below iq.below _⟩
end Go.Proofs.YtodmongmaoeknaaGreat
