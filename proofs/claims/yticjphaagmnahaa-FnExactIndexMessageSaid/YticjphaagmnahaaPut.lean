/- A number is put into a rising row: the reference. -/
import Derived.Test.YticjphaagmnahaaRGround
namespace Go.Proofs.Yticjphaagmnahaa
open Go Go.RowKit
set_option linter.unusedVariables false
set_option linter.unusedSimpArgs false

def putStep (n : Int) (s : List Int × Bool) (x : Int) : List Int × Bool := ((if s.2 = false ∧ n < x then s.1 ++ [n] else s.1) ++ [x], s.2 || decide (n ≤ x))
def putS (n : Int) (l : List Int) : List Int × Bool := l.foldl (putStep n) ([], false)
/-- A rising row with one number more. -/
def putN (n : Int) (l : List Int) : List Int := if (putS n l).2 then (putS n l).1 else (putS n l).1 ++ [n]
theorem putS_step {n : Int} {l : List Int} {k : Nat} {x : Int} (hx : l[k]? = some x) : putS n (l.take (k + 1)) = putStep n (putS n (l.take k)) x := by
  obtain ⟨hk, rfl⟩ := List.getElem?_eq_some_iff.1 hx
  rw [List.take_succ_eq_append_getElem hk]; unfold putS
  rw [List.foldl_append]; rfl
theorem putS_len (n : Int) : ∀ l : List Int, (putS n l).1.length ≤ 2 * l.length := by
  have h : ∀ (l : List Int) (s : List Int × Bool), (l.foldl (putStep n) s).1.length ≤ s.1.length + 2 * l.length := by
    intro l
    induction l with
    | nil => intro s; simp
    | cons x t ih =>
      intro s
      have h1 := ih (putStep n s x)
      have h2 : (putStep n s x).1.length ≤ s.1.length + 2 := by unfold putStep; split <;> simp
      rw [List.foldl_cons, List.length_cons]; omega
  intro l
  have := h l ([], false)
  unfold putS; simpa using this
set_option maxHeartbeats 4000000 in
theorem l00Put_c (v : Value) (l : List Int) (n : Int) (w : World) (h : SliceK intD w v l) (hlen : l.length ≤ 400000) :
    Calls Try.prog 84 #[v, .int .i64 n] w (RetMade intD 2 w (putN n l)) := by
  obtain ⟨A, c, rfl, hl, hm, hra⟩ := h
  have HA := hide hra
  clear hra
  go_enter Try.func84, Try.ntmps84
  go_wp2_with fail
  go_loopg [5, 6, 7] l.length (fun gg s5 s6 s7 wr => ∃ k : Nat, k ≤ l.length ∧ l.length - k ≤ gg ∧ s7 = .int .i64 k ∧ s6 = .bool (putS n (l.take k)).2 ∧ Hid (Made intD 2 w wr s5 (putS n (l.take k)).1) ∧ Hid (Below w.heap.size w wr))
  case atStart => exact ⟨0, Nat.zero_le _, by omega, rfl, rfl, hide ⟨_, emptyM _, by simp, by simp⟩, (Below.refl _ _).alloc (Nat.le_refl _) _⟩
  case round =>
    obtain ⟨k, hk, hg, rfl, rfl, HM, HB⟩ := hrel
    obtain ⟨F, hM, hF, hFB⟩ := HM.out
    obtain ⟨A5, c5, rfl⟩ := hM.toK.shape
    have hpb := putS_len n (l.take k)
    have hpl : (putS n (l.take k)).1.length < 1048576 := by simp at hpb; omega
    have hpl3 : (putS n (l.take k)).1.length ≤ 800000 := by simp at hpb; omega
    have HM2 := hide (And.intro hM (And.intro hF hFB))
    clear hM hF hFB HM hpb
    by_cases hlt : k < l.length
    · obtain ⟨x, hx⟩ : ∃ x, l[k]? = some x := ⟨_, List.getElem?_eq_getElem hlt⟩
      rcases HA.out with hnil | ⟨q, o2, rfl, hra⟩
      · rw [hnil] at hlt; simp at hlt
      obtain ⟨hq, hc⟩ := int_at hra HB.out hx
      have hq0 := (int_at hra (Below.refl _ _) hx).1
      have hlt2 : (k : Int) < (l.length : Int) := by omega
      have HS := hide (putS_step (n := n) hx)
      clear hra HA hx
      cases hp : (putS n (l.take k)).2 with
      | true =>
        have HE := hide (show putS n (l.take (k + 1)) = ((putS n (l.take k)).1 ++ [x], true) by rw [HS.out, putStep, hp]; simp)
        go_wp2_with (at_builtin
                     obtain ⟨hM, hF, hFB⟩ := HM2.out
                     refine wpList_app_int _ rfl _ _ _ rfl Try.underlying28 infoInt _ _ F rfl (hM.move fun b hb => ((Below.refl wr.heap.size wr).alloc (Nat.le_refl _) _).block b (hM.lt b hb)) hF _ _ x rfl (by simp) hpl ?_
                     intro g2 cap2 w2 F2 hap
                     have hge : ∀ y ∈ F2, w.heap.size ≤ y := fun y hy => (by rcases hap.from_ y hy with h | h | h; exact hFB y h; simp at h; have hzz := HB.out.size; rw [h]; simp; omega)
                     have HB2 := hide ((HB.out.trans (((Below.refl wr.heap.size wr).alloc (Nat.le_refl _) _).mono HB.out.size)).trans (hap.chg.below (by have := HB.out.size; simp; omega) hFB))
                     have HMA := hide (And.intro hap.m (And.intro hap.nodup hge))
                     have hlw2 := hap.chg.size
                     simp only [World.size_alloc] at hlw2
                     skip
                     clear hap hM hF hFB hge)
        go_roundg (l.length - (k + 1))
        case measure => omega
        case rel => exact ⟨k + 1, by omega, by omega, by go_num, by rw [HE.out], by rw [HE.out]; exact hide ⟨F2, by have h := HMA.out.1; simpa using h, HMA.out.2⟩, HB2⟩
      | false =>
        by_cases h1 : n ≤ x
        · by_cases h2 : n < x
          · have HE := hide (show putS n (l.take (k + 1)) = (((putS n (l.take k)).1 ++ [n]) ++ [x], true) by rw [HS.out, putStep, hp]; simp [h1, h2])
            go_wp2_with (first
              | (at_builtin
                 obtain ⟨hM, hF, hFB⟩ := HMA.out
                 refine wpList_app_int _ rfl _ _ _ rfl Try.underlying28 infoInt _ _ F2 rfl (hM.move fun b hb => ((Below.refl w2.heap.size w2).alloc (Nat.le_refl _) _).block b (hM.lt b hb)) hF _ _ x rfl (by simp) (by simp only [List.length_append, List.length_singleton]; omega) ?_
                 intro g3 cap3 w3 F3 hap
                 have hge : ∀ y ∈ F3, w.heap.size ≤ y := fun y hy => (by rcases hap.from_ y hy with h | h | h; exact hFB y h; simp at h; have hzz := HB2.out.size; rw [h]; simp; omega)
                 have HB3 := hide ((HB2.out.trans (((Below.refl w2.heap.size w2).alloc (Nat.le_refl _) _).mono HB2.out.size)).trans (hap.chg.below (by have := HB2.out.size; simp; omega) hFB))
                 have HMB := hide (And.intro hap.m (And.intro hap.nodup hge))
                 clear hap hM hF hFB hge)
              | (at_builtin
                 obtain ⟨hM, hF, hFB⟩ := HM2.out
                 refine wpList_app_int _ rfl _ _ _ rfl Try.underlying28 infoInt _ _ F rfl (hM.move fun b hb => ((Below.refl wr.heap.size wr).alloc (Nat.le_refl _) _).block b (hM.lt b hb)) hF _ _ n rfl (by simp) hpl ?_
                 intro g2 cap2 w2 F2 hap
                 have hge : ∀ y ∈ F2, w.heap.size ≤ y := fun y hy => (by rcases hap.from_ y hy with h | h | h; exact hFB y h; simp at h; have hzz := HB.out.size; rw [h]; simp; omega)
                 have HB2 := hide ((HB.out.trans (((Below.refl wr.heap.size wr).alloc (Nat.le_refl _) _).mono HB.out.size)).trans (hap.chg.below (by have := HB.out.size; simp; omega) hFB))
                 have HMA := hide (And.intro hap.m (And.intro hap.nodup hge))
                 have hlw2 := hap.chg.size
                 simp only [World.size_alloc] at hlw2
                 have hc2 := (((Chg.refl F wr).alloc _).trans hap.chg).cell (fun h => by have h1 := hFB q h; omega) hc
                 clear hap hM hF hFB hge))
            go_roundg (l.length - (k + 1))
            case measure => omega
            case rel => exact ⟨k + 1, by omega, by omega, by go_num, by rw [HE.out], by rw [HE.out]; exact hide ⟨F3, by have h := HMB.out.1; simpa using h, HMB.out.2⟩, HB3⟩
          · have HE := hide (show putS n (l.take (k + 1)) = ((putS n (l.take k)).1 ++ [x], true) by rw [HS.out, putStep, hp]; simp [h1, h2])
            go_wp2_with (at_builtin
                         obtain ⟨hM, hF, hFB⟩ := HM2.out
                         refine wpList_app_int _ rfl _ _ _ rfl Try.underlying28 infoInt _ _ F rfl (hM.move fun b hb => ((Below.refl wr.heap.size wr).alloc (Nat.le_refl _) _).block b (hM.lt b hb)) hF _ _ x rfl (by simp) hpl ?_
                         intro g2 cap2 w2 F2 hap
                         have hge : ∀ y ∈ F2, w.heap.size ≤ y := fun y hy => (by rcases hap.from_ y hy with h | h | h; exact hFB y h; simp at h; have hzz := HB.out.size; rw [h]; simp; omega)
                         have HB2 := hide ((HB.out.trans (((Below.refl wr.heap.size wr).alloc (Nat.le_refl _) _).mono HB.out.size)).trans (hap.chg.below (by have := HB.out.size; simp; omega) hFB))
                         have HMA := hide (And.intro hap.m (And.intro hap.nodup hge))
                         have hlw2 := hap.chg.size
                         simp only [World.size_alloc] at hlw2
                         skip
                         clear hap hM hF hFB hge)
            go_roundg (l.length - (k + 1))
            case measure => omega
            case rel => exact ⟨k + 1, by omega, by omega, by go_num, by rw [HE.out], by rw [HE.out]; exact hide ⟨F2, by have h := HMA.out.1; simpa using h, HMA.out.2⟩, HB2⟩
        · have h2 : ¬ n < x := by omega
          have HE := hide (show putS n (l.take (k + 1)) = ((putS n (l.take k)).1 ++ [x], false) by rw [HS.out, putStep, hp]; simp [h1, h2])
          clear h2
          go_wp2_with (at_builtin
                       obtain ⟨hM, hF, hFB⟩ := HM2.out
                       refine wpList_app_int _ rfl _ _ _ rfl Try.underlying28 infoInt _ _ F rfl (hM.move fun b hb => ((Below.refl wr.heap.size wr).alloc (Nat.le_refl _) _).block b (hM.lt b hb)) hF _ _ x rfl (by simp) hpl ?_
                       intro g2 cap2 w2 F2 hap
                       have hge : ∀ y ∈ F2, w.heap.size ≤ y := fun y hy => (by rcases hap.from_ y hy with h | h | h; exact hFB y h; simp at h; have hzz := HB.out.size; rw [h]; simp; omega)
                       have HB2 := hide ((HB.out.trans (((Below.refl wr.heap.size wr).alloc (Nat.le_refl _) _).mono HB.out.size)).trans (hap.chg.below (by have := HB.out.size; simp; omega) hFB))
                       have HMA := hide (And.intro hap.m (And.intro hap.nodup hge))
                       have hlw2 := hap.chg.size
                       simp only [World.size_alloc] at hlw2
                       skip
                       clear hap hM hF hFB hge)
          go_roundg (l.length - (k + 1))
          case measure => omega
          case rel => exact ⟨k + 1, by omega, by omega, by go_num, by rw [HE.out], by rw [HE.out]; exact hide ⟨F2, by have h := HMA.out.1; simpa using h, HMA.out.2⟩, HB2⟩
    · have : k = l.length := by omega
      subst this
      rw [List.take_length] at *
      clear HA
      cases hp : (putS n l).2 with
      | true =>
        have HR := hide (show putN n l = (putS n l).1 by unfold putN; rw [if_pos hp])
        go_wp2_with fail
        go_ret
        rw [HR.out]
        exact ⟨_, rfl, ⟨F, HM2.out⟩, HB.out⟩
      | false =>
        have HR := hide (show putN n l = (putS n l).1 ++ [n] by unfold putN; rw [if_neg (by simp [hp])])
        go_wp2_with (at_builtin
                     obtain ⟨hM, hF, hFB⟩ := HM2.out
                     refine wpList_app_int _ rfl _ _ _ rfl Try.underlying28 infoInt _ _ F rfl (hM.move fun b hb => ((Below.refl wr.heap.size wr).alloc (Nat.le_refl _) _).block b (hM.lt b hb)) hF _ _ n rfl (by simp) hpl ?_
                     intro g2 cap2 w2 F2 hap
                     have hge : ∀ y ∈ F2, w.heap.size ≤ y := fun y hy => (by rcases hap.from_ y hy with h | h | h; exact hFB y h; simp at h; have hzz := HB.out.size; rw [h]; simp; omega)
                     have HB2 := hide ((HB.out.trans (((Below.refl wr.heap.size wr).alloc (Nat.le_refl _) _).mono HB.out.size)).trans (hap.chg.below (by have := HB.out.size; simp; omega) hFB))
                     have HMA := hide (And.intro hap.m (And.intro hap.nodup hge))
                     have hlw2 := hap.chg.size
                     simp only [World.size_alloc] at hlw2
                     skip
                     clear hap hM hF hFB hge)
        go_ret
        rw [HR.out]
        exact ⟨_, rfl, ⟨F2, by have h := HMA.out.1; simpa using h, HMA.out.2⟩, HB2.out⟩
end Go.Proofs.Yticjphaagmnahaa
