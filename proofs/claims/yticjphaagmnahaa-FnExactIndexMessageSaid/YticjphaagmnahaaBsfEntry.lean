/- Binary search in a row of structs that rise by a text. -/
import Derived.Test.YticjphaagmnahaaStrCmp
import Derived.Test.YticjphaagmnahaaRGround
import Derived.Test.YticjphaagmnahaaRTypes
import Derived.Shelf.Abstract
namespace Go.Proofs.Yticjphaagmnahaa
open Go Go.RowKit Go.BigFrame
set_option linter.unusedVariables false
set_option linter.unusedSimpArgs false

/-- Where a text stands or would stand. -/
def isLbT {α : Type} (key : α → ByteArray) (xs : List α) (t : ByteArray) (i : Nat) : Prop := i ≤ xs.length ∧ (∀ (s : Nat) (y : α), s < i → xs[s]? = some y → txLt (key y) t = true) ∧ (∀ (s : Nat) (y : α), i ≤ s → xs[s]? = some y → txLt (key y) t = false)
def RisesT {α : Type} (key : α → ByteArray) (xs : List α) : Prop := ∀ (s t : Nat) (x y : α), s < t → xs[s]? = some x → xs[t]? = some y → txLt (key x) (key y) = true
def hasT {α : Type} (key : α → ByteArray) (xs : List α) (t : ByteArray) : Bool := xs.any fun x => decide (key x = t)
theorem hasT_yes {α : Type} {key : α → ByteArray} {xs : List α} {t : ByteArray} {i : Nat} {x : α} (hx : xs[i]? = some x) (h : key x = t) : hasT key xs t = true := by
  unfold hasT; rw [List.any_eq_true]; exact ⟨x, List.mem_of_getElem? hx, by simp [h]⟩
theorem hasT_no {α : Type} {key : α → ByteArray} {xs : List α} {t : ByteArray} (h : ∀ (s : Nat) (y : α), xs[s]? = some y → key y ≠ t) : hasT key xs t = false := by
  unfold hasT; rw [List.any_eq_false]; intro x hx
  obtain ⟨j, hj⟩ := List.getElem?_of_mem hx
  simpa using h j x hj
theorem lb_le {a b t : ByteArray} (h : txLt a b = true) (h2 : txLt a t = false) : txLt b t = false := by
  rw [Bool.eq_false_iff]; intro h3
  have := txLt_trans h h3
  rw [h2] at this; cases this
/-- Behind its place a text does not stand. -/
theorem isLbT.none {α : Type} {key : α → ByteArray} {xs : List α} {t : ByteArray} {i : Nat} (hr : RisesT key xs) (h : isLbT key xs t i) (hx : ∀ x, xs[i]? = some x → key x ≠ t) : hasT key xs t = false := by
  refine hasT_no fun s y hy e => ?_
  rcases Nat.lt_trichotomy s i with h1 | h1 | h1
  · have := h.2.1 s y h1 hy
    rw [e, txLt_irrefl] at this; cases this
  · subst h1; exact hx y hy e
  · have hl := (List.getElem?_eq_some_iff.1 hy).1
    obtain ⟨x, hxi⟩ : ∃ x, xs[i]? = some x := ⟨_, List.getElem?_eq_getElem (by omega)⟩
    have h2 := hr i s x y h1 hxi hy
    rw [e] at h2
    have h3 := h.2.2 i x (Nat.le_refl _) hxi
    rw [h2] at h3; cases h3
set_option maxHeartbeats 4000000 in
theorem bsfEntry_c (g : Nat) (v : Value) (l : List Entry) (t : ByteArray) (w : World) (h : SliceK entryD w v l) (hr : RisesT Entry.word l) (hlen : l.length ≤ 1048576)
    (eg : ∀ args w, (callFunc g args).run Try.prog w = .ok (.enter g args) w)
    (hc : ∀ (m : Entry) (u1 : Value) (W : World), Below w.heap.size w W → m ∈ l → Calls Try.prog g #[.agg #[.string m.word, u1], .string t] W fun e W' => e = .returned (.int .i64 (cmpT m.word t)) ∧ Below W.heap.size W W') :
    Calls Try.prog 147 #[v, .string t, .func (.func g) #[] #[]] w fun e w' => (∃ i : Nat, isLbT Entry.word l t i ∧ e = .returned (.tuple #[.int .i64 i, .bool (hasT Entry.word l t)])) ∧ Below w.heap.size w w' := by
  obtain ⟨A, c, rfl, hl, hm, hra⟩ := h
  have HA := hide hra
  have HR := hide hr
  have HC := hide hc
  clear hra hr hc
  go_enter Try.func147, Try.ntmps147
  go_wp2_with fail
  go_loopg [9, 10] l.length (fun gg s7 s8 wr => ∃ i j : Nat, i ≤ j ∧ j ≤ l.length ∧ j - i ≤ gg ∧ s7 = .int .i64 i ∧ s8 = .int .i64 j ∧ Hid (∀ (s : Nat) (y : Entry), s < i → l[s]? = some y → txLt y.word t = true) ∧ Hid (∀ (s : Nat) (y : Entry), j ≤ s → l[s]? = some y → txLt y.word t = false) ∧ Hid (Below w.heap.size w wr))
  case atStart => exact ⟨0, l.length, Nat.zero_le _, Nat.le_refl _, by omega, rfl, rfl, hide (by intro t y ht; omega), hide (by intro t y ht hy; have := (List.getElem?_eq_some_iff.1 hy).1; omega), Below.refl _ _⟩
  case round =>
    obtain ⟨i, j, hij, hj, hg, rfl, rfl, HL, HU, HB⟩ := hrel
    by_cases hlt : i < j
    · have hlt2 : (i : Int) < (j : Int) := by omega
      obtain ⟨k, hk⟩ : ∃ k : Nat, k = (i + j) / 2 := ⟨_, rfl⟩
      have hki : i ≤ k := by omega
      have hkj : k < j := by omega
      obtain ⟨m, hx⟩ : ∃ x, l[k]? = some x := ⟨_, List.getElem?_eq_getElem (by omega)⟩
      rcases HA.out with hnil | ⟨q, o2, rfl, hra⟩
      · rw [hnil] at hj; simp at hj; omega
      obtain ⟨u1, h1, hq, hc0, hc1⟩ := entry_at hra HB.out hx
      have hw1 : IntKind.i64.wrap ((i : Int) + (j : Int)) = (i : Int) + (j : Int) := IntWalk.i64_in _ (by omega)
      have hkl : (k : Int) < (l.length : Int) := by omega
      have HX := hide hx
      subst hk
      have hw2 : IntKind.i64.wrap (((i : Int) + (j : Int)) / 2 + 1) = ((i : Int) + (j : Int)) / 2 + 1 := IntWalk.i64_in _ (by omega)
      clear hra HA hx h1
      by_cases hxn : txLt m.word t = true
      · have HXN := hide hxn
        have hd : decide (cmpT m.word t < 0) = true := decide_eq_true ((cmpT_neg _ _).2 hxn)
        clear hxn
        go_wp2_with (go_at_fn g
                     refine (HC.out m _ _ HB.out (List.mem_of_getElem? HX.out)).mono ?_
                     rintro e w1 ⟨rfl, hb⟩
                     have HB1 := hide (HB.out.trans (hb.mono HB.out.size))
                     clear hb)
        go_roundg (j - ((i + j) / 2 + 1))
        case measure => omega
        case rel =>
          refine ⟨(i + j) / 2 + 1, j, by omega, hj, by omega, by go_num, rfl, hide (fun s y hs hy => ?_), HU, HB1⟩
          by_cases e : s = (i + j) / 2
          · subst e; rw [HX.out] at hy; cases hy; exact HXN.out
          · exact txLt_trans (HR.out s ((i + j) / 2) y m (by omega) hy HX.out) HXN.out
      · have HXN := hide (show txLt m.word t = false by simpa using hxn)
        have hd : decide (cmpT m.word t < 0) = false := decide_eq_false (fun h => hxn ((cmpT_neg _ _).1 h))
        clear hxn
        go_wp2_with (go_at_fn g
                     refine (HC.out m _ _ HB.out (List.mem_of_getElem? HX.out)).mono ?_
                     rintro e w1 ⟨rfl, hb⟩
                     have HB1 := hide (HB.out.trans (hb.mono HB.out.size))
                     clear hb)
        go_roundg ((i + j) / 2 - i)
        case measure => omega
        case rel =>
          refine ⟨i, (i + j) / 2, by omega, by omega, by omega, rfl, by go_num, HL, hide (fun s y hs hy => ?_), HB1⟩
          by_cases e : s = (i + j) / 2
          · subst e; rw [HX.out] at hy; cases hy; exact HXN.out
          · exact lb_le (HR.out ((i + j) / 2) s m y (by omega) HX.out hy) HXN.out
    · have : i = j := by omega
      subst this
      have HLB := hide (show isLbT Entry.word l t i from ⟨hj, HL.out, HU.out⟩)
      by_cases hil : i < l.length
      · obtain ⟨m, hx⟩ : ∃ x, l[i]? = some x := ⟨_, List.getElem?_eq_getElem hil⟩
        rcases HA.out with hnil | ⟨q, o2, rfl, hra⟩
        · rw [hnil] at hil; simp at hil
        obtain ⟨u1, h1, hq, hc0, hc1⟩ := entry_at hra HB.out hx
        have hil2 : (i : Int) < (l.length : Int) := by omega
        have HX := hide hx
        clear hra HA hx hlt h1
        by_cases hxn : m.word = t
        · have HH := hide (hasT_yes (key := Entry.word) HX.out hxn)
          have hd : (cmpT m.word t == 0) = true := by rw [beq_iff_eq]; exact (cmpT_zero _ _).2 hxn
          have hd2 : decide (cmpT m.word t = 0) = true := decide_eq_true ((cmpT_zero _ _).2 hxn)
          clear hxn
          go_wp2_with (go_at_fn g
                       refine (HC.out m _ _ HB.out (List.mem_of_getElem? HX.out)).mono ?_
                       rintro e w1 ⟨rfl, hb⟩
                       have HB1 := hide (HB.out.trans (hb.mono HB.out.size))
                       clear hb)
          go_ret2
          exact ⟨⟨i, HLB.out, by rw [HH.out]; rfl⟩, HB1.out⟩
        · have HH := hide (HLB.out.none HR.out (fun x h => by rw [HX.out] at h; cases h; exact hxn))
          have hd : (cmpT m.word t == 0) = false := by rw [beq_eq_false_iff_ne]; exact fun h => hxn ((cmpT_zero _ _).1 h)
          have hd2 : decide (cmpT m.word t = 0) = false := decide_eq_false (fun h => hxn ((cmpT_zero _ _).1 h))
          clear hxn
          go_wp2_with (go_at_fn g
                       refine (HC.out m _ _ HB.out (List.mem_of_getElem? HX.out)).mono ?_
                       rintro e w1 ⟨rfl, hb⟩
                       have HB1 := hide (HB.out.trans (hb.mono HB.out.size))
                       clear hb)
          go_ret2
          exact ⟨⟨i, HLB.out, by rw [HH.out]; rfl⟩, HB1.out⟩
      · have hil2 : ¬ (i : Int) < (l.length : Int) := by omega
        have HH := hide (HLB.out.none HR.out (fun x h => by have := (List.getElem?_eq_some_iff.1 h).1; omega))
        clear HA hlt
        go_wp2_with fail
        go_ret2
        exact ⟨⟨i, HLB.out, by rw [HH.out]; rfl⟩, HB.out⟩
end Go.Proofs.Yticjphaagmnahaa
