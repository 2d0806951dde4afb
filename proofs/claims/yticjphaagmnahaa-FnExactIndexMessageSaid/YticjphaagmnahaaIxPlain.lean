/- A number is put into the entries of words, in plain lists. -/
import Derived.Test.YticjphaagmnahaaIxAt
import Derived.Test.YticjphaagmnahaaPut
import Derived.Test.YticjphaagmnahaaInsert
import Derived.Test.YticjphaagmnahaaWordsSpec
namespace Go.Proofs.Yticjphaagmnahaa
open Go Go.RowKit
set_option linter.unusedVariables false
set_option linter.unusedSimpArgs false

/-- One entry of the reference's walk. -/
def ipStep (t : ByteArray) (n : Int) (s : List Entry × Bool) (e : Entry) : List Entry × Bool :=
  ((if s.2 = false ∧ txLt t e.word = true then s.1 ++ [⟨t, [n]⟩] else s.1) ++ [if entIs t e = true then ⟨e.word, putN n e.numbers⟩ else e], s.2 || txLt t e.word || entIs t e)
def ipS (t : ByteArray) (n : Int) (es : List Entry) : List Entry × Bool := es.foldl (ipStep t n) ([], false)
/-- The entries with a number in that of a word: the reference. -/
def putW (t : ByteArray) (n : Int) (es : List Entry) : List Entry := if (ipS t n es).2 then (ipS t n es).1 else (ipS t n es).1 ++ [⟨t, [n]⟩]
def putWs (n : Int) (ws : List ByteArray) (es : List Entry) : List Entry := ws.foldl (fun es t => putW t n es) es
theorem ipS_step {t : ByteArray} {n : Int} {es : List Entry} {k : Nat} {e : Entry} (h : es[k]? = some e) : ipS t n (es.take (k + 1)) = ipStep t n (ipS t n (es.take k)) e := by
  obtain ⟨hk, rfl⟩ := List.getElem?_eq_some_iff.1 h
  rw [List.take_succ_eq_append_getElem hk]; unfold ipS
  rw [List.foldl_append]; rfl
theorem putWs_step {n : Int} {ws : List ByteArray} {es : List Entry} {k : Nat} {t : ByteArray} (h : ws[k]? = some t) : putWs n (ws.take (k + 1)) es = putW t n (putWs n (ws.take k) es) := by
  obtain ⟨hk, rfl⟩ := List.getElem?_eq_some_iff.1 h
  rw [List.take_succ_eq_append_getElem hk]; unfold putWs
  rw [List.foldl_append]; rfl
theorem ipS_len (t : ByteArray) (n : Int) (es : List Entry) : (ipS t n es).1.length ≤ es.length + (if (ipS t n es).2 then 1 else 0) := by
  have h : ∀ (l : List Entry) (s : List Entry × Bool), (l.foldl (ipStep t n) s).1.length + (if s.2 then 1 else 0) ≤ s.1.length + l.length + (if (l.foldl (ipStep t n) s).2 then 1 else 0) := by
    intro l
    induction l with
    | nil => intro s; exact Nat.le_refl _
    | cons x l ih =>
      intro s
      have h1 := ih (ipStep t n s x)
      rw [List.foldl_cons, List.length_cons]
      have h2 : (ipStep t n s x).1.length + (if s.2 then 1 else 0) ≤ s.1.length + 1 + (if (ipStep t n s x).2 then 1 else 0) := by
        obtain ⟨a, b⟩ := s
        unfold ipStep
        cases b <;> cases h5 : txLt t x.word <;> cases h6 : entIs t x <;> simp [h5, h6]
      omega
  have := h es ([], false)
  unfold ipS
  simpa using this
theorem putW_len (t : ByteArray) (n : Int) (es : List Entry) : (putW t n es).length ≤ es.length + 1 := by
  have h := ipS_len t n es
  unfold putW
  cases h2 : (ipS t n es).2 <;> rw [h2] at h <;> simp at h ⊢ <;> omega

/-! ### Rows that rise -/
theorem risesT_pw {xs : List Entry} : RisesT Entry.word xs ↔ (xs.map Entry.word).Pairwise fun x y => txLt x y = true := by
  rw [List.pairwise_map, List.pairwise_iff_getElem]
  constructor
  · intro h i j hi hj hij
    exact h i j _ _ hij (List.getElem?_eq_getElem hi) (List.getElem?_eq_getElem hj)
  · intro h s t x y hst hx hy
    obtain ⟨h1, rfl⟩ := List.getElem?_eq_some_iff.1 hx
    obtain ⟨h2, rfl⟩ := List.getElem?_eq_some_iff.1 hy
    exact h s t h1 h2 hst
theorem rises_pw {xs : List Int} : Rises xs ↔ xs.Pairwise fun x y => x < y := by
  rw [List.pairwise_iff_getElem]
  constructor
  · intro h i j hi hj hij
    exact h i j _ _ hij (List.getElem?_eq_getElem hi) (List.getElem?_eq_getElem hj)
  · intro h s t x y hst hx hy
    obtain ⟨h1, rfl⟩ := List.getElem?_eq_some_iff.1 hx
    obtain ⟨h2, rfl⟩ := List.getElem?_eq_some_iff.1 hy
    exact h s t h1 h2 hst
theorem mem_take_at {α : Type} {l : List α} {i : Nat} {x : α} (h : x ∈ l.take i) : ∃ s, s < i ∧ l[s]? = some x := by
  obtain ⟨s, hs⟩ := List.getElem?_of_mem h
  rw [List.getElem?_take] at hs
  split at hs
  · exact ⟨s, ‹_›, hs⟩
  · cases hs
theorem mem_drop_at {α : Type} {l : List α} {i : Nat} {x : α} (h : x ∈ l.drop i) : ∃ s, i ≤ s ∧ l[s]? = some x := by
  obtain ⟨s, hs⟩ := List.getElem?_of_mem h
  rw [List.getElem?_drop] at hs
  exact ⟨i + s, by omega, hs⟩

/-! ### A number in a rising row -/
theorem putS_low {n : Int} : ∀ (a s : List Int), (∀ x ∈ a, x < n) → a.foldl (putStep n) (s, false) = (s ++ a, false)
  | [], s, _ => by simp
  | x :: t, s, h => by
    have h1 : ¬ n < x := by have := h x List.mem_cons_self; omega
    have h2 : ¬ n ≤ x := by have := h x List.mem_cons_self; omega
    rw [List.foldl_cons, show putStep n (s, false) x = (s ++ [x], false) by simp [putStep, h1, h2], putS_low t (s ++ [x]) fun y hy => h y (List.mem_cons_of_mem _ hy)]
    simp
theorem putS_high {n : Int} : ∀ (a s : List Int), a.foldl (putStep n) (s, true) = (s ++ a, true)
  | [], s => by simp
  | x :: t, s => by
    rw [List.foldl_cons, show putStep n (s, true) x = (s ++ [x], true) by simp [putStep], putS_high t (s ++ [x])]
    simp
theorem putN_lb {l : List Int} {n : Int} {i : Nat} (hr : Rises l) (hi : isLb l n i) : putN n l = if hasB l n = true then l else insN l i n := by
  have hlo : ∀ x ∈ l.take i, x < n := fun x hx => by
    obtain ⟨t, ht, hx⟩ := mem_take_at hx
    exact hi.2.1 t x ht hx
  have hp : putS n l = (l.drop i).foldl (putStep n) (l.take i, false) := by
    conv => lhs; rw [← List.take_append_drop i l]
    unfold putS
    rw [List.foldl_append, putS_low _ _ hlo]; simp
  unfold putN insN
  rw [hp]
  rcases hdr : l.drop i with _ | ⟨y, t⟩
  · have hl : l.take i = l := by have := List.take_append_drop i l; rw [hdr] at this; simpa using this
    have hnm : hasB l n = false := by
      unfold hasB; rw [decide_eq_false_iff_not]; intro hm
      rw [← hl] at hm
      have := hlo n hm; omega
    rw [hnm]; simp
  · have hy : l[i]? = some y := by
      have := List.getElem?_drop (xs := l) (i := i) (j := 0)
      rw [hdr] at this; simpa using this.symm
    have h1 : n ≤ y := hi.2.2 _ y (Nat.le_refl _) hy
    have hl : l.take i ++ y :: t = l := by rw [← hdr]; exact List.take_append_drop i l
    rw [List.foldl_cons]
    by_cases h2 : n < y
    · have hnm : hasB l n = false := by
        unfold hasB; rw [decide_eq_false_iff_not]; intro hm
        rw [← hl, List.mem_append, List.mem_cons] at hm
        rcases hm with hm | rfl | hm
        · have := hlo n hm; omega
        · omega
        · obtain ⟨s, hs, hm⟩ := mem_drop_at (l := l) (i := i) (x := n) (by rw [hdr]; exact List.mem_cons_of_mem _ hm)
          by_cases e : s = i
          · subst e; rw [hy] at hm; cases hm; omega
          · have := hr i s y n (by omega) hy hm; omega
      rw [show putStep n (l.take i, false) y = (l.take i ++ [n] ++ [y], true) by simp [putStep, h1, h2], putS_high, hnm]
      simp
    · have hny : y = n := by omega
      have hm : hasB l n = true := by
        unfold hasB; rw [decide_eq_true_eq, ← hl]; simp [hny]
      rw [show putStep n (l.take i, false) y = (l.take i ++ [y], true) by simp [putStep, h1, h2], putS_high, hm]
      simp [hl]
theorem isLb_no {l : List Int} {n : Int} {i : Nat} (hi : isLb l n i) : i ≤ l.length := hi.1
theorem insN_rises {l : List Int} {n : Int} {i : Nat} (hr : Rises l) (hi : isLb l n i) (hn : hasB l n = false) : Rises (insN l i n) := by
  have hnm : n ∉ l := by simpa [hasB] using hn
  rw [rises_pw] at hr ⊢
  have hr2 := hr
  rw [← List.take_append_drop i l, List.pairwise_append] at hr2
  unfold insN
  rw [List.pairwise_append, List.pairwise_cons]
  refine ⟨hr2.1, ⟨fun y hy => ?_, hr2.2.1⟩, fun x hx y hy => ?_⟩
  · obtain ⟨s, hs, hy⟩ := mem_drop_at hy
    have h1 := hi.2.2 s y hs hy
    have h2 : y ≠ n := fun e => hnm (e ▸ List.mem_of_getElem? hy)
    omega
  · rcases List.mem_cons.1 hy with rfl | hy
    · obtain ⟨s, hs, hx⟩ := mem_take_at hx
      exact hi.2.1 s x hs hx
    · exact hr2.2.2 x hx y hy
theorem lbN_ex (n : Int) : ∀ l : List Int, Rises l → ∃ i, isLb l n i := by
  intro l hr
  refine ⟨l.findIdx fun x => decide (n ≤ x), List.findIdx_le_length, fun s y hs hy => ?_, fun s y hs hy => ?_⟩
  · obtain ⟨hl, rfl⟩ := List.getElem?_eq_some_iff.1 hy
    have := List.not_of_lt_findIdx hs
    simpa using this
  · have hl := (List.getElem?_eq_some_iff.1 hy).1
    have hlt : (l.findIdx fun x => decide (n ≤ x)) < l.length := by omega
    have h1 : decide (n ≤ l[l.findIdx fun x => decide (n ≤ x)]) = true := List.findIdx_getElem (p := fun x => decide (n ≤ x)) (w := hlt)
    rw [decide_eq_true_eq] at h1
    by_cases e : s = l.findIdx fun x => decide (n ≤ x)
    · subst e
      rw [List.getElem?_eq_getElem hlt] at hy
      cases hy; exact h1
    · have := hr _ s _ y (by omega : (l.findIdx fun x => decide (n ≤ x)) < s) (List.getElem?_eq_getElem hlt) hy; omega
theorem putN_ok {l : List Int} {n : Int} (hr : Rises l) : Rises (putN n l) ∧ (putN n l).length ≤ l.length + 1 := by
  obtain ⟨i, hi⟩ := lbN_ex n l hr
  rw [putN_lb hr hi]
  split
  · exact ⟨hr, Nat.le_succ _⟩
  · rename_i h
    exact ⟨insN_rises hr hi (by simpa using h), by rw [insN_len _ hi.1]; exact Nat.le_refl _⟩

/-! ### An entry in rising entries -/
theorem ip_low {t : ByteArray} {n : Int} : ∀ (a s : List Entry), (∀ e ∈ a, txLt e.word t = true) → a.foldl (ipStep t n) (s, false) = (s ++ a, false)
  | [], s, _ => by simp
  | x :: a, s, h => by
    have h1 := h x List.mem_cons_self
    have h2 := txLt_asymm h1
    have h3 : entIs t x = false := entIs_no fun e => by rw [e, txLt_irrefl] at h1; cases h1
    rw [List.foldl_cons, show ipStep t n (s, false) x = (s ++ [x], false) by simp [ipStep, h2, h3], ip_low a (s ++ [x]) fun y hy => h y (List.mem_cons_of_mem _ hy)]
    simp
theorem ip_high {t : ByteArray} {n : Int} : ∀ (a s : List Entry), (∀ e ∈ a, e.word ≠ t) → a.foldl (ipStep t n) (s, true) = (s ++ a, true)
  | [], s, _ => by simp
  | x :: a, s, h => by
    have h3 : entIs t x = false := entIs_no (h x List.mem_cons_self)
    rw [List.foldl_cons, show ipStep t n (s, true) x = (s ++ [x], true) by simp [ipStep, h3], ip_high a (s ++ [x]) fun y hy => h y (List.mem_cons_of_mem _ hy)]
    simp
theorem ip_cut {es : List Entry} {t : ByteArray} {n : Int} {i : Nat} (hi : isLbT Entry.word es t i) : ipS t n es = (es.drop i).foldl (ipStep t n) (es.take i, false) := by
  conv => lhs; rw [← List.take_append_drop i es]
  unfold ipS
  rw [List.foldl_append, ip_low _ _ fun e he => by obtain ⟨s, hs, he⟩ := mem_take_at he; exact hi.2.1 s e hs he]
  simp
theorem hasT_at {es : List Entry} {t : ByteArray} (h : hasT Entry.word es t = false) {s : Nat} {y : Entry} (hy : es[s]? = some y) : y.word ≠ t := fun e => by
  rw [hasT_yes hy e] at h; cases h
/-- The word is new. -/
theorem putW_new {es : List Entry} {t : ByteArray} {n : Int} {i : Nat} (hi : isLbT Entry.word es t i) (hn : hasT Entry.word es t = false) : putW t n es = es.take i ++ ⟨t, [n]⟩ :: es.drop i := by
  unfold putW
  rw [ip_cut hi]
  rcases hdr : es.drop i with _ | ⟨y, r⟩
  · simp
  · have hy : es[i]? = some y := by
      have := List.getElem?_drop (xs := es) (i := i) (j := 0)
      rw [hdr] at this; simpa using this.symm
    have h1 := hi.2.2 i y (Nat.le_refl _) hy
    have h2 := hasT_at hn hy
    have h3 : txLt t y.word = true := by
      cases h : txLt t y.word with
      | true => rfl
      | false => exact absurd (txLt_total h1 h) h2
    rw [List.foldl_cons, show ipStep t n (es.take i, false) y = (es.take i ++ [⟨t, [n]⟩] ++ [y], true) by simp [ipStep, h3, entIs_no h2], ip_high _ _ fun e he => by
      obtain ⟨s, hs, he⟩ := mem_drop_at (l := es) (i := i) (x := e) (by rw [hdr]; exact List.mem_cons_of_mem _ he)
      exact hasT_at hn he]
    simp
/-- The word is there. -/
theorem putW_old {es : List Entry} {t : ByteArray} {n : Int} {i : Nat} {x : Entry} (hr : RisesT Entry.word es) (hi : isLbT Entry.word es t i) (hx : es[i]? = some x) (he : x.word = t) : putW t n es = es.set i ⟨t, putN n x.numbers⟩ := by
  have hl := (List.getElem?_eq_some_iff.1 hx).1
  have hdr : es.drop i = x :: es.drop (i + 1) := by
    obtain ⟨h, rfl⟩ := List.getElem?_eq_some_iff.1 hx
    exact (List.getElem_cons_drop (h := h)).symm
  unfold putW
  rw [ip_cut hi, hdr, List.foldl_cons, show ipStep t n (es.take i, false) x = (es.take i ++ [⟨t, putN n x.numbers⟩], true) by simp [ipStep, entIs_iff.2 he, he, txLt_irrefl], ip_high _ _ fun e hem => by
    obtain ⟨s, hs, hem⟩ := mem_drop_at hem
    intro e2
    have := hr i s x e (by omega) hx hem
    rw [he, e2, txLt_irrefl] at this; cases this]
  rw [List.set_eq_take_append_cons_drop, if_pos hl]
  simp
/-- Entries that rise, of which each rises. -/
def ixFit (a b : Nat) (es : List Entry) : Prop := es.length ≤ a ∧ RisesT Entry.word es ∧ ∀ e ∈ es, Rises e.numbers ∧ e.numbers.length ≤ b
theorem ixFit.more {a b a2 b2 : Nat} {es : List Entry} (h : ixFit a b es) (ha : a ≤ a2) (hb : b ≤ b2) : ixFit a2 b2 es := ⟨Nat.le_trans h.1 ha, h.2.1, fun e he => ⟨(h.2.2 e he).1, Nat.le_trans (h.2.2 e he).2 hb⟩⟩
theorem ixFit_nil (a b : Nat) : ixFit a b [] := ⟨Nat.zero_le _, by intro s t x y _ hx; simp at hx, by simp⟩
theorem lbT_ex {es : List Entry} (t : ByteArray) (hr : RisesT Entry.word es) : ∃ i, isLbT Entry.word es t i := by
  refine ⟨es.findIdx fun b => !txLt b.word t, List.findIdx_le_length, fun s y hs hy => ?_, fun s y hs hy => ?_⟩
  · obtain ⟨hl, rfl⟩ := List.getElem?_eq_some_iff.1 hy
    have := List.not_of_lt_findIdx hs
    simpa using this
  · have hl := (List.getElem?_eq_some_iff.1 hy).1
    have hlt : (es.findIdx fun b => !txLt b.word t) < es.length := by omega
    have h1 : (!txLt es[es.findIdx fun b => !txLt b.word t].word t) = true := List.findIdx_getElem (p := fun b : Entry => !txLt b.word t) (w := hlt)
    have h2 : txLt es[es.findIdx fun b => !txLt b.word t].word t = false := by simpa using h1
    by_cases e : s = es.findIdx fun b => !txLt b.word t
    · subst e
      rw [List.getElem?_eq_getElem hlt] at hy
      cases hy; exact h2
    · exact lb_le (hr _ s _ y (by omega : (es.findIdx fun b => !txLt b.word t) < s) (List.getElem?_eq_getElem hlt) hy) h2
theorem putW_fit {a b : Nat} {es : List Entry} {t : ByteArray} {n : Int} (h : ixFit a b es) : ixFit (a + 1) (b + 1) (putW t n es) := by
  obtain ⟨hl, hr, hf⟩ := h
  refine ⟨Nat.le_trans (putW_len t n es) (by omega), ?_⟩
  obtain ⟨i, hi⟩ := lbT_ex t hr
  cases hn : hasT Entry.word es t with
  | true =>
    obtain ⟨x, hx, he⟩ := hi.foundE hr hn
    rw [putW_old hr hi hx he]
    have hil := (List.getElem?_eq_some_iff.1 hx).1
    constructor
    · rw [risesT_pw] at hr ⊢
      have e : (es.set i ⟨t, putN n x.numbers⟩).map Entry.word = es.map Entry.word := by
        rw [List.map_set]
        apply List.ext_getElem?
        intro k
        rw [List.getElem?_set]
        split
        · rename_i hk
          subst hk
          rw [List.getElem?_map, hx]
          simp [he]
          exact hil
        · rfl
      rw [e]; exact hr
    · intro e hem
      rcases List.mem_or_eq_of_mem_set hem with hem | rfl
      · exact ⟨(hf e hem).1, Nat.le_succ_of_le (hf e hem).2⟩
      · have h5 := hf x (List.mem_of_getElem? hx)
        exact ⟨(putN_ok h5.1).1, Nat.le_trans (putN_ok h5.1).2 (by omega)⟩
  | false =>
    rw [putW_new hi hn]
    constructor
    · rw [risesT_pw] at hr ⊢
      have hr2 := hr
      rw [← List.take_append_drop i es, List.map_append, List.pairwise_append] at hr2
      rw [List.map_append, List.map_cons, List.pairwise_append, List.pairwise_cons]
      refine ⟨hr2.1, ⟨fun y hy => ?_, hr2.2.1⟩, fun x hx y hy => ?_⟩
      · obtain ⟨e, hem, rfl⟩ := List.mem_map.1 hy
        obtain ⟨s, hs, hem⟩ := mem_drop_at hem
        have h1 := hi.2.2 s e hs hem
        cases h : txLt t e.word with
        | true => rfl
        | false => exact absurd (txLt_total h1 h) (hasT_at hn hem)
      · rcases List.mem_cons.1 hy with rfl | hy
        · obtain ⟨e, hem, rfl⟩ := List.mem_map.1 hx
          obtain ⟨s, hs, hem⟩ := mem_take_at hem
          exact hi.2.1 s e hs hem
        · exact hr2.2.2 x hx y hy
    · intro e hem
      rcases List.mem_append.1 hem with hem | hem
      · have h5 := hf e (List.mem_of_mem_take hem)
        exact ⟨h5.1, Nat.le_succ_of_le h5.2⟩
      · rcases List.mem_cons.1 hem with rfl | hem
        · exact ⟨by rw [rises_pw]; simp, by simp⟩
        · have h5 := hf e (List.mem_of_mem_drop hem)
          exact ⟨h5.1, Nat.le_succ_of_le h5.2⟩
theorem putWs_fit {n : Int} : ∀ {a b : Nat} {ws : List ByteArray} {es : List Entry}, ixFit a b es → ixFit (a + ws.length) (b + ws.length) (putWs n ws es)
  | a, b, [], es, h => h
  | a, b, t :: ws, es, h => by
    have h2 := putWs_fit (n := n) (ws := ws) (putW_fit (t := t) (n := n) h)
    rw [List.length_cons, show a + (ws.length + 1) = a + 1 + ws.length by omega, show b + (ws.length + 1) = b + 1 + ws.length by omega]
    exact h2
/-- A message more. -/
def addM (es : List Entry) (m : Message) : List Entry := putWs m.number (wordsOf m.text) es
end Go.Proofs.Yticjphaagmnahaa
