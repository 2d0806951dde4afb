/- Where a thread begins: the program and the reference. -/
import Derived.Test.YtjidhgejahpmdaaFind
import Derived.Test.YtjidhgejahpmdaaLogBase
namespace Go.Proofs.Ytjidhgejahpmdaa
open Go Go.RowKit Go.BigFrame
attribute [local go_sem] Calm.cell Calm.frozen
set_option linter.unusedVariables false
set_option linter.unusedSimpArgs false

def rootF : Nat → List Message → Int → Int
  | 0, _, n => n
  | f + 1, ms, n => match ms.find? (numIs n) with
    | none => n
    | some m => if idxP (numIs m.reply) ms < 0 then n else rootF f ms m.reply
/-- Where the thread of a number begins. -/
def rootN (ms : List Message) (n : Int) : Int := rootF n.toNat ms n
/-- Numbers are positive, and a reply is to an earlier number. -/
def down (ms : List Message) : Prop := ∀ m ∈ ms, 1 ≤ m.number ∧ m.reply ≤ m.number - 1
theorem find_num {ms : List Message} {n : Int} {m : Message} (h : ms.find? (numIs n) = some m) : m ∈ ms ∧ m.number = n :=
  ⟨List.mem_of_find?_eq_some h, by have := List.find?_some h; simpa [numIs] using this⟩
theorem rootF_stable {ms : List Message} (hd : down ms) : ∀ (f g : Nat) (t : Int), t.toNat ≤ f → t.toNat ≤ g → rootF f ms t = rootF g ms t
  | 0, 0, t, _, _ => rfl
  | 0, g + 1, t, h, _ => by
    rcases hf : ms.find? (numIs t) with _ | m
    · simp [rootF, hf]
    · obtain ⟨h1, h2⟩ := find_num hf
      have := (hd m h1).1; omega
  | f + 1, 0, t, _, h => by
    rcases hf : ms.find? (numIs t) with _ | m
    · simp [rootF, hf]
    · obtain ⟨h1, h2⟩ := find_num hf
      have := (hd m h1).1; omega
  | f + 1, g + 1, t, h1, h2 => by
    rcases hf : ms.find? (numIs t) with _ | m
    · simp [rootF, hf]
    · obtain ⟨h3, h4⟩ := find_num hf
      have h5 := (hd m h3).2
      have h6 := (hd m h3).1
      simp only [rootF, hf]
      split
      · rfl
      · exact rootF_stable hd f g m.reply (by omega) (by omega)
theorem find_of_idx {ms : List Message} {n : Int} {k : Nat} {m : Message} (h : idxP (numIs n) ms = (k : Int)) (hk : ms[k]? = some m) : ms.find? (numIs n) = some m ∧ m.number = n := by
  unfold idxP at h
  rcases hf : ms.findIdx? (numIs n) with _ | j
  · rw [hf] at h; simp at h
  · rw [hf] at h
    obtain rfl : j = k := by simp at h; omega
    rw [List.findIdx?_eq_some_iff_getElem] at hf
    obtain ⟨hl, h1, h2⟩ := hf
    rw [List.getElem?_eq_getElem hl, Option.some.injEq] at hk
    subst hk
    refine ⟨?_, by simpa [numIs] using h1⟩
    rw [List.find?_eq_some_iff_getElem]
    exact ⟨h1, j, hl, rfl, fun i hi => by simpa using h2 i hi⟩
theorem rootN_stop {ms : List Message} (hd : down ms) {n : Int} {k : Nat} {m : Message} (h : idxP (numIs n) ms = (k : Int)) (hk : ms[k]? = some m) (hr : idxP (numIs m.reply) ms < 0) : rootN ms n = n := by
  obtain ⟨hf, hm⟩ := find_of_idx h hk
  have h1 := (hd m (List.mem_of_getElem? hk)).1
  unfold rootN
  rw [rootF_stable hd n.toNat (n.toNat + 1) n (Nat.le_refl _) (by omega), rootF, hf]
  simp [hr]
theorem rootN_step {ms : List Message} (hd : down ms) {n : Int} {k : Nat} {m : Message} (h : idxP (numIs n) ms = (k : Int)) (hk : ms[k]? = some m) (hr : ¬ idxP (numIs m.reply) ms < 0) : rootN ms n = rootN ms m.reply := by
  obtain ⟨hf, hm⟩ := find_of_idx h hk
  have h1 := (hd m (List.mem_of_getElem? hk)).1
  have h2 := (hd m (List.mem_of_getElem? hk)).2
  unfold rootN
  rw [rootF_stable hd n.toNat (n.toNat + 1) n (Nat.le_refl _) (by omega), rootF, hf]
  simp only [if_neg hr]
  exact rootF_stable hd _ _ _ (by omega) (Nat.le_refl _)
theorem idx_found {ms : List Message} {n : Int} (h : 0 ≤ idxP (numIs n) ms) : ∃ (k : Nat) (m : Message), idxP (numIs n) ms = (k : Int) ∧ k < ms.length ∧ ms[k]? = some m ∧ m.number = n := by
  rcases idxP_cases (numIs n) ms with h1 | ⟨k, m, h1, h2, h3, h4⟩
  · omega
  · exact ⟨k, m, h1, h2, h3, by simpa [numIs] using h4⟩
theorem idx_mem {ms : List Message} {m : Message} (h : m ∈ ms) : 0 ≤ idxP (numIs m.number) ms := by
  rcases h1 : ms.findIdx? (numIs m.number) with _ | k
  · rw [List.findIdx?_eq_none_iff] at h1
    have := h1 m h
    simp [numIs] at this
  · unfold idxP; rw [h1]; simp
theorem valid_down {l : Log} (h : validLogB l = true) : down l.messages := fun m hm => by
  have h1 := valid_msgs h hm
  simp only [validMessageB, Bool.and_eq_true] at h1
  have h2 := inB_iff.1 h1.1.1.1.1.1.1.1.1.1
  have h3 := inB_iff.1 h1.1.1.1.1.2
  exact ⟨h2.1, h3.2⟩

set_option maxHeartbeats 4000000 in
theorem root_c (l : Log) (b o : Nat) (n : Int) (w : World) (hp : RowAt logD w b o [l]) (hd : down l.messages) (hn : 0 ≤ idxP (numIs n) l.messages) :
    Calls Try.prog 62 #[.pointer (some ⟨b, o, none⟩), .int .i64 n] w fun e w' => e = .returned (.int .i64 (rootN l.messages n)) ∧ Below w.heap.size w w' := by
  obtain ⟨v1, h1, hbz, hb0, hb1⟩ := log_at hp (Below.refl _ _) (j := 0) rfl
  simp only [Nat.zero_mul, Nat.add_zero] at hb0 hb1
  obtain ⟨A, c, rfl, hl, hm, hra⟩ := h1
  have HA := hide hra
  have HP := hide hp
  have HD := hide hd
  clear hra hp hd
  obtain ⟨k0, m0, hk0, hl0, hx0, hm0⟩ := idx_found hn
  have HN0 := hide (And.intro hk0 (And.intro hl0 (And.intro hx0 hm0)))
  clear hn hk0 hl0 hx0 hm0
  go_enter Try.func62, Try.ntmps62
  go_wp2_with fail
  go_loopg [1] n.toNat (fun gg s1 wr => ∃ (t : Int) (k : Nat) (m : Message), s1 = .int .i64 t ∧ t.toNat ≤ gg ∧ k < l.messages.length ∧ Hid (idxP (numIs t) l.messages = (k : Int)) ∧ Hid (l.messages[k]? = some m) ∧ Hid (m.number = t) ∧ Hid (rootN l.messages t = rootN l.messages n) ∧ Hid (Below w.heap.size w wr))
  case atStart => exact ⟨n, k0, m0, rfl, Nat.le_refl _, HN0.out.2.1, HN0.out.1, HN0.out.2.2.1, HN0.out.2.2.2, rfl, Below.refl _ _⟩
  case round =>
    obtain ⟨t, k, m, rfl, hg, hlt, HK, HX, HM, HR, HB⟩ := hrel
    have hb1 := cell_below HB.out hb1
    have hbr := Nat.lt_of_lt_of_le hbz HB.out.size
    rcases HA.out with hnil | ⟨q, o2, rfl, hra⟩
    · rw [hnil] at hlt; simp at hlt
    obtain ⟨v7, h7, hq, hc0, hc1, hc2, hc3, hc4, hc5, hc6, hc7⟩ := message_at hra HB.out HX.out
    have hlt2 : (k : Int) < (l.messages.length : Int) := by omega
    clear hra HA h7
    by_cases hr : idxP (numIs m.reply) l.messages < 0
    · go_wp2_with fail
      (refine wp_region_calm (by kernel_rfl) (by kernel_rfl) ?_; (repeat (first | go_big_quiet_skip | (go_big_quiet_want; go_big_quiet_op; (first | go_big_quiet_on | (apply Exists.intro; refine ⟨fun ic => ?_, ?_⟩; (focus ((go_at_call 56; refine (at_c l _ _ t _ (HP.out.below (HB.out.trans (ic.below.mono HB.out.size)))).mono ?_; rintro e w2 ⟨rfl, hb⟩; rw [HK.out]; exact ⟨rfl, Calm.next _ hb⟩); done)); go_big_quiet_on))))); refine wpQuiet_nil ?_; intro wq hwq; obtain ⟨iq, hwe⟩ := hwq; subst hwe)
      have HN := hide (HB.out.trans (iq.below.mono HB.out.size))
      have hz := iq.size
      go_wp2_with (go_at_call 56
                   refine (at_c l _ _ m.reply _ (HP.out.below HN.out)).mono ?_
                   rintro e w2 ⟨rfl, hb⟩
                   have HN2 := hide (HN.out.trans (hb.mono HN.out.size))
                   clear hb)
      go_ret
      exact ⟨ret_int (by rw [← HR.out, rootN_stop HD.out HK.out HX.out hr]), HN2.out⟩
    · have hr2 : 0 ≤ idxP (numIs m.reply) l.messages := by omega
      go_wp2_with fail
      (refine wp_region_calm (by kernel_rfl) (by kernel_rfl) ?_; (repeat (first | go_big_quiet_skip | (go_big_quiet_want; go_big_quiet_op; (first | go_big_quiet_on | (apply Exists.intro; refine ⟨fun ic => ?_, ?_⟩; (focus ((go_at_call 56; refine (at_c l _ _ t _ (HP.out.below (HB.out.trans (ic.below.mono HB.out.size)))).mono ?_; rintro e w2 ⟨rfl, hb⟩; rw [HK.out]; exact ⟨rfl, Calm.next _ hb⟩); done)); go_big_quiet_on))))); refine wpQuiet_nil ?_; intro wq hwq; obtain ⟨iq, hwe⟩ := hwq; subst hwe)
      have HN := hide (HB.out.trans (iq.below.mono HB.out.size))
      have hz := iq.size
      go_wp2_with (go_at_call 56
                   refine (at_c l _ _ m.reply _ (HP.out.below HN.out)).mono ?_
                   rintro e w2 ⟨rfl, hb⟩
                   have HN2 := hide (HN.out.trans (hb.mono HN.out.size))
                   clear hb)
      have hdn := HD.out m (List.mem_of_getElem? HX.out)
      have hmt := HM.out
      go_roundg (m.reply.toNat)
      case measure => omega
      case rel =>
        obtain ⟨k2, m2, h1, h2, h3, h4⟩ := idx_found hr2
        exact ⟨m.reply, k2, m2, rfl, Nat.le_refl _, h2, h1, h3, h4, hide ((rootN_step HD.out HK.out HX.out (by omega)).symm.trans HR.out), HN2⟩
set_option maxHeartbeats 4000000 in
theorem l03Root_c (l : Log) (b o : Nat) (n : Int) (w : World) (hp : RowAt logD w b o [l]) (hd : down l.messages) (hn : 0 ≤ idxP (numIs n) l.messages) :
    Calls Try.prog 61 #[.pointer (some ⟨b, o, none⟩), .int .i64 n] w fun e w' => e = .returned (.int .i64 (rootN l.messages n)) ∧ Below w.heap.size w w' := by
  obtain ⟨v1, h1, hbz, hb0, hb1⟩ := log_at hp (Below.refl _ _) (j := 0) rfl
  simp only [Nat.zero_mul, Nat.add_zero] at hb0 hb1
  obtain ⟨A, c, rfl, hl, hm, hra⟩ := h1
  have HA := hide hra
  have HP := hide hp
  have HD := hide hd
  clear hra hp hd
  obtain ⟨k0, m0, hk0, hl0, hx0, hm0⟩ := idx_found hn
  have HN0 := hide (And.intro hk0 (And.intro hl0 (And.intro hx0 hm0)))
  clear hn hl0 hx0 hm0
  go_enter Try.func61, Try.ntmps61
  go_wp2_with (go_at_call 54
               refine (l03Find_c l _ _ n _ HP.out).mono ?_
               rintro e w1 ⟨rfl, hb⟩
               rw [hk0]
               have HB0 := hide hb
               clear hb)
  go_loopg [5] n.toNat (fun gg s5 wr => ∃ (t : Int) (k : Nat) (m : Message), s5 = .int .i64 (k : Int) ∧ t.toNat ≤ gg ∧ k < l.messages.length ∧ Hid (idxP (numIs t) l.messages = (k : Int)) ∧ Hid (l.messages[k]? = some m) ∧ Hid (m.number = t) ∧ Hid (rootN l.messages t = rootN l.messages n) ∧ Hid (Below w.heap.size w wr))
  case atStart => exact ⟨n, k0, m0, rfl, Nat.le_refl _, HN0.out.2.1, HN0.out.1, HN0.out.2.2.1, HN0.out.2.2.2, rfl, HB0⟩
  case round =>
    obtain ⟨t, k, m, rfl, hg, hlt, HK, HX, HM, HR, HB⟩ := hrel
    have hb1 := cell_below HB.out hb1
    have hbr := Nat.lt_of_lt_of_le hbz HB.out.size
    rcases HA.out with hnil | ⟨q, o2, rfl, hra⟩
    · rw [hnil] at hlt; simp at hlt
    obtain ⟨v7, h7, hq, hc0, hc1, hc2, hc3, hc4, hc5, hc6, hc7⟩ := message_at hra HB.out HX.out
    have hlt2 : (k : Int) < (l.messages.length : Int) := by omega
    clear hra HA h7 hk0
    by_cases hr : idxP (numIs m.reply) l.messages < 0
    · go_wp2_with (go_at_call 54
                   refine (l03Find_c l _ _ m.reply _ (HP.out.below HB.out)).mono ?_
                   rintro e w2 ⟨rfl, hb⟩
                   obtain ⟨iq, rfl⟩ : ∃ i : Calm _, w2 = i.world := ⟨⟨w2, hb⟩, rfl⟩
                   clear hb
                   have hz := iq.size)
      go_ret
      exact ⟨ret_int (by rw [← HR.out, rootN_stop HD.out HK.out HX.out hr, HM.out]), HB.out.trans (iq.below.mono HB.out.size)⟩
    · have hr2 : 0 ≤ idxP (numIs m.reply) l.messages := by omega
      obtain ⟨k2, m2, h1, h2, h3, h4⟩ := idx_found hr2
      have HN2 := hide (And.intro h1 (And.intro h2 (And.intro h3 h4)))
      clear h2 h3 h4 hr hr2
      go_wp2_with (go_at_call 54
                   refine (l03Find_c l _ _ m.reply _ (HP.out.below HB.out)).mono ?_
                   rintro e w2 ⟨rfl, hb⟩
                   rw [h1]
                   have HN := hide (HB.out.trans (hb.mono HB.out.size))
                   have hc1' := cell_below hb hb1
                   have hc6' := cell_below hb hc6
                   clear HB hb1 hc6
                   (try clear hc0 hc1 hc2 hc3 hc4 hc5 hc7)
                   have HB := HN
                   clear HN
                   have hb1 := hc1'
                   have hc6 := hc6'
                   clear hc1' hc6')
      have hdn := HD.out m (List.mem_of_getElem? HX.out)
      have hmt := HM.out
      go_roundg (m.reply.toNat)
      case measure => omega
      case rel =>
        exact ⟨m.reply, k2, m2, rfl, Nat.le_refl _, HN2.out.2.1, HN2.out.1, HN2.out.2.2.1, HN2.out.2.2.2, hide ((rootN_step HD.out HK.out HX.out (by have := HN2.out.1; omega)).symm.trans HR.out), HB⟩
end Go.Proofs.Ytjidhgejahpmdaa
