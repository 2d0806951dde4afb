/- The place of a message in a log: the program and the reference. The numbers of the messages that a test takes. Where a thread begins: the program and the reference. The answers to a message: the program and the reference. -/
import Derived.Test.YtodmongmaoeknaaGreatVMsg
import Derived.Test.YtodmongmaoeknaaGreatRGround
import Derived.Shelf.Abstract
import Derived.Test.YtodmongmaoeknaaGreatSMsg
namespace Go.Proofs.YtodmongmaoeknaaGreat
open Go Go.RowKit Go.BigFrame
attribute [local go_sem] Calm.cell Calm.frozen
set_option linter.unusedVariables false
set_option linter.unusedSimpArgs false

def msgArr (m : Message) (v7 : Value) : Array Value := #[.int .i64 m.number, .int .i64 m.sender, .int .i64 m.at_, .string m.text, .int .i64 m.edits, .bool m.gone, .int .i64 m.reply, v7]
def numIs (n : Int) (m : Message) : Bool := decide (m.number = n)

set_option maxHeartbeats 4000000 in
theorem indexMsg_c (g : Nat) (caps : Array Value) (p : Message → Bool) (ms : List Message) (v : Value) (w : World) (hm : SliceK messageD w v ms)
    (eg : ∀ args w, (callFunc g args).run Tryz.prog w = .ok (.enter g args) w)
    (hc : ∀ (m : Message) (v7 : Value) (W : World), Below w.heap.size w W → SliceK intD W v7 m.likes → Calls Tryz.prog g (#[.agg (msgArr m v7)] ++ caps) W fun e W' => e = .returned (.bool (p m)) ∧ Below W.heap.size W W') :
    Calls Tryz.prog 103 #[v, .func (.func g) #[] caps] w fun e w' => e = .returned (.int .i64 (idxP p ms)) ∧ Below w.heap.size w w' := by
  obtain ⟨A, c, rfl, hl, hmx, hra⟩ := hm
  have HA := hide hra
  have HC := hide hc
  clear hra hc
  go_enter Tryz.func103, Tryz.ntmps103
  go_wp2_with fail
  go_loopg [8] ms.length (fun gg s8 wr => ∃ k : Nat, k ≤ ms.length ∧ ms.length - k ≤ gg ∧ s8 = .int .i64 k ∧ Hid (∀ j y, j < k → ms[j]? = some y → p y = false) ∧ Hid (Below w.heap.size w wr))
  case atStart => exact ⟨0, Nat.zero_le _, by omega, rfl, hide (by intro j y hj; omega), Below.refl _ _⟩
  case round =>
    obtain ⟨k, hk, hg, rfl, HT, HB⟩ := hrel
    by_cases hlt : k < ms.length
    · obtain ⟨m, hx⟩ : ∃ m, ms[k]? = some m := ⟨_, List.getElem?_eq_getElem hlt⟩
      rcases HA.out with hnil | ⟨q, o2, rfl, hra⟩
      · rw [hnil] at hlt; simp at hlt
      obtain ⟨v7, h7, hq, hc0, hc1, hc2, hc3, hc4, hc5, hc6, hc7⟩ := message_at hra HB.out hx
      obtain ⟨A7, c7, rfl⟩ := h7.shape
      have HX := hide hx
      have H7 := hide h7
      have hlt2 : (k : Int) < (ms.length : Int) := by omega
      clear hx hra HA h7
      by_cases hpm : p m = true
      · have HPM := hide hpm
        clear hpm
        go_wp2_with (first
          | (go_at_fn g
             refine (HC.out m _ _ HB.out H7.out).mono ?_
             rintro e w1 ⟨rfl, hb⟩
             rw [HPM.out]
             have HN := hide (HB.out.trans (hb.mono HB.out.size))
             clear hb))
        go_ret
        exact ⟨by rw [idxP_hit HT.out HX.out HPM.out]; rfl, HN.out⟩
      · have HPM := hide (show p m = false by simpa using hpm)
        clear hpm
        go_wp2_with (first
          | (go_at_fn g
             refine (HC.out m _ _ HB.out H7.out).mono ?_
             rintro e w1 ⟨rfl, hb⟩
             rw [HPM.out]
             have HN := hide (HB.out.trans (hb.mono HB.out.size))
             clear hb))
        go_roundg (ms.length - (k + 1))
        case measure => omega
        case rel => exact ⟨k + 1, by omega, by omega, by go_num, hide (idxP_step HT.out HX.out HPM.out), HN⟩
    · have : k = ms.length := by omega
      subst this
      have hr := hide (idxP_miss HT.out)
      clear HA HC
      go_wp2_with fail
      go_ret
      exact ⟨by rw [hr.out]; rfl, HB.out⟩
set_option maxHeartbeats 1000000 in
theorem at1_c (m : Message) (v7 : Value) (b1 : Nat) (n : Int) (W : World) (h1 : W.cell? ⟨b1, 0, none⟩ = some (.int .i64 n)) (H7 : SliceK intD W v7 m.likes) :
    Calls Tryz.prog 104 (#[.agg (msgArr m v7)] ++ #[.pointer (some ⟨b1, 0, none⟩)]) W fun e W' => e = .returned (.bool (numIs n m)) ∧ Below W.heap.size W W' := by
  show Calls Tryz.prog 104 #[.agg #[.int .i64 m.number, .int .i64 m.sender, .int .i64 m.at_, .string m.text, .int .i64 m.edits, .bool m.gone, .int .i64 m.reply, v7], .pointer (some ⟨b1, 0, none⟩)] W _
  obtain ⟨A, c, rfl⟩ := H7.shape
  have hl1 := World.block_lt_of_cell? W _ h1
  simp only [] at hl1
  clear H7
  go_enter Tryz.func104, Tryz.ntmps104
  go_wp2_with fail
  all_goals
    go_ret
    refine ⟨?_, (Below.refl _ _).alloc (Nat.le_refl _) _⟩
    refine ret_bool ?_
    first
    | (simp [numIs, *]; done)
    | (rw [Bool.eq_iff_iff]; simp [numIs, *]; done)
set_option maxHeartbeats 4000000 in
theorem at_c (l : Log) (b o : Nat) (n : Int) (w : World) (hp : RowAt logD w b o [l]) :
    Calls Tryz.prog 98 #[.pointer (some ⟨b, o, none⟩), .int .i64 n] w fun e w' => e = .returned (.int .i64 (idxP (numIs n) l.messages)) ∧ Below w.heap.size w w' := by
  obtain ⟨v1, h1, hbz, hb0, hb1⟩ := log_at hp (Below.refl _ _) (j := 0) rfl
  simp only [Nat.zero_mul, Nat.add_zero] at hb0 hb1
  obtain ⟨A, c, rfl⟩ := h1.shape
  have H1 := hide h1
  clear h1 hp
  have eg := enters_of Tryz.func104 (by kernel_rfl) rfl
  have HW := hide ((Below.refl w.heap.size w).alloc (Nat.le_refl _) (.cells #[.int .i64 n] 2))
  have HC := hide (show (w.alloc (.cells #[.int .i64 n] 2)).cell? ⟨w.heap.size, 0, none⟩ = some (.int .i64 n) by simp)
  go_enter Tryz.func98, Tryz.ntmps98
  go_wp2_with (go_at_call 103
               refine (indexMsg_c _ _ (numIs n) l.messages _ _ (H1.out.below HW.out) eg (fun m v7 W hbW h7 => at1_c m v7 _ n W (cell_below hbW HC.out) h7)).mono ?_
               rintro e w1 ⟨rfl, hb⟩
               have HN := hide (HW.out.trans (hb.mono HW.out.size))
               clear hb)
  go_ret
  exact ⟨rfl, HN.out⟩
set_option maxHeartbeats 4000000 in
theorem l03Find_c (l : Log) (b o : Nat) (n : Int) (w : World) (hp : RowAt logD w b o [l]) :
    Calls Tryz.prog 73 #[.pointer (some ⟨b, o, none⟩), .int .i64 n] w fun e w' => e = .returned (.int .i64 (idxP (numIs n) l.messages)) ∧ Below w.heap.size w w' := by
  obtain ⟨v1, h1, hbz, hb0, hb1⟩ := log_at hp (Below.refl _ _) (j := 0) rfl
  simp only [Nat.zero_mul, Nat.add_zero] at hb0 hb1
  obtain ⟨A, c, rfl, hl, hm, hra⟩ := h1
  have HA := hide hra
  clear hra hp
  go_enter Tryz.func73, Tryz.ntmps73
  go_wp2_with fail
  go_loopg [11] l.messages.length (fun gg s11 wr => ∃ k : Nat, k ≤ l.messages.length ∧ l.messages.length - k ≤ gg ∧ s11 = .int .i64 k ∧ Hid (∀ j y, j < k → l.messages[j]? = some y → numIs n y = false) ∧ Hid (Below w.heap.size w wr))
  case atStart => exact ⟨0, Nat.zero_le _, by omega, rfl, hide (by intro j y hj; omega), Below.refl _ _⟩
  case round =>
    obtain ⟨k, hk, hg, rfl, HT, HB⟩ := hrel
    have hb0 := cell_below HB.out hb0
    have hb1 := cell_below HB.out hb1
    by_cases hlt : k < l.messages.length
    · obtain ⟨m, hx⟩ : ∃ m, l.messages[k]? = some m := ⟨_, List.getElem?_eq_getElem hlt⟩
      rcases HA.out with hnil | ⟨q, o2, rfl, hra⟩
      · rw [hnil] at hlt; simp at hlt
      obtain ⟨v7, h7, hq, hc0, hc1, hc2, hc3, hc4, hc5, hc6, hc7⟩ := message_at hra HB.out hx
      have HX := hide hx
      have hlt2 : (k : Int) < (l.messages.length : Int) := by omega
      clear hx hra HA h7
      by_cases hpm : m.number = n
      · have HPM := hide (show numIs n m = true by simp [numIs, hpm])
        go_wp2_with fail
        go_ret
        exact ⟨by rw [idxP_hit HT.out HX.out HPM.out]; rfl, HB.out⟩
      · have HPM := hide (show numIs n m = false by simp [numIs, hpm])
        go_wp2_with fail
        go_roundg (l.messages.length - (k + 1))
        case measure => omega
        case rel => exact ⟨k + 1, by omega, by omega, by go_num, hide (idxP_step HT.out HX.out HPM.out), HB⟩
    · have : k = l.messages.length := by omega
      subst this
      have hr := hide (idxP_miss HT.out)
      clear HA
      go_wp2_with fail
      go_ret
      exact ⟨by rw [hr.out]; rfl, HB.out⟩
end Go.Proofs.YtodmongmaoeknaaGreat
namespace Go.Proofs.YtodmongmaoeknaaGreat
open Go Go.RowKit Go.BigFrame
attribute [local go_sem] Calm.cell Calm.frozen
set_option linter.unusedVariables false
set_option linter.unusedSimpArgs false

theorem Made.none {α : Type} {d : Dt α} {e : TypeId} (w w' : World) : Made d e w w' (.slice none 0 0) [] := ⟨[], .inl ⟨rfl, rfl, rfl⟩, by simp, by simp⟩
/-- A returned row that was made behind w, and a Bool; nothing else has turned. -/
def RetMade2 {α : Type} (d : Dt α) (e : TypeId) (w : World) (xs : List α) (ok : Bool) (r : Ending) (w' : World) : Prop :=
  ∃ v, r = .returned (.tuple #[v, .bool ok]) ∧ Made d e w w' v xs ∧ Below w.heap.size w w'

theorem validLog_40 {l : Log} (h : validLogB l = true) : l.messages.length ≤ 40 := by
  simp only [validLogB, Bool.and_eq_true, decide_eq_true_eq] at h; omega

/-- The numbers of some messages. -/
def pickNums (p : Message → Bool) (ms : List Message) : List Int := (ms.filter p).map (·.number)
theorem pickNums_yes {p : Message → Bool} {ms : List Message} {k : Nat} {m : Message} (hx : ms[k]? = some m) (h : p m = true) : pickNums p (ms.take (k + 1)) = pickNums p (ms.take k) ++ [m.number] := by
  obtain ⟨hk, rfl⟩ := List.getElem?_eq_some_iff.1 hx
  rw [List.take_succ_eq_append_getElem hk, pickNums, List.filter_append]
  simp [pickNums, h]
theorem pickNums_no {p : Message → Bool} {ms : List Message} {k : Nat} {m : Message} (hx : ms[k]? = some m) (h : p m = false) : pickNums p (ms.take (k + 1)) = pickNums p (ms.take k) := by
  obtain ⟨hk, rfl⟩ := List.getElem?_eq_some_iff.1 hx
  rw [List.take_succ_eq_append_getElem hk, pickNums, List.filter_append]
  simp [pickNums, h]
theorem pickNums_len (p : Message → Bool) (ms : List Message) : (pickNums p ms).length ≤ ms.length := by simp [pickNums]; exact List.length_filter_le _ _

end Go.Proofs.YtodmongmaoeknaaGreat
namespace Go.Proofs.YtodmongmaoeknaaGreat
open Go Go.RowKit Go.BigFrame
attribute [local go_sem] Calm.cell Calm.frozen
set_option linter.unusedVariables false
set_option linter.unusedSimpArgs false

def rootF : Nat → List Message → Int → Int
  | 0, _, n => n
  | f + 1, ms, n => match ms.find? (numIs n) with
    | none => n
    | some m => if idxP (numIs m.reply) ms < 0 then n else rootF f ms m.reply
/-- Where the thread of a number begins. -/
def rootN (ms : List Message) (n : Int) : Int := rootF n.toNat ms n
/-- Numbers are positive, and a reply is to an earlier number. -/
def down (ms : List Message) : Prop := ∀ m ∈ ms, 1 ≤ m.number ∧ m.reply ≤ m.number - 1
theorem find_num {ms : List Message} {n : Int} {m : Message} (h : ms.find? (numIs n) = some m) : m ∈ ms ∧ m.number = n :=
  ⟨List.mem_of_find?_eq_some h, by have := List.find?_some h; simpa [numIs] using this⟩
theorem rootF_stable {ms : List Message} (hd : down ms) : ∀ (f g : Nat) (t : Int), t.toNat ≤ f → t.toNat ≤ g → rootF f ms t = rootF g ms t
  | 0, 0, t, _, _ => rfl
  | 0, g + 1, t, h, _ => by
    rcases hf : ms.find? (numIs t) with _ | m
    · simp [rootF, hf]
    · obtain ⟨h1, h2⟩ := find_num hf
      have := (hd m h1).1; omega
  | f + 1, 0, t, _, h => by
    rcases hf : ms.find? (numIs t) with _ | m
    · simp [rootF, hf]
    · obtain ⟨h1, h2⟩ := find_num hf
      have := (hd m h1).1; omega
  | f + 1, g + 1, t, h1, h2 => by
    rcases hf : ms.find? (numIs t) with _ | m
    · simp [rootF, hf]
    · obtain ⟨h3, h4⟩ := find_num hf
      have h5 := (hd m h3).2
      have h6 := (hd m h3).1
      simp only [rootF, hf]
      split
      · rfl
      · exact rootF_stable hd f g m.reply (by omega) (by omega)
theorem find_of_idx {ms : List Message} {n : Int} {k : Nat} {m : Message} (h : idxP (numIs n) ms = (k : Int)) (hk : ms[k]? = some m) : ms.find? (numIs n) = some m ∧ m.number = n := by
  unfold idxP at h
  rcases hf : ms.findIdx? (numIs n) with _ | j
  · rw [hf] at h; simp at h
  · rw [hf] at h
    obtain rfl : j = k := by simp at h; omega
    rw [List.findIdx?_eq_some_iff_getElem] at hf
    obtain ⟨hl, h1, h2⟩ := hf
    rw [List.getElem?_eq_getElem hl, Option.some.injEq] at hk
    subst hk
    refine ⟨?_, by simpa [numIs] using h1⟩
    rw [List.find?_eq_some_iff_getElem]
    exact ⟨h1, j, hl, rfl, fun i hi => by simpa using h2 i hi⟩
theorem rootN_stop {ms : List Message} (hd : down ms) {n : Int} {k : Nat} {m : Message} (h : idxP (numIs n) ms = (k : Int)) (hk : ms[k]? = some m) (hr : idxP (numIs m.reply) ms < 0) : rootN ms n = n := by
  obtain ⟨hf, hm⟩ := find_of_idx h hk
  have h1 := (hd m (List.mem_of_getElem? hk)).1
  unfold rootN
  rw [rootF_stable hd n.toNat (n.toNat + 1) n (Nat.le_refl _) (by omega), rootF, hf]
  simp [hr]
theorem rootN_step {ms : List Message} (hd : down ms) {n : Int} {k : Nat} {m : Message} (h : idxP (numIs n) ms = (k : Int)) (hk : ms[k]? = some m) (hr : ¬ idxP (numIs m.reply) ms < 0) : rootN ms n = rootN ms m.reply := by
  obtain ⟨hf, hm⟩ := find_of_idx h hk
  have h1 := (hd m (List.mem_of_getElem? hk)).1
  have h2 := (hd m (List.mem_of_getElem? hk)).2
  unfold rootN
  rw [rootF_stable hd n.toNat (n.toNat + 1) n (Nat.le_refl _) (by omega), rootF, hf]
  simp only [if_neg hr]
  exact rootF_stable hd _ _ _ (by omega) (Nat.le_refl _)
theorem idx_found {ms : List Message} {n : Int} (h : 0 ≤ idxP (numIs n) ms) : ∃ (k : Nat) (m : Message), idxP (numIs n) ms = (k : Int) ∧ k < ms.length ∧ ms[k]? = some m ∧ m.number = n := by
  rcases idxP_cases (numIs n) ms with h1 | ⟨k, m, h1, h2, h3, h4⟩
  · omega
  · exact ⟨k, m, h1, h2, h3, by simpa [numIs] using h4⟩
theorem idx_mem {ms : List Message} {m : Message} (h : m ∈ ms) : 0 ≤ idxP (numIs m.number) ms := by
  rcases h1 : ms.findIdx? (numIs m.number) with _ | k
  · rw [List.findIdx?_eq_none_iff] at h1
    have := h1 m h
    simp [numIs] at this
  · unfold idxP; rw [h1]; simp
theorem valid_down {l : Log} (h : validLogB l = true) : down l.messages := fun m hm => by
  have h1 := valid_msgs h hm
  simp only [validMessageB, Bool.and_eq_true] at h1
  have h2 := inB_iff.1 h1.1.1.1.1.1.1.1.1.1
  have h3 := inB_iff.1 h1.1.1.1.1.2
  exact ⟨h2.1, h3.2⟩

end Go.Proofs.YtodmongmaoeknaaGreat
namespace Go.Proofs.YtodmongmaoeknaaGreat
open Go Go.RowKit Go.BigFrame
attribute [local go_sem] Calm.cell Calm.frozen
set_option linter.unusedVariables false
set_option linter.unusedSimpArgs false

def answersP (n : Int) (m : Message) : Bool := decide (m.reply = n)
def hasNum (l : Log) (n : Int) : Bool := decide (0 ≤ idxP (numIs n) l.messages)
def answersOk (l : Log) (n : Int) : Bool := validLogB l && hasNum l n
def answersL (l : Log) (n : Int) : List Int := if answersOk l n then pickNums (answersP n) l.messages else []
theorem answersL_yes {l : Log} {n : Int} (h : answersOk l n = true) : answersL l n = pickNums (answersP n) l.messages := by simp [answersL, h]
theorem answersL_no {l : Log} {n : Int} (h : answersOk l n = false) : answersL l n = [] := by simp [answersL, h]

theorem answersL_len (l : Log) (n : Int) : (answersL l n).length ≤ l.messages.length := by
  unfold answersL; split
  · exact pickNums_len _ _
  · simp

end Go.Proofs.YtodmongmaoeknaaGreat
