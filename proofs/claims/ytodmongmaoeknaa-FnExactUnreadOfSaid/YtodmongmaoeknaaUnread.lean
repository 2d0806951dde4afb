/- What a member has not read: the program and the reference. -/
import Derived.Test.YtodmongmaoeknaaPres
import Derived.Test.YtodmongmaoeknaaFLogs
import Derived.Test.YtodmongmaoeknaaSMsg
import Derived.Test.YtodmongmaoeknaaRGround
namespace Go.Proofs.Ytodmongmaoeknaa
open Go Go.RowKit Go.BigFrame
attribute [local go_sem] Calm.cell Calm.frozen
set_option linter.unusedVariables false
set_option linter.unusedSimpArgs false

def markIs (n : Int) (m : Mark) : Bool := decide (m.member = n)
def markV (p : Presence) (n : Int) : Int := match p.marks.find? (markIs n) with | some m => m.upto | none => 0
theorem markV_hit {p : Presence} {n : Int} {k : Nat} {x : Mark} (h : ∀ j y, j < k → p.marks[j]? = some y → markIs n y = false) (hx : p.marks[k]? = some x) (hp : markIs n x = true) : markV p n = x.upto := by
  have : p.marks.find? (markIs n) = some x := by
    rw [List.find?_eq_some_iff_append]
    obtain ⟨hk, rfl⟩ := List.getElem?_eq_some_iff.1 hx
    refine ⟨hp, p.marks.take k, p.marks.drop (k + 1), ?_, fun a ha => ?_⟩
    · rw [← List.drop_eq_getElem_cons hk, List.take_append_drop]
    · obtain ⟨j, hj⟩ := List.getElem?_of_mem ha
      have hjl := (List.getElem?_eq_some_iff.1 hj).1
      rw [List.length_take] at hjl
      rw [List.getElem?_take, if_pos (by omega)] at hj
      simpa using h j a (by omega) hj
  simp [markV, this]
theorem markV_miss {p : Presence} {n : Int} (h : ∀ j y, j < p.marks.length → p.marks[j]? = some y → markIs n y = false) : markV p n = 0 := by
  have : p.marks.find? (markIs n) = none := by
    rw [List.find?_eq_none]
    intro x hx
    obtain ⟨j, hj⟩ := List.getElem?_of_mem hx
    simpa using h j x (List.getElem?_eq_some_iff.1 hj).1 hj
  simp [markV, this]
def unreadP (p : Presence) (n : Int) (m : Message) : Bool := decide (markV p n < m.number) && !m.gone && !decide (m.sender = n)
def unreadOk (p : Presence) (l : Log) (n : Int) : Bool := validPresB p && validLogB l && inB n 1 1000
def unreadL (p : Presence) (l : Log) (n : Int) : List Int := if unreadOk p l n then pickNums (unreadP p n) l.messages else []
theorem unreadL_yes {p : Presence} {l : Log} {n : Int} (h : unreadOk p l n = true) : unreadL p l n = pickNums (unreadP p n) l.messages := by simp [unreadL, h]
theorem unreadL_no {p : Presence} {l : Log} {n : Int} (h : unreadOk p l n = false) : unreadL p l n = [] := by simp [unreadL, h]
theorem unreadL_len (p : Presence) (l : Log) (n : Int) : (unreadL p l n).length ≤ l.messages.length := by
  unfold unreadL; split
  · exact pickNums_len _ _
  · simp
theorem St.retMade {α : Type} {d : Dt α} {e : TypeId} {w0 w : World} {L : List Piece} {v : Value} {xs : List α} {F : List Nat} (h : St w0 w (own d e v xs F :: L)) : RetMade d e w0 xs (.returned v) w :=
  ⟨v, rfl, ⟨F, h.head, h.headN, h.headG⟩, h.below⟩
set_option maxHeartbeats 4000000 in
theorem presMark_c (p : Presence) (b o : Nat) (n : Int) (w : World) (hp : RowAt presenceD w b o [p]) :
    Calls Try.prog 50 #[.pointer (some ⟨b, o, none⟩), .int .i64 n] w fun e w' => e = .returned (.int .i64 (markV p n)) ∧ Below w.heap.size w w' := by
  obtain ⟨v0, v1, v2, h0, h1, h2, hbz, hb0, hb1, hb2⟩ := presence_at hp (Below.refl _ _) (j := 0) rfl
  simp only [Nat.zero_mul, Nat.add_zero] at hb0 hb1 hb2
  obtain ⟨A2, c2, rfl, hl2, hm2, hr2⟩ := h2
  have HA := hide hr2
  clear h0 h1 hr2 hp hb0 hb1
  go_enter Try.func50, Try.ntmps50
  go_wp2_with fail
  go_loopg [12] p.marks.length (fun gg sk wr => ∃ k : Nat, k ≤ p.marks.length ∧ p.marks.length - k ≤ gg ∧ sk = .int .i64 k ∧ Hid (∀ j y, j < k → p.marks[j]? = some y → markIs n y = false) ∧ Hid (Below w.heap.size w wr))
  case atStart => exact ⟨0, Nat.zero_le _, by omega, rfl, hide (by intro j y hj; omega), Below.refl _ _⟩
  case round =>
    obtain ⟨k, hk, hg, rfl, HT, HB⟩ := hrel
    have hb2 := cell_below HB.out hb2
    have hbr := Nat.lt_of_lt_of_le hbz HB.out.size
    by_cases hlt : k < p.marks.length
    · obtain ⟨m, hx⟩ : ∃ m, p.marks[k]? = some m := ⟨_, List.getElem?_eq_getElem hlt⟩
      rcases HA.out with hnil | ⟨q, o2, rfl, hra⟩
      · rw [hnil] at hlt; simp at hlt
      obtain ⟨hq, hc0, hc1⟩ := mark_at hra HB.out hx
      have HX := hide hx
      have hlt2 : (k : Int) < (p.marks.length : Int) := by omega
      clear hx hra
      by_cases hm : m.member = n
      · have HM := hide (show markIs n m = true by simp [markIs, hm])
        have hd : decide (m.member = n) = true := decide_eq_true hm
        have hd2 : (m.member == n) = true := by simp [hm]
        clear hm
        go_wp2_with fail
        go_ret
        exact ⟨by rw [markV_hit HT.out HX.out HM.out]; rfl, HB.out.alloc HB.out.size _⟩
      · have HM := hide (show markIs n m = false by simp [markIs, hm])
        go_wp2_with fail
        go_roundg (p.marks.length - (k + 1))
        case measure => omega
        case rel =>
          refine ⟨k + 1, by omega, by omega, by go_num, hide (fun j y hj hy => ?_), hide (HB.out.alloc HB.out.size _)⟩
          by_cases e : j = k
          · subst e; rw [HX.out] at hy; cases hy; exact HM.out
          · exact HT.out j y (by omega) hy
    · obtain rfl : k = p.marks.length := by omega
      clear HA hlt hk hg
      go_wp2_with fail
      go_ret
      exact ⟨by rw [markV_miss HT.out]; rfl, HB.out⟩
set_option maxHeartbeats 4000000 in
theorem l05Mark_c (p : Presence) (b o : Nat) (n : Int) (w : World) (hp : RowAt presenceD w b o [p]) :
    Calls Try.prog 43 #[.pointer (some ⟨b, o, none⟩), .int .i64 n] w fun e w' => e = .returned (.int .i64 (markV p n)) ∧ Below w.heap.size w w' := by
  obtain ⟨v0, v1, v2, h0, h1, h2, hbz, hb0, hb1, hb2⟩ := presence_at hp (Below.refl _ _) (j := 0) rfl
  simp only [Nat.zero_mul, Nat.add_zero] at hb0 hb1 hb2
  obtain ⟨A2, c2, rfl, hl2, hm2, hr2⟩ := h2
  have HA := hide hr2
  clear h0 h1 hr2 hp hb0 hb1
  go_enter Try.func43, Try.ntmps43
  go_wp2_with fail
  go_loopg [11] p.marks.length (fun gg sk wr => ∃ k : Nat, k ≤ p.marks.length ∧ p.marks.length - k ≤ gg ∧ sk = .int .i64 k ∧ Hid (∀ j y, j < k → p.marks[j]? = some y → markIs n y = false) ∧ Hid (Below w.heap.size w wr))
  case atStart => exact ⟨0, Nat.zero_le _, by omega, rfl, hide (by intro j y hj; omega), Below.refl _ _⟩
  case round =>
    obtain ⟨k, hk, hg, rfl, HT, HB⟩ := hrel
    have hb2 := cell_below HB.out hb2
    have hbr := Nat.lt_of_lt_of_le hbz HB.out.size
    by_cases hlt : k < p.marks.length
    · obtain ⟨m, hx⟩ : ∃ m, p.marks[k]? = some m := ⟨_, List.getElem?_eq_getElem hlt⟩
      rcases HA.out with hnil | ⟨q, o2, rfl, hra⟩
      · rw [hnil] at hlt; simp at hlt
      obtain ⟨hq, hc0, hc1⟩ := mark_at hra HB.out hx
      have HX := hide hx
      have hlt2 : (k : Int) < (p.marks.length : Int) := by omega
      clear hx hra
      by_cases hm : m.member = n
      · have HM := hide (show markIs n m = true by simp [markIs, hm])
        have hd : decide (m.member = n) = true := decide_eq_true hm
        have hd2 : (m.member == n) = true := by simp [hm]
        clear hm
        go_wp2_with fail
        go_ret
        exact ⟨by rw [markV_hit HT.out HX.out HM.out]; rfl, HB.out⟩
      · have HM := hide (show markIs n m = false by simp [markIs, hm])
        go_wp2_with fail
        go_roundg (p.marks.length - (k + 1))
        case measure => omega
        case rel =>
          refine ⟨k + 1, by omega, by omega, by go_num, hide (fun j y hj hy => ?_), hide (HB.out)⟩
          by_cases e : j = k
          · subst e; rw [HX.out] at hy; cases hy; exact HM.out
          · exact HT.out j y (by omega) hy
    · obtain rfl : k = p.marks.length := by omega
      clear HA hlt hk hg
      go_wp2_with fail
      go_ret
      exact ⟨by rw [markV_miss HT.out]; rfl, HB.out⟩
set_option maxHeartbeats 4000000 in
theorem presUnread_c (p : Presence) (m : Message) (v7 : Value) (b o : Nat) (n : Int) (w : World) (hp : RowAt presenceD w b o [p]) :
    Calls Try.prog 32 #[.pointer (some ⟨b, o, none⟩), .agg (msgArr m v7), .int .i64 n] w fun e w' => e = .returned (.bool (unreadP p n m)) ∧ Below w.heap.size w w' := by
  show Calls Try.prog 32 #[.pointer (some ⟨b, o, none⟩), .agg #[.int .i64 m.number, .int .i64 m.sender, .int .i64 m.at_, .string m.text, .int .i64 m.edits, .bool m.gone, .int .i64 m.reply, v7], .int .i64 n] w _
  have HP := hide hp
  clear hp
  go_enter Try.func32, Try.ntmps32
  by_cases h1 : markV p n < m.number
  · by_cases h2 : m.gone = true
    · have hr := hide (show unreadP p n m = false by simp [unreadP, h2])
      go_wp2_with fail
      (refine wp_region_calm (by kernel_rfl) (by kernel_rfl) ?_; (repeat (first | go_big_quiet_skip | (go_big_quiet_want; go_big_quiet_op; (first | go_big_quiet_on | (apply Exists.intro; refine ⟨fun ic => ?_, ?_⟩; (focus ((go_at_call 50; refine (presMark_c p _ _ n _ (HP.out.below ic.boxed)).mono ?_; rintro e w2 ⟨rfl, hb⟩; exact ⟨rfl, Calm.next _ hb⟩); done)); go_big_quiet_on))))); refine wpQuiet_nil ?_; intro wq hwq; obtain ⟨iq, hwe⟩ := hwq; subst hwe)
      go_wp2_with fail
      go_ret
      exact ⟨by rw [hr.out]; rfl, iq.boxed⟩
    · have h2 : m.gone = false := by simpa using h2
      by_cases h3 : m.sender = n
      · have hr := hide (show unreadP p n m = false by simp [unreadP, h3])
        have h4 : (m.sender != n) = false := by simp [h3]
        clear h3
        go_wp2_with fail
        (refine wp_region_calm (by kernel_rfl) (by kernel_rfl) ?_; (repeat (first | go_big_quiet_skip | (go_big_quiet_want; go_big_quiet_op; (first | go_big_quiet_on | (apply Exists.intro; refine ⟨fun ic => ?_, ?_⟩; (focus ((go_at_call 50; refine (presMark_c p _ _ n _ (HP.out.below ic.boxed)).mono ?_; rintro e w2 ⟨rfl, hb⟩; exact ⟨rfl, Calm.next _ hb⟩); done)); go_big_quiet_on))))); refine wpQuiet_nil ?_; intro wq hwq; obtain ⟨iq, hwe⟩ := hwq; subst hwe)
        go_wp2_with fail
        go_ret
        exact ⟨by rw [hr.out]; rfl, iq.boxed⟩
      · have hr := hide (show unreadP p n m = true by simp [unreadP, h1, h2, h3])
        have h4 : (m.sender != n) = true := by simp [h3]
        go_wp2_with fail
        (refine wp_region_calm (by kernel_rfl) (by kernel_rfl) ?_; (repeat (first | go_big_quiet_skip | (go_big_quiet_want; go_big_quiet_op; (first | go_big_quiet_on | (apply Exists.intro; refine ⟨fun ic => ?_, ?_⟩; (focus ((go_at_call 50; refine (presMark_c p _ _ n _ (HP.out.below ic.boxed)).mono ?_; rintro e w2 ⟨rfl, hb⟩; exact ⟨rfl, Calm.next _ hb⟩); done)); go_big_quiet_on))))); refine wpQuiet_nil ?_; intro wq hwq; obtain ⟨iq, hwe⟩ := hwq; subst hwe)
        go_wp2_with fail
        go_ret
        exact ⟨by rw [hr.out]; rfl, iq.boxed⟩
  · have hr := hide (show unreadP p n m = false by simp [unreadP, h1])
    have hd1 : decide (markV p n < m.number) = false := decide_eq_false h1
    clear h1
    go_wp2_with fail
    (refine wp_region_calm (by kernel_rfl) (by kernel_rfl) ?_; (repeat (first | go_big_quiet_skip | (go_big_quiet_want; go_big_quiet_op; (first | go_big_quiet_on | (apply Exists.intro; refine ⟨fun ic => ?_, ?_⟩; (focus ((go_at_call 50; refine (presMark_c p _ _ n _ (HP.out.below ic.boxed)).mono ?_; rintro e w2 ⟨rfl, hb⟩; exact ⟨rfl, Calm.next _ hb⟩); done)); go_big_quiet_on))))); refine wpQuiet_nil ?_; intro wq hwq; obtain ⟨iq, hwe⟩ := hwq; subst hwe)
    go_wp2_with fail
    go_ret
    exact ⟨by rw [hr.out]; rfl, iq.boxed⟩
set_option maxHeartbeats 1000000 in
theorem unreadOf1_c (p : Presence) (m : Message) (v7 : Value) (b1 b2 : Nat) (n : Int) (W : World) (hp : RowAt presenceD W b1 0 [p]) (h2 : W.cell? ⟨b2, 0, none⟩ = some (.int .i64 n)) :
    Calls Try.prog 31 (#[.agg (msgArr m v7)] ++ #[.pointer (some ⟨b1, 0, none⟩), .pointer (some ⟨b2, 0, none⟩)]) W fun e W' => e = .returned (.bool (unreadP p n m)) ∧ Below W.heap.size W W' := by
  show Calls Try.prog 31 #[.agg #[.int .i64 m.number, .int .i64 m.sender, .int .i64 m.at_, .string m.text, .int .i64 m.edits, .bool m.gone, .int .i64 m.reply, v7], .pointer (some ⟨b1, 0, none⟩), .pointer (some ⟨b2, 0, none⟩)] W _
  have hl2 := World.block_lt_of_cell? W _ h2
  simp only [] at hl2
  have HP := hide hp
  have HBX := hide ((Below.refl W.heap.size W).alloc (Nat.le_refl _) (.cells #[.int .i64 m.number, .int .i64 m.sender, .int .i64 m.at_, .string m.text, .int .i64 m.edits, .bool m.gone, .int .i64 m.reply, v7] 66))
  clear hp
  go_enter Try.func31, Try.ntmps31
  go_wp2_with (
    go_at_call 32
    refine (presUnread_c p m v7 _ _ n _ (HP.out.below HBX.out)).mono ?_
    rintro e w2 ⟨rfl, hb⟩
    have HB2 := hide (below_step HBX.out hb)
    clear hb)
  go_ret
  exact ⟨rfl, HB2.out⟩
set_option maxHeartbeats 4000000 in
set_option maxRecDepth 100000 in
theorem unreadOf_c (p : Presence) (l : Log) (n : Int) (v0 v1 v2 v3 : Value) (w : World) (h0 : SliceK leaseD w v0 p.here) (h1 : SliceK leaseD w v1 p.typing) (h2 : SliceK markD w v2 p.marks) (h3 : SliceK messageD w v3 l.messages) (ht : okTexts l.messages) :
    Calls Try.prog 9 #[.agg #[v0, v1, v2], .agg #[.int .i64 l.next, v3], .int .i64 n] w (RetMade2 intD 2 w (unreadL p l n) (unreadOk p l n)) := by
  obtain ⟨A0, c0, rfl⟩ := h0.shape
  obtain ⟨A1, c1, rfl⟩ := h1.shape
  obtain ⟨A2, c2, rfl⟩ := h2.shape
  obtain ⟨A, c, rfl⟩ := h3.shape
  have H0 := hide h0
  have H1 := hide h1
  have H2 := hide h2
  have H3 := hide h3
  have HT := hide ht
  clear h0 h1 h2 h3 ht
  have HS0 := hide (show St w (((w.alloc (.cells #[.slice A0 p.here.length c0, .slice A1 p.typing.length c1, .slice A2 p.marks.length c2] 37)).alloc (.cells #[.int .i64 l.next, .slice A l.messages.length c] 41)).alloc (.cells #[.int .i64 n] 2)) [blk (w.heap.size + 1 + 1) #[.int .i64 n] 2, blk (w.heap.size + 1) #[.int .i64 l.next, .slice A l.messages.length c] 41, blk w.heap.size #[.slice A0 p.here.length c0, .slice A1 p.typing.length c1, .slice A2 p.marks.length c2] 37] by (repeat (first | (with_reducible exact St.start w) | (with_reducible apply St.alloc) | (with_reducible apply St.set0) | (with_reducible apply St.set1) | (with_reducible apply St.set2) | (with_reducible apply St.set3) | (with_reducible apply St.drew) | (with_reducible apply St.drewN))); all_goals (try (first | rfl | (simp; done))))
  (try clear x0 x1 x2 xz y0 y1 yz z0 zz)
  obtain ⟨x0, x1, x2⟩ := (St.at2 HS0.out).c3
  have xz := (St.at2 HS0.out).lt
  obtain ⟨y0, y1⟩ := (St.at1 HS0.out).c2
  have yz := (St.at1 HS0.out).lt
  have z0 := (St.at0 HS0.out).c1
  have zz := (St.at0 HS0.out).lt
  go_enter Try.func9, Try.ntmps9
  by_cases hp : validPresB p = true
  · have HP := hide hp
    clear hp
    by_cases hv : validLogB l = true
    · have HV := hide hv
      have h40 := validLog_40 hv
      clear hv
      by_cases hn : inB n 1 1000 = true
      · have HN := hide hn
        have HOK := hide (show unreadOk p l n = true by simp [unreadOk, HP.out, HV.out, hn])
        have eg := enters_of Try.func31 (by kernel_rfl) rfl
        clear hn
        go_wp2_with (first
          | (go_at_call 27
             refine (validPresence_c p _ _ _ _ (H0.out.below HS0.out.below) (H1.out.below HS0.out.below) (H2.out.below HS0.out.below)).mono ?_
             rintro e w1 ⟨rfl, hb⟩
             rw [HP.out]
             have HS1 := hide (HS0.out.by hb)
             (try clear x0 x1 x2 xz y0 y1 yz z0 zz)
             obtain ⟨x0, x1, x2⟩ := (St.at2 HS1.out).c3
             have xz := (St.at2 HS1.out).lt
             obtain ⟨y0, y1⟩ := (St.at1 HS1.out).c2
             have yz := (St.at1 HS1.out).lt
             have z0 := (St.at0 HS1.out).c1
             have zz := (St.at0 HS1.out).lt
             clear hb)
          | (go_at_call 28
             refine (validLog_c l _ _ (H3.out.below HS1.out.below) HT.out).mono ?_
             rintro e w2 ⟨rfl, hb⟩
             rw [HV.out]
             have HS2 := hide (HS1.out.by hb)
             (try clear x0 x1 x2 xz y0 y1 yz z0 zz)
             obtain ⟨x0, x1, x2⟩ := (St.at2 HS2.out).c3
             have xz := (St.at2 HS2.out).lt
             obtain ⟨y0, y1⟩ := (St.at1 HS2.out).c2
             have yz := (St.at1 HS2.out).lt
             have z0 := (St.at0 HS2.out).c1
             have zz := (St.at0 HS2.out).lt
             clear hb)
          | (go_at_call 29; refine (isMember_c _ _).mono ?_; rintro e w' ⟨rfl, rfl⟩; rw [HN.out])
          | (go_at_call 30
             refine (numbers_c _ _ (unreadP p n) l _ _ _ (Blk.rowAt (d := logD) (x := l) (St.at1 HS2.out) (log_K_mk (H3.out.below HS2.out.below)) rfl) h40 eg (fun m v7 W _ hbW h7 => unreadOf1_c p m v7 _ _ n W (RowAt.below (Blk.rowAt (d := presenceD) (x := p) (St.at2 HS2.out) (presence_K_mk (H0.out.below HS2.out.below) (H1.out.below HS2.out.below) (H2.out.below HS2.out.below)) rfl) hbW) (cell_below hbW (St.at0 HS2.out).c1))).mono ?_
             rintro e w3 ⟨v, rfl, hmade, hb3⟩
             obtain ⟨A3, c3, rfl⟩ := hmade.shape
             have HMD := hide hmade
             have HB3 := hide hb3
             clear hmade hb3))
        go_ret2
        rw [unreadL_yes HOK.out, HOK.out]
        exact ⟨_, rfl, HMD.out.lower HS2.out.size, below_step HS2.out.below HB3.out⟩
      · have HN := hide (show inB n 1 1000 = false by simpa using hn)
        have HOK := hide (show unreadOk p l n = false by simp [unreadOk, HN.out])
        clear hn
        go_wp2_with (first
          | (go_at_call 27
             refine (validPresence_c p _ _ _ _ (H0.out.below HS0.out.below) (H1.out.below HS0.out.below) (H2.out.below HS0.out.below)).mono ?_
             rintro e w1 ⟨rfl, hb⟩
             rw [HP.out]
             have HS1 := hide (HS0.out.by hb)
             (try clear x0 x1 x2 xz y0 y1 yz z0 zz)
             obtain ⟨x0, x1, x2⟩ := (St.at2 HS1.out).c3
             have xz := (St.at2 HS1.out).lt
             obtain ⟨y0, y1⟩ := (St.at1 HS1.out).c2
             have yz := (St.at1 HS1.out).lt
             have z0 := (St.at0 HS1.out).c1
             have zz := (St.at0 HS1.out).lt
             clear hb)
          | (go_at_call 28
             refine (validLog_c l _ _ (H3.out.below HS1.out.below) HT.out).mono ?_
             rintro e w2 ⟨rfl, hb⟩
             rw [HV.out]
             have HS2 := hide (HS1.out.by hb)
             (try clear x0 x1 x2 xz y0 y1 yz z0 zz)
             obtain ⟨x0, x1, x2⟩ := (St.at2 HS2.out).c3
             have xz := (St.at2 HS2.out).lt
             obtain ⟨y0, y1⟩ := (St.at1 HS2.out).c2
             have yz := (St.at1 HS2.out).lt
             have z0 := (St.at0 HS2.out).c1
             have zz := (St.at0 HS2.out).lt
             clear hb)
          | (go_at_call 29; refine (isMember_c _ _).mono ?_; rintro e w' ⟨rfl, rfl⟩; rw [HN.out]))
        go_ret2
        rw [unreadL_no HOK.out, HOK.out]
        exact ⟨_, rfl, Made.none _ _, HS2.out.below⟩
    · have HV := hide (show validLogB l = false by simpa using hv)
      have HOK := hide (show unreadOk p l n = false by simp [unreadOk, HV.out])
      clear hv
      go_wp2_with (first
        | (go_at_call 27
           refine (validPresence_c p _ _ _ _ (H0.out.below HS0.out.below) (H1.out.below HS0.out.below) (H2.out.below HS0.out.below)).mono ?_
           rintro e w1 ⟨rfl, hb⟩
           rw [HP.out]
           have HS1 := hide (HS0.out.by hb)
           (try clear x0 x1 x2 xz y0 y1 yz z0 zz)
           obtain ⟨x0, x1, x2⟩ := (St.at2 HS1.out).c3
           have xz := (St.at2 HS1.out).lt
           obtain ⟨y0, y1⟩ := (St.at1 HS1.out).c2
           have yz := (St.at1 HS1.out).lt
           have z0 := (St.at0 HS1.out).c1
           have zz := (St.at0 HS1.out).lt
           clear hb)
        | (go_at_call 28
           refine (validLog_c l _ _ (H3.out.below HS1.out.below) HT.out).mono ?_
           rintro e w2 ⟨rfl, hb⟩
           rw [HV.out]
           have HS2 := hide (HS1.out.by hb)
           (try clear x0 x1 x2 xz y0 y1 yz z0 zz)
           obtain ⟨x0, x1, x2⟩ := (St.at2 HS2.out).c3
           have xz := (St.at2 HS2.out).lt
           obtain ⟨y0, y1⟩ := (St.at1 HS2.out).c2
           have yz := (St.at1 HS2.out).lt
           have z0 := (St.at0 HS2.out).c1
           have zz := (St.at0 HS2.out).lt
           clear hb))
      go_ret2
      rw [unreadL_no HOK.out, HOK.out]
      exact ⟨_, rfl, Made.none _ _, HS2.out.below⟩
  · have HP := hide (show validPresB p = false by simpa using hp)
    have HOK := hide (show unreadOk p l n = false by simp [unreadOk, HP.out])
    clear hp
    go_wp2_with (first
      | (go_at_call 27
         refine (validPresence_c p _ _ _ _ (H0.out.below HS0.out.below) (H1.out.below HS0.out.below) (H2.out.below HS0.out.below)).mono ?_
         rintro e w1 ⟨rfl, hb⟩
         rw [HP.out]
         have HS1 := hide (HS0.out.by hb)
         (try clear x0 x1 x2 xz y0 y1 yz z0 zz)
         obtain ⟨x0, x1, x2⟩ := (St.at2 HS1.out).c3
         have xz := (St.at2 HS1.out).lt
         obtain ⟨y0, y1⟩ := (St.at1 HS1.out).c2
         have yz := (St.at1 HS1.out).lt
         have z0 := (St.at0 HS1.out).c1
         have zz := (St.at0 HS1.out).lt
         clear hb))
    go_ret2
    rw [unreadL_no HOK.out, HOK.out]
    exact ⟨_, rfl, Made.none _ _, HS1.out.below⟩
set_option maxHeartbeats 8000000 in
set_option maxRecDepth 100000 in
theorem l05Unread_c (p : Presence) (l : Log) (b o b2 o2 : Nat) (n : Int) (w : World) (hp : RowAt presenceD w b o [p]) (hl : RowAt logD w b2 o2 [l]) (h40 : l.messages.length ≤ 40) :
    Calls Try.prog 23 #[.pointer (some ⟨b, o, none⟩), .pointer (some ⟨b2, o2, none⟩), .int .i64 n] w (RetMade intD 2 w (pickNums (unreadP p n) l.messages)) := by
  obtain ⟨v1, h1, hbz, hb0, hb1⟩ := log_at hl (Below.refl _ _) (j := 0) rfl
  simp only [Nat.zero_mul, Nat.add_zero] at hb0 hb1
  obtain ⟨A, c, rfl, hle, hm, hra⟩ := h1
  have HA := hide hra
  have HP := hide hp
  have HS0 := hide (show St w (w.alloc (.cells #[] 2)) [own intD 2 (.slice (some ⟨w.heap.size, 0, none⟩) 0 0) [] [w.heap.size]] from St.empty (by (repeat (first | (with_reducible exact St.start w) | (with_reducible apply St.alloc) | (with_reducible apply St.set0) | (with_reducible apply St.set1) | (with_reducible apply St.set2) | (with_reducible apply St.set3) | (with_reducible apply St.drew) | (with_reducible apply St.drewN))); all_goals (try (first | rfl | (simp; done)))))
  clear hra hp hl
  go_enter Try.func23, Try.ntmps23
  go_wp2_with (
    go_at_call 43
    refine (l05Mark_c p _ _ n _ (HP.out.below HS0.out.below)).mono ?_
    rintro e w1 ⟨rfl, hb⟩
    have HS1 := hide (HS0.out.by hb)
    have hb0 := cell_below HS1.out.below hb0
    have hb1 := cell_below HS1.out.below hb1
    have hbz := Nat.lt_of_lt_of_le hbz HS1.out.size
    clear hb)
  go_loopg [7, 20] l.messages.length (fun gg s7 s20 wr => ∃ (k : Nat) (A9 : Option Addr) (c9 : Nat) (F9 : List Nat), k ≤ l.messages.length ∧ l.messages.length - k ≤ gg ∧ s7 = .slice A9 (pickNums (unreadP p n) (l.messages.take k)).length c9 ∧ s20 = .int .i64 k ∧ Hid (St w wr [own intD 2 (.slice A9 (pickNums (unreadP p n) (l.messages.take k)).length c9) (pickNums (unreadP p n) (l.messages.take k)) F9]))
  case atStart => exact ⟨0, some ⟨w.heap.size, 0, none⟩, 0, [w.heap.size], Nat.zero_le _, by omega, rfl, rfl, HS1⟩
  case round =>
    obtain ⟨k, A9, c9, F9, hk, hg, rfl, rfl, HS⟩ := hrel
    have hb1 := cell_below HS.out.below (show w.cell? ⟨b2, o2 + 1, none⟩ = some (.slice A l.messages.length c) from by assumption)
    have hbz := Nat.lt_of_lt_of_le (show b2 < w.heap.size from by assumption) HS.out.size
    by_cases hlt : k < l.messages.length
    · obtain ⟨m, hx⟩ : ∃ m, l.messages[k]? = some m := ⟨_, List.getElem?_eq_getElem hlt⟩
      rcases HA.out with hnil | ⟨q, o3, rfl, hra⟩
      · rw [hnil] at hlt; simp at hlt
      obtain ⟨v7, h7, hq, hc0, hc1, hc2, hc3, hc4, hc5, hc6, hc7⟩ := message_at hra HS.out.below hx
      obtain ⟨A7, c7, rfl⟩ := h7.shape
      have HX := hide hx
      have hlt2 : (k : Int) < (l.messages.length : Int) := by omega
      have hpl : (pickNums (unreadP p n) (l.messages.take k)).length < 1048576 := by have := pickNums_len (unreadP p n) (l.messages.take k); simp at this; omega
      clear hx hra HA h7
      by_cases h1 : markV p n < m.number
      · by_cases h2 : m.gone = true
        · have HPM := hide (show unreadP p n m = false by simp [unreadP, h2])
          skip
          go_wp2_with fail
          go_roundg (l.messages.length - (k + 1))
          case measure => omega
          case rel =>
            refine ⟨k + 1, A9, c9, F9, by omega, by omega, by first | rfl | (rw [pickNums_no HX.out HPM.out]), by go_num, hide ?_⟩
            rw [pickNums_no HX.out HPM.out]
            exact HS.out.by ((Below.refl _ _).alloc (Nat.le_refl _) _)
        · have h2 : m.gone = false := by simpa using h2
          by_cases h3 : m.sender = n
          · have HPM := hide (show unreadP p n m = false by simp [unreadP, h3])
            have h4 : (m.sender != n) = false := (by simp [h3]); clear h3
            go_wp2_with fail
            go_roundg (l.messages.length - (k + 1))
            case measure => omega
            case rel =>
              refine ⟨k + 1, A9, c9, F9, by omega, by omega, by first | rfl | (rw [pickNums_no HX.out HPM.out]), by go_num, hide ?_⟩
              rw [pickNums_no HX.out HPM.out]
              exact HS.out.by ((Below.refl _ _).alloc (Nat.le_refl _) _)
          · have HPM := hide (show unreadP p n m = true by simp [unreadP, h1, h2, h3])
            have h4 : (m.sender != n) = true := by simp [h3]
            clear h3
            go_wp2_with (at_builtin
                         refine wpList_app1_st (d := intD) (w0 := w) rfl _ rfl _ _ _ rfl (.int .i64 0) 8 Try.underlying31 infoInt rfl (by omega) (by omega) (.slice A9 (pickNums (unreadP p n) (l.messages.take k)).length c9) (pickNums (unreadP p n) (l.messages.take k)) F9 rfl (wr.heap.size + 1) #[.int .i64 m.number] (show St w _ (_ :: own intD 2 (.slice A9 (pickNums (unreadP p n) (l.messages.take k)).length c9) (pickNums (unreadP p n) (l.messages.take k)) F9 :: [blk wr.heap.size #[.int .i64 m.number, .int .i64 m.sender, .int .i64 m.at_, .string m.text, .int .i64 m.edits, .bool false, .int .i64 m.reply, .slice A7 m.likes.length c7] 66]) from by (repeat (first | (with_reducible exact St.pull1 (HS.out.alloc rfl)) | (with_reducible apply St.alloc) | (with_reducible apply St.set0) | (with_reducible apply St.set1) | (with_reducible apply St.set2) | (with_reducible apply St.set3) | (with_reducible apply St.drew) | (with_reducible apply St.drewN))); all_goals (try (first | rfl | (simp; done)))) 1 rfl m.number rfl hpl ?_
                         intro g4 cap4 w4 F4 hS
                         have HS4 := hide hS
                         clear hS)
            go_roundg (l.messages.length - (k + 1))
            case measure => omega
            case rel =>
              refine ⟨k + 1, some ⟨g4, 0, none⟩, cap4, F4, by omega, by omega, by rw [pickNums_yes HX.out HPM.out]; simp, by go_num, hide ?_⟩
              rw [pickNums_yes HX.out HPM.out, List.length_append]
              exact HS4.out.drop1
      · have hd1 : decide (markV p n < m.number) = false := decide_eq_false h1
        have HPM := hide (show unreadP p n m = false by simp [unreadP, h1])
        clear h1
        go_wp2_with fail
        go_roundg (l.messages.length - (k + 1))
        case measure => omega
        case rel =>
          refine ⟨k + 1, A9, c9, F9, by omega, by omega, by first | rfl | (rw [pickNums_no HX.out HPM.out]), by go_num, hide ?_⟩
          rw [pickNums_no HX.out HPM.out]
          exact HS.out.by ((Below.refl _ _).alloc (Nat.le_refl _) _)
    · obtain rfl : k = l.messages.length := by omega
      rw [List.take_length] at HS ⊢
      clear HA hlt hk hg
      go_wp2_with fail
      go_ret
      exact HS.out.retMade
set_option maxHeartbeats 4000000 in
set_option maxRecDepth 100000 in
theorem specUnreadOf_c (p : Presence) (l : Log) (n : Int) (v0 v1 v2 v3 : Value) (w : World) (h0 : SliceK leaseD w v0 p.here) (h1 : SliceK leaseD w v1 p.typing) (h2 : SliceK markD w v2 p.marks) (h3 : SliceK messageD w v3 l.messages) (ht : okTexts l.messages) :
    Calls Try.prog 6 #[.agg #[v0, v1, v2], .agg #[.int .i64 l.next, v3], .int .i64 n] w (RetMade2 intD 2 w (unreadL p l n) (unreadOk p l n)) := by
  obtain ⟨A0, c0, rfl⟩ := h0.shape
  obtain ⟨A1, c1, rfl⟩ := h1.shape
  obtain ⟨A2, c2, rfl⟩ := h2.shape
  obtain ⟨A, c, rfl⟩ := h3.shape
  have H0 := hide h0
  have H1 := hide h1
  have H2 := hide h2
  have H3 := hide h3
  have HT := hide ht
  clear h0 h1 h2 h3 ht
  have HS0 := hide (show St w ((w.alloc (.cells #[.slice A0 p.here.length c0, .slice A1 p.typing.length c1, .slice A2 p.marks.length c2] 37)).alloc (.cells #[.int .i64 l.next, .slice A l.messages.length c] 41)) [blk (w.heap.size + 1) #[.int .i64 l.next, .slice A l.messages.length c] 41, blk w.heap.size #[.slice A0 p.here.length c0, .slice A1 p.typing.length c1, .slice A2 p.marks.length c2] 37] by (repeat (first | (with_reducible exact St.start w) | (with_reducible apply St.alloc) | (with_reducible apply St.set0) | (with_reducible apply St.set1) | (with_reducible apply St.set2) | (with_reducible apply St.set3) | (with_reducible apply St.drew) | (with_reducible apply St.drewN))); all_goals (try (first | rfl | (simp; done))))
  go_enter Try.func6, Try.ntmps6
  by_cases hp : validPresB p = true
  · have HP := hide hp
    clear hp
    by_cases hv : validLogB l = true
    · have HV := hide hv
      have h40 := validLog_40 hv
      clear hv
      by_cases hn : inB n 1 1000 = true
      · have HN := hide hn
        have HOK := hide (show unreadOk p l n = true by simp [unreadOk, HP.out, HV.out, hn])
        clear hn
        go_wp2_with (first
          | (go_at_call 20
             refine (l05Is_c p _ _ _ (Blk.rowAt (d := presenceD) (x := p) (St.at1 HS0.out) (presence_K_mk (H0.out.below HS0.out.below) (H1.out.below HS0.out.below) (H2.out.below HS0.out.below)) rfl)).mono ?_
             rintro e w1 ⟨rfl, hb⟩
             rw [HP.out]
             have HS1 := hide (HS0.out.by hb)
             clear hb)
          | (go_at_call 21
             refine (l03Is_c l _ _ _ (Blk.rowAt (d := logD) (x := l) (St.at0 HS1.out) (log_K_mk (H3.out.below HS1.out.below)) rfl) HT.out).mono ?_
             rintro e w2 ⟨rfl, hb⟩
             rw [HV.out]
             have HS2 := hide (HS1.out.by hb)
             clear hb)
          | (go_at_call 22; refine (l01Member_c _ _).mono ?_; rintro e w' ⟨rfl, rfl⟩; rw [HN.out])
          | (go_at_call 23
             refine (l05Unread_c p l _ _ _ _ n _ (Blk.rowAt (d := presenceD) (x := p) (St.at1 HS2.out) (presence_K_mk (H0.out.below HS2.out.below) (H1.out.below HS2.out.below) (H2.out.below HS2.out.below)) rfl) (Blk.rowAt (d := logD) (x := l) (St.at0 HS2.out) (log_K_mk (H3.out.below HS2.out.below)) rfl) h40).mono ?_
             rintro e w3 ⟨v, rfl, hmade, hb3⟩
             obtain ⟨A3, c3, rfl⟩ := hmade.shape
             have HMD := hide hmade
             have HB3 := hide hb3
             clear hmade hb3))
        go_ret2
        rw [unreadL_yes HOK.out, HOK.out]
        exact ⟨_, rfl, HMD.out.lower HS2.out.size, below_step HS2.out.below HB3.out⟩
      · have HN := hide (show inB n 1 1000 = false by simpa using hn)
        have HOK := hide (show unreadOk p l n = false by simp [unreadOk, HN.out])
        clear hn
        go_wp2_with (first
          | (go_at_call 20
             refine (l05Is_c p _ _ _ (Blk.rowAt (d := presenceD) (x := p) (St.at1 HS0.out) (presence_K_mk (H0.out.below HS0.out.below) (H1.out.below HS0.out.below) (H2.out.below HS0.out.below)) rfl)).mono ?_
             rintro e w1 ⟨rfl, hb⟩
             rw [HP.out]
             have HS1 := hide (HS0.out.by hb)
             clear hb)
          | (go_at_call 21
             refine (l03Is_c l _ _ _ (Blk.rowAt (d := logD) (x := l) (St.at0 HS1.out) (log_K_mk (H3.out.below HS1.out.below)) rfl) HT.out).mono ?_
             rintro e w2 ⟨rfl, hb⟩
             rw [HV.out]
             have HS2 := hide (HS1.out.by hb)
             clear hb)
          | (go_at_call 22; refine (l01Member_c _ _).mono ?_; rintro e w' ⟨rfl, rfl⟩; rw [HN.out]))
        go_ret2
        rw [unreadL_no HOK.out, HOK.out]
        exact ⟨_, rfl, Made.none _ _, HS2.out.below⟩
    · have HV := hide (show validLogB l = false by simpa using hv)
      have HOK := hide (show unreadOk p l n = false by simp [unreadOk, HV.out])
      clear hv
      go_wp2_with (first
        | (go_at_call 20
           refine (l05Is_c p _ _ _ (Blk.rowAt (d := presenceD) (x := p) (St.at1 HS0.out) (presence_K_mk (H0.out.below HS0.out.below) (H1.out.below HS0.out.below) (H2.out.below HS0.out.below)) rfl)).mono ?_
           rintro e w1 ⟨rfl, hb⟩
           rw [HP.out]
           have HS1 := hide (HS0.out.by hb)
           clear hb)
        | (go_at_call 21
           refine (l03Is_c l _ _ _ (Blk.rowAt (d := logD) (x := l) (St.at0 HS1.out) (log_K_mk (H3.out.below HS1.out.below)) rfl) HT.out).mono ?_
           rintro e w2 ⟨rfl, hb⟩
           rw [HV.out]
           have HS2 := hide (HS1.out.by hb)
           clear hb))
      go_ret2
      rw [unreadL_no HOK.out, HOK.out]
      exact ⟨_, rfl, Made.none _ _, HS2.out.below⟩
  · have HP := hide (show validPresB p = false by simpa using hp)
    have HOK := hide (show unreadOk p l n = false by simp [unreadOk, HP.out])
    clear hp
    go_wp2_with (first
      | (go_at_call 20
         refine (l05Is_c p _ _ _ (Blk.rowAt (d := presenceD) (x := p) (St.at1 HS0.out) (presence_K_mk (H0.out.below HS0.out.below) (H1.out.below HS0.out.below) (H2.out.below HS0.out.below)) rfl)).mono ?_
         rintro e w1 ⟨rfl, hb⟩
         rw [HP.out]
         have HS1 := hide (HS0.out.by hb)
         clear hb))
    go_ret2
    rw [unreadL_no HOK.out, HOK.out]
    exact ⟨_, rfl, Made.none _ _, HS1.out.below⟩
end Go.Proofs.Ytodmongmaoeknaa
