/- A message of a log is changed: the program's withMessage, for whatever changes a message. -/
import Derived.Test.YtodmongmaoeknaaGreatClone
import Derived.Test.YtodmongmaoeknaaGreatFLogs
namespace Go.Proofs.YtodmongmaoeknaaGreat
open Go Go.RowKit Go.BigFrame
attribute [local go_sem] Calm.cell Calm.frozen
set_option linter.unusedVariables false
set_option linter.unusedSimpArgs false

def noLog : Log := ⟨0, []⟩
theorem noLog_M (w : World) : logD.M w noLog [.int .i64 0, .slice none 0 0] [] := log_M_mk (x := noLog) (.inl ⟨rfl, rfl, rfl⟩)
/-- The log with another message at the place of a number. -/
def setMsg (l : Log) (k : Nat) (m : Message) : Log := { l with messages := l.messages.set k m }
def wmNew (l : Log) (n : Int) (f : Message → Message × Bool) : Log := match l.messages.find? (numIs n) with
  | none => l
  | some m => setMsg l (idxP (numIs n) l.messages).toNat (f m).1
def wmOk (l : Log) (n : Int) (f : Message → Message × Bool) : Bool := validLogB l && match l.messages.find? (numIs n) with
  | none => false
  | some m => !m.gone && (f m).2 && validLogB (wmNew l n f)
def wmL (l : Log) (n : Int) (f : Message → Message × Bool) : Log := if wmOk l n f then wmNew l n f else noLog
theorem wmNew_at {l : Log} {n : Int} {f : Message → Message × Bool} {k : Nat} {m : Message} (hk : idxP (numIs n) l.messages = (k : Int)) (hx : l.messages[k]? = some m) : wmNew l n f = setMsg l k (f m).1 := by
  simp [wmNew, (find_of_idx hk hx).1, hk]
theorem wmOk_at {l : Log} {n : Int} {f : Message → Message × Bool} {k : Nat} {m : Message} (hv : validLogB l = true) (hk : idxP (numIs n) l.messages = (k : Int)) (hx : l.messages[k]? = some m) : wmOk l n f = (!m.gone && (f m).2 && validLogB (setMsg l k (f m).1)) := by
  simp [wmOk, (find_of_idx hk hx).1, hv, wmNew_at hk hx]
theorem find_none {ms : List Message} {n : Int} (h : idxP (numIs n) ms < 0) : ms.find? (numIs n) = none := by
  rw [List.find?_eq_none]
  intro m hm hp
  have h1 := idx_mem hm
  have h2 : m.number = n := by simpa [numIs] using hp
  rw [h2] at h1; omega
theorem wmOk_none {l : Log} {n : Int} {f : Message → Message × Bool} (h : idxP (numIs n) l.messages < 0) : wmOk l n f = false := by simp [wmOk, find_none h]
theorem wmOk_bad {l : Log} {n : Int} {f : Message → Message × Bool} (h : validLogB l = false) : wmOk l n f = false := by simp [wmOk, h]
theorem wmL_no {l : Log} {n : Int} {f : Message → Message × Bool} (h : wmOk l n f = false) : wmL l n f = noLog := by simp [wmL, h]
theorem wmL_yes {l : Log} {n : Int} {f : Message → Message × Bool} {k : Nat} {m : Message} (h : wmOk l n f = true) (hk : idxP (numIs n) l.messages = (k : Int)) (hx : l.messages[k]? = some m) : wmL l n f = setMsg l k (f m).1 := by simp [wmL, h, wmNew_at hk hx]
theorem wmL_cnt (l : Log) (n : Int) (f : Message → Message × Bool) : tcntLog (wmL l n f) ≤ 1080 := by
  unfold wmL
  split
  · rename_i h
    have hv : validLogB (wmNew l n f) = true := by
      simp only [wmOk, Bool.and_eq_true] at h
      revert h
      rcases l.messages.find? (numIs n) with _ | m
      · simp
      · simp only [Bool.and_eq_true]; intro h; exact h.2.2
    exact valid_cnt hv
  · simp [tcntLog, noLog, cntAll]

/-- What a function value does with a message of a row. -/
def Turns (g : Nat) (caps : Array Value) (f : Message → Message × Bool) (w : World) : Prop :=
  ∀ (ms : List Message) (k : Nat) (m : Message) (b cap : Nat) (F : List Nat) (W : World), Below w.heap.size w W → SliceM messageD 82 W (.slice (some ⟨b, 0, none⟩) ms.length cap) ms F → F.Nodup → (∀ x ∈ F, w.heap.size ≤ x) → ms[k]? = some m → validMessageB m = true →
    Calls Tryz.prog g (#[.pointer (some ⟨b, k * 8, none⟩)] ++ caps) W fun e W' => e = .returned (.bool (f m).2) ∧
      ∃ F', SliceM messageD 82 W' (.slice (some ⟨b, 0, none⟩) ms.length cap) (ms.set k (f m).1) F' ∧ F'.Nodup ∧ (∀ x ∈ F', x ∈ F ∨ W.heap.size ≤ x) ∧ Chg F W W'

set_option maxHeartbeats 8000000 in
set_option maxRecDepth 100000 in
theorem withMessage_c (g : Nat) (caps : Array Value) (f : Message → Message × Bool) (l : Log) (v1 : Value) (n : Int) (w : World) (h1 : SliceK messageD w v1 l.messages) (ht : okTexts l.messages) (hft : ∀ m ∈ l.messages, (f m).1.text.size ≤ 9223372036854775807)
    (eg : ∀ args w, (callFunc g args).run Tryz.prog w = .ok (.enter g args) w) (hu : Turns g caps f w) :
    Calls Tryz.prog 86 #[.agg #[.int .i64 l.next, v1], .int .i64 n, .func (.func g) #[] caps] w (RetElem2 logD w (wmL l n f) (wmOk l n f)) := by
  obtain ⟨A, c, rfl⟩ := h1.shape
  have H1 := hide h1
  have HT := hide ht
  have HTU := hide hu
  have HFT := hide hft
  clear h1 ht hu hft
  have HW := hide (((Below.refl w.heap.size w).alloc (Nat.le_refl _) (.cells #[.int .i64 l.next, .slice A l.messages.length c] 31)).alloc (by simp) (.cells #[.int .i64 0, .slice none 0 0] 31))
  have HZB := hide (show ((w.alloc (.cells #[.int .i64 l.next, .slice A l.messages.length c] 31)).alloc (.cells #[.int .i64 0, .slice none 0 0] 31)).heap[w.heap.size + 1]? = some (.cells #[.int .i64 0, .slice none 0 0] 31 (0, 0)) by
    have := alloc_new (w.alloc (.cells #[.int .i64 l.next, .slice A l.messages.length c] 31)) (.cells #[.int .i64 0, .slice none 0 0] 31)
    simpa using this)
  by_cases hv : validLogB l = true
  · have HV := hide hv
    have HFEW := hide (fewL_of hv)
    have HVMS := hide (fun m (hm : m ∈ l.messages) => valid_msgs hv hm)
    clear hv
    by_cases hn : 0 ≤ idxP (numIs n) l.messages
    · obtain ⟨k, m, hk, hlk, hx, hmn⟩ := idx_found hn
      have hlt2 : (k : Int) < (l.messages.length : Int) := by omega
      have HX := hide hx
      have HVM := hide (HVMS.out m (List.mem_of_getElem? hx))
      have HOKE := hide (wmOk_at (f := f) HV.out hk hx)
      have HT2 := hide (show okTexts (setMsg l k (f m).1).messages from fun y hy => by
        rcases List.mem_or_eq_of_mem_set hy with h | h
        · exact HT.out y h
        · rw [h]; exact HFT.out m (List.mem_of_getElem? hx))
      clear hn hx hmn
      by_cases hgo : m.gone = true
      · have HOK := hide (show wmOk l n f = false by rw [HOKE.out, hgo]; rfl)
        go_enter Tryz.func86, Tryz.ntmps86
        go_wp2_with (first
          | (go_at_call 37
             refine (validLog_c l _ _ (H1.out.below HW.out) HT.out).mono ?_
             rintro e w1 ⟨rfl, hb⟩
             rw [HV.out]
             have HB1 := hide hb
             have hz1 := hb.size
             simp only [World.size_alloc] at hz1
             have b0 : w1.cell? ⟨w.heap.size, 0, none⟩ = some (.int .i64 l.next) := cell_below hb (by go_simp)
             have b1 : w1.cell? ⟨w.heap.size, 1, none⟩ = some (.slice A l.messages.length c) := cell_below hb (by go_simp)
             have hbl := (hb.block _ (by simp)).trans HZB.out
             have HBL1 := hide hbl
             have p0 : w1.cell? ⟨w.heap.size + 1, 0, none⟩ = some (.int .i64 0) := by rw [cell_block hbl]; rfl
             have p1 : w1.cell? ⟨w.heap.size + 1, 1, none⟩ = some (.slice none 0 0) := by rw [cell_block hbl]; rfl
             have pf : ∀ o, w1.frozen? ⟨w.heap.size + 1, o, none⟩ = false := fun o => frozen_block hbl
             have HE := hide (below_step HW.out hb)
             clear hb hbl)
          | (go_at_call 38
             refine (cloneLog_c l _ _ (H1.out.below (below_step HW.out HB1.out)) HFEW.out).mono ?_
             rintro e w2 ⟨cs2, F2, rfl, hM2, hF2, hge2, hb⟩
             obtain ⟨v2, F2', rfl, rfl, hS2⟩ := log_M hM2
             obtain ⟨A2, c2, rfl⟩ := hS2.toK.shape
             have hz2 := hb.size
             have HB2 := hide (HB1.out.trans (hb.mono HB1.out.size))
             have HS2 := hide (And.intro hS2 (And.intro hF2 (show ∀ x ∈ F2, w.heap.size + 2 ≤ x from fun x hx => (by have := hge2 x hx; omega))))
             have hbl := (HB2.out.block _ (by simp)).trans HZB.out
             have HBL2 := hide hbl
             clear hM2 hF2 hge2 hS2 hb hbl p0 p1 pf b0 b1)
          | (go_at_call 98
             refine (at_c l _ _ n _ (RowAt.box (d := logD) (x := l) (log_K_mk HS2.out.1.toK) (arr := #[.int .i64 l.next, .slice A2 l.messages.length c2]) rfl 31)).mono ?_
             rintro e w3 ⟨rfl, hb⟩
             try rw [hk]
             have hz3 := hb.size
             simp only [World.size_alloc] at hz3
             have HB3 := hide ((HB2.out.trans (((Below.refl w2.heap.size w2).alloc (Nat.le_refl _) _).mono HB2.out.size)).trans (hb.mono (by have := HB2.out.size; simp at this ⊢; omega)))
             have h23 : Below w2.heap.size w2 w3 := ((Below.refl w2.heap.size w2).alloc (Nat.le_refl _) _).trans (hb.mono (by simp))
             have s0 : w3.cell? ⟨w2.heap.size, 0, none⟩ = some (.int .i64 l.next) := cell_below hb (by simp)
             have s1 : w3.cell? ⟨w2.heap.size, 1, none⟩ = some (.slice A2 l.messages.length c2) := cell_below hb (by simp)
             have HS3 := hide (And.intro (HS2.out.1.by h23) HS2.out.2)
             have HN8 := hide (show w2.heap.size ∉ F2 from fun h => (by have := HS2.out.1.lt _ h; omega))
             have hbl := (h23.block _ (by omega)).trans HBL2.out
             have HBL3 := hide hbl
             have p0 : w3.cell? ⟨w.heap.size + 1, 0, none⟩ = some (.int .i64 0) := by rw [cell_block hbl]; rfl
             have p1 : w3.cell? ⟨w.heap.size + 1, 1, none⟩ = some (.slice none 0 0) := by rw [cell_block hbl]; rfl
             have pf : ∀ o, w3.frozen? ⟨w.heap.size + 1, o, none⟩ = false := fun o => frozen_block hbl
             clear HE
             have HE := hide (below_step HW.out HB3.out)
             clear hb h23 hbl
             (obtain ⟨hS, hF, hge⟩ := HS3.out; rcases hS.row with ⟨_, hnil, _⟩ | ⟨b9, cap9, cur9, css9, Fs9, hveq, hrow, rfl⟩; (focus (rw [hnil] at hlk; simp at hlk)); simp only [Value.slice.injEq, true_and] at hveq; obtain ⟨rfl, rfl⟩ := hveq; obtain ⟨cse, Ge, hce, hGe, hme, hcell⟩ := hrow.elem HX.out; obtain ⟨ve, Fe, rfl, rfl, hse⟩ := message_M hme; have g5 := hcell 5 _ rfl; simp only [show messageD.sz = 8 from rfl] at g5; clear hS hF hge hrow hce hGe hme hcell hse)))
        have HZ : Hid (∀ wz, Chg [w.heap.size + 1] w3 wz → RetElem2 logD w (wmL l n f) (wmOk l n f) (.returned (.tuple #[.agg #[.int .i64 0, .slice none 0 0], .bool false])) wz) := by
          intro wz hch
          rw [wmL_no HOK.out, HOK.out]
          have hs := HE.out.size
          exact ⟨_, [], rfl, noLog_M wz, by simp, by simp, HE.out.trans (hch.below hs (by simp))⟩
        refine bodyPost_ret (v := .tuple #[.agg #[.int .i64 0, .slice none 0 0], .bool false]) (by simp [results, Tryz.results86, go_sem, p0, p1, pf]) rfl (HZ.out _ ?_)
        (repeat (with_reducible refine Chg.setCell ?_ (.inl (by simp)) _))
        exact Chg.refl _ _
      · have hgo' : m.gone = false := by simpa using hgo
        clear hgo
        by_cases hf2 : (f m).2 = true
        · have HF2 := hide hf2
          clear hf2
          by_cases hv2 : validLogB (setMsg l k (f m).1) = true
          · have HV2 := hide hv2
            have HOK := hide (show wmOk l n f = true by rw [HOKE.out, hgo', HF2.out, hv2]; rfl)
            have HL := hide (wmL_yes HOK.out hk HX.out)
            clear hv2
            go_enter Tryz.func86, Tryz.ntmps86
            go_wp2_with (first
              | (go_at_call 37
                 refine (validLog_c (setMsg l k (f m).1) _ _ (by have h := HS4.out.1.toK; exact h) HT2.out).mono ?_
                 rintro e w5 ⟨rfl, hb⟩
                 rw [HV2.out]
                 have t0 := cell_below hb t0
                 have t1 := cell_below hb t1
                 have HS5 := hide (And.intro (HS4.out.1.by hb) HS4.out.2)
                 have hz5 := hb.size
                 have hbl := (hb.block _ (by omega)).trans HBL4.out
                 have HE5 := hide (below_step HE.out hb)
                 clear p0 p1 pf HE
                 have HE := HE5
                 clear HE5
                 have p0 : w5.cell? ⟨w.heap.size + 1, 0, none⟩ = some (.int .i64 0) := by rw [cell_block hbl]; rfl
                 have p1 : w5.cell? ⟨w.heap.size + 1, 1, none⟩ = some (.slice none 0 0) := by rw [cell_block hbl]; rfl
                 have pf : ∀ o, w5.frozen? ⟨w.heap.size + 1, o, none⟩ = false := fun o => frozen_block hbl
                 clear hb hbl)
              | (go_at_call 37
                 refine (validLog_c l _ _ (H1.out.below HW.out) HT.out).mono ?_
                 rintro e w1 ⟨rfl, hb⟩
                 rw [HV.out]
                 have HB1 := hide hb
                 have hz1 := hb.size
                 simp only [World.size_alloc] at hz1
                 have b0 : w1.cell? ⟨w.heap.size, 0, none⟩ = some (.int .i64 l.next) := cell_below hb (by go_simp)
                 have b1 : w1.cell? ⟨w.heap.size, 1, none⟩ = some (.slice A l.messages.length c) := cell_below hb (by go_simp)
                 have hbl := (hb.block _ (by simp)).trans HZB.out
                 have HBL1 := hide hbl
                 have p0 : w1.cell? ⟨w.heap.size + 1, 0, none⟩ = some (.int .i64 0) := by rw [cell_block hbl]; rfl
                 have p1 : w1.cell? ⟨w.heap.size + 1, 1, none⟩ = some (.slice none 0 0) := by rw [cell_block hbl]; rfl
                 have pf : ∀ o, w1.frozen? ⟨w.heap.size + 1, o, none⟩ = false := fun o => frozen_block hbl
                 have HE := hide (below_step HW.out hb)
                 clear hb hbl)
              | (go_at_call 38
                 refine (cloneLog_c l _ _ (H1.out.below (below_step HW.out HB1.out)) HFEW.out).mono ?_
                 rintro e w2 ⟨cs2, F2, rfl, hM2, hF2, hge2, hb⟩
                 obtain ⟨v2, F2', rfl, rfl, hS2⟩ := log_M hM2
                 obtain ⟨A2, c2, rfl⟩ := hS2.toK.shape
                 have hz2 := hb.size
                 have HB2 := hide (HB1.out.trans (hb.mono HB1.out.size))
                 have HS2 := hide (And.intro hS2 (And.intro hF2 (show ∀ x ∈ F2, w.heap.size + 2 ≤ x from fun x hx => (by have := hge2 x hx; omega))))
                 have hbl := (HB2.out.block _ (by simp)).trans HZB.out
                 have HBL2 := hide hbl
                 clear hM2 hF2 hge2 hS2 hb hbl p0 p1 pf b0 b1)
              | (go_at_call 98
                 refine (at_c l _ _ n _ (RowAt.box (d := logD) (x := l) (log_K_mk HS2.out.1.toK) (arr := #[.int .i64 l.next, .slice A2 l.messages.length c2]) rfl 31)).mono ?_
                 rintro e w3 ⟨rfl, hb⟩
                 try rw [hk]
                 have hz3 := hb.size
                 simp only [World.size_alloc] at hz3
                 have HB3 := hide ((HB2.out.trans (((Below.refl w2.heap.size w2).alloc (Nat.le_refl _) _).mono HB2.out.size)).trans (hb.mono (by have := HB2.out.size; simp at this ⊢; omega)))
                 have h23 : Below w2.heap.size w2 w3 := ((Below.refl w2.heap.size w2).alloc (Nat.le_refl _) _).trans (hb.mono (by simp))
                 have s0 : w3.cell? ⟨w2.heap.size, 0, none⟩ = some (.int .i64 l.next) := cell_below hb (by simp)
                 have s1 : w3.cell? ⟨w2.heap.size, 1, none⟩ = some (.slice A2 l.messages.length c2) := cell_below hb (by simp)
                 have HS3 := hide (And.intro (HS2.out.1.by h23) HS2.out.2)
                 have HN8 := hide (show w2.heap.size ∉ F2 from fun h => (by have := HS2.out.1.lt _ h; omega))
                 have hbl := (h23.block _ (by omega)).trans HBL2.out
                 have HBL3 := hide hbl
                 have p0 : w3.cell? ⟨w.heap.size + 1, 0, none⟩ = some (.int .i64 0) := by rw [cell_block hbl]; rfl
                 have p1 : w3.cell? ⟨w.heap.size + 1, 1, none⟩ = some (.slice none 0 0) := by rw [cell_block hbl]; rfl
                 have pf : ∀ o, w3.frozen? ⟨w.heap.size + 1, o, none⟩ = false := fun o => frozen_block hbl
                 clear HE
                 have HE := hide (below_step HW.out HB3.out)
                 clear hb h23 hbl
                 (obtain ⟨hS, hF, hge⟩ := HS3.out; rcases hS.row with ⟨_, hnil, _⟩ | ⟨b9, cap9, cur9, css9, Fs9, hveq, hrow, rfl⟩; (focus (rw [hnil] at hlk; simp at hlk)); simp only [Value.slice.injEq, true_and] at hveq; obtain ⟨rfl, rfl⟩ := hveq; obtain ⟨cse, Ge, hce, hGe, hme, hcell⟩ := hrow.elem HX.out; obtain ⟨ve, Fe, rfl, rfl, hse⟩ := message_M hme; have g5 := hcell 5 _ rfl; simp only [show messageD.sz = 8 from rfl] at g5; clear hS hF hge hrow hce hGe hme hcell hse))
              | (go_at_fn g
                 refine (HTU.out l.messages k m _ _ _ _ (below_step HW.out HB3.out) HS3.out.1 HS3.out.2.1 (fun x hx => by have := HS3.out.2.2 x hx; omega) HX.out HVM.out).mono ?_
                 rintro e w4 ⟨rfl, F4, hS4, hF4, hfr4, hc4⟩
                 rw [HF2.out]
                 have t0 := hc4.cell HN8.out s0
                 have t1 := hc4.cell HN8.out s1
                 have hge4 : ∀ x ∈ F4, w.heap.size + 2 ≤ x := fun x hx => (by rcases hfr4 x hx with h | h; exact HS3.out.2.2 x h; omega)
                 have HS4 := hide (And.intro hS4 (And.intro hF4 hge4))
                 have hz4 := hc4.size
                 have hbl := (hc4.block _ (by omega) (fun h => by have := HS3.out.2.2 _ h; omega)).trans HBL3.out
                 have HBL4 := hide hbl
                 have HE4 := hide (HE.out.trans (hc4.below (B := w.heap.size) HE.out.size (fun x hx => by have := HS3.out.2.2 x hx; omega)))
                 clear p0 p1 pf HE s0 s1
                 have HE := HE4
                 clear HE4
                 have p0 : w4.cell? ⟨w.heap.size + 1, 0, none⟩ = some (.int .i64 0) := by rw [cell_block hbl]; rfl
                 have p1 : w4.cell? ⟨w.heap.size + 1, 1, none⟩ = some (.slice none 0 0) := by rw [cell_block hbl]; rfl
                 have pf : ∀ o, w4.frozen? ⟨w.heap.size + 1, o, none⟩ = false := fun o => frozen_block hbl
                 clear hS4 hF4 hge4 hfr4 hc4 hbl))
            have HZ : Hid (∀ wz, Chg [w.heap.size + 1] w5 wz → RetElem2 logD w (wmL l n f) (wmOk l n f) (.returned (.tuple #[.agg #[.int .i64 l.next, .slice (some ⟨b9, 0, none⟩) l.messages.length c2], .bool true])) wz) := by
              intro wz hch
              rw [HL.out, HOK.out]
              obtain ⟨hS, hF, hge⟩ := HS5.out
              have hs := HE.out.size
              have hS' := hS.move fun b hb => hch.block b (hS.lt b hb) (by have := hge b hb; simp; omega)
              have hlen : (setMsg l k (f m).1).messages.length = l.messages.length := by simp [setMsg]
              exact ⟨_, F4, rfl, log_M_mk (x := setMsg l k (f m).1) hS', hF, fun b hb => by have := hge b hb; omega, HE.out.trans (hch.below hs (by simp))⟩
            refine bodyPost_ret (v := .tuple #[.agg #[.int .i64 l.next, .slice (some ⟨b9, 0, none⟩) l.messages.length c2], .bool true]) (by simp [results, Tryz.results86, go_sem, p0, p1, pf]) rfl (HZ.out _ ?_)
            (repeat (with_reducible refine Chg.setCell ?_ (.inl (by simp)) _))
            exact Chg.refl _ _
          · have HV2 := hide (show validLogB (setMsg l k (f m).1) = false by simpa using hv2)
            have HOK := hide (show wmOk l n f = false by rw [HOKE.out, HV2.out]; simp)
            clear hv2
            go_enter Tryz.func86, Tryz.ntmps86
            go_wp2_with (first
              | (go_at_call 37
                 refine (validLog_c (setMsg l k (f m).1) _ _ (by have h := HS4.out.1.toK; exact h) HT2.out).mono ?_
                 rintro e w5 ⟨rfl, hb⟩
                 rw [HV2.out]
                 have t0 := cell_below hb t0
                 have t1 := cell_below hb t1
                 have HS5 := hide (And.intro (HS4.out.1.by hb) HS4.out.2)
                 have hz5 := hb.size
                 have hbl := (hb.block _ (by omega)).trans HBL4.out
                 have HE5 := hide (below_step HE.out hb)
                 clear p0 p1 pf HE
                 have HE := HE5
                 clear HE5
                 have p0 : w5.cell? ⟨w.heap.size + 1, 0, none⟩ = some (.int .i64 0) := by rw [cell_block hbl]; rfl
                 have p1 : w5.cell? ⟨w.heap.size + 1, 1, none⟩ = some (.slice none 0 0) := by rw [cell_block hbl]; rfl
                 have pf : ∀ o, w5.frozen? ⟨w.heap.size + 1, o, none⟩ = false := fun o => frozen_block hbl
                 clear hb hbl)
              | (go_at_call 37
                 refine (validLog_c l _ _ (H1.out.below HW.out) HT.out).mono ?_
                 rintro e w1 ⟨rfl, hb⟩
                 rw [HV.out]
                 have HB1 := hide hb
                 have hz1 := hb.size
                 simp only [World.size_alloc] at hz1
                 have b0 : w1.cell? ⟨w.heap.size, 0, none⟩ = some (.int .i64 l.next) := cell_below hb (by go_simp)
                 have b1 : w1.cell? ⟨w.heap.size, 1, none⟩ = some (.slice A l.messages.length c) := cell_below hb (by go_simp)
                 have hbl := (hb.block _ (by simp)).trans HZB.out
                 have HBL1 := hide hbl
                 have p0 : w1.cell? ⟨w.heap.size + 1, 0, none⟩ = some (.int .i64 0) := by rw [cell_block hbl]; rfl
                 have p1 : w1.cell? ⟨w.heap.size + 1, 1, none⟩ = some (.slice none 0 0) := by rw [cell_block hbl]; rfl
                 have pf : ∀ o, w1.frozen? ⟨w.heap.size + 1, o, none⟩ = false := fun o => frozen_block hbl
                 have HE := hide (below_step HW.out hb)
                 clear hb hbl)
              | (go_at_call 38
                 refine (cloneLog_c l _ _ (H1.out.below (below_step HW.out HB1.out)) HFEW.out).mono ?_
                 rintro e w2 ⟨cs2, F2, rfl, hM2, hF2, hge2, hb⟩
                 obtain ⟨v2, F2', rfl, rfl, hS2⟩ := log_M hM2
                 obtain ⟨A2, c2, rfl⟩ := hS2.toK.shape
                 have hz2 := hb.size
                 have HB2 := hide (HB1.out.trans (hb.mono HB1.out.size))
                 have HS2 := hide (And.intro hS2 (And.intro hF2 (show ∀ x ∈ F2, w.heap.size + 2 ≤ x from fun x hx => (by have := hge2 x hx; omega))))
                 have hbl := (HB2.out.block _ (by simp)).trans HZB.out
                 have HBL2 := hide hbl
                 clear hM2 hF2 hge2 hS2 hb hbl p0 p1 pf b0 b1)
              | (go_at_call 98
                 refine (at_c l _ _ n _ (RowAt.box (d := logD) (x := l) (log_K_mk HS2.out.1.toK) (arr := #[.int .i64 l.next, .slice A2 l.messages.length c2]) rfl 31)).mono ?_
                 rintro e w3 ⟨rfl, hb⟩
                 try rw [hk]
                 have hz3 := hb.size
                 simp only [World.size_alloc] at hz3
                 have HB3 := hide ((HB2.out.trans (((Below.refl w2.heap.size w2).alloc (Nat.le_refl _) _).mono HB2.out.size)).trans (hb.mono (by have := HB2.out.size; simp at this ⊢; omega)))
                 have h23 : Below w2.heap.size w2 w3 := ((Below.refl w2.heap.size w2).alloc (Nat.le_refl _) _).trans (hb.mono (by simp))
                 have s0 : w3.cell? ⟨w2.heap.size, 0, none⟩ = some (.int .i64 l.next) := cell_below hb (by simp)
                 have s1 : w3.cell? ⟨w2.heap.size, 1, none⟩ = some (.slice A2 l.messages.length c2) := cell_below hb (by simp)
                 have HS3 := hide (And.intro (HS2.out.1.by h23) HS2.out.2)
                 have HN8 := hide (show w2.heap.size ∉ F2 from fun h => (by have := HS2.out.1.lt _ h; omega))
                 have hbl := (h23.block _ (by omega)).trans HBL2.out
                 have HBL3 := hide hbl
                 have p0 : w3.cell? ⟨w.heap.size + 1, 0, none⟩ = some (.int .i64 0) := by rw [cell_block hbl]; rfl
                 have p1 : w3.cell? ⟨w.heap.size + 1, 1, none⟩ = some (.slice none 0 0) := by rw [cell_block hbl]; rfl
                 have pf : ∀ o, w3.frozen? ⟨w.heap.size + 1, o, none⟩ = false := fun o => frozen_block hbl
                 clear HE
                 have HE := hide (below_step HW.out HB3.out)
                 clear hb h23 hbl
                 (obtain ⟨hS, hF, hge⟩ := HS3.out; rcases hS.row with ⟨_, hnil, _⟩ | ⟨b9, cap9, cur9, css9, Fs9, hveq, hrow, rfl⟩; (focus (rw [hnil] at hlk; simp at hlk)); simp only [Value.slice.injEq, true_and] at hveq; obtain ⟨rfl, rfl⟩ := hveq; obtain ⟨cse, Ge, hce, hGe, hme, hcell⟩ := hrow.elem HX.out; obtain ⟨ve, Fe, rfl, rfl, hse⟩ := message_M hme; have g5 := hcell 5 _ rfl; simp only [show messageD.sz = 8 from rfl] at g5; clear hS hF hge hrow hce hGe hme hcell hse))
              | (go_at_fn g
                 refine (HTU.out l.messages k m _ _ _ _ (below_step HW.out HB3.out) HS3.out.1 HS3.out.2.1 (fun x hx => by have := HS3.out.2.2 x hx; omega) HX.out HVM.out).mono ?_
                 rintro e w4 ⟨rfl, F4, hS4, hF4, hfr4, hc4⟩
                 rw [HF2.out]
                 have t0 := hc4.cell HN8.out s0
                 have t1 := hc4.cell HN8.out s1
                 have hge4 : ∀ x ∈ F4, w.heap.size + 2 ≤ x := fun x hx => (by rcases hfr4 x hx with h | h; exact HS3.out.2.2 x h; omega)
                 have HS4 := hide (And.intro hS4 (And.intro hF4 hge4))
                 have hz4 := hc4.size
                 have hbl := (hc4.block _ (by omega) (fun h => by have := HS3.out.2.2 _ h; omega)).trans HBL3.out
                 have HBL4 := hide hbl
                 have HE4 := hide (HE.out.trans (hc4.below (B := w.heap.size) HE.out.size (fun x hx => by have := HS3.out.2.2 x hx; omega)))
                 clear p0 p1 pf HE s0 s1
                 have HE := HE4
                 clear HE4
                 have p0 : w4.cell? ⟨w.heap.size + 1, 0, none⟩ = some (.int .i64 0) := by rw [cell_block hbl]; rfl
                 have p1 : w4.cell? ⟨w.heap.size + 1, 1, none⟩ = some (.slice none 0 0) := by rw [cell_block hbl]; rfl
                 have pf : ∀ o, w4.frozen? ⟨w.heap.size + 1, o, none⟩ = false := fun o => frozen_block hbl
                 clear hS4 hF4 hge4 hfr4 hc4 hbl))
            have HZ : Hid (∀ wz, Chg [w.heap.size + 1] w5 wz → RetElem2 logD w (wmL l n f) (wmOk l n f) (.returned (.tuple #[.agg #[.int .i64 0, .slice none 0 0], .bool false])) wz) := by
              intro wz hch
              rw [wmL_no HOK.out, HOK.out]
              have hs := HE.out.size
              exact ⟨_, [], rfl, noLog_M wz, by simp, by simp, HE.out.trans (hch.below hs (by simp))⟩
            refine bodyPost_ret (v := .tuple #[.agg #[.int .i64 0, .slice none 0 0], .bool false]) (by simp [results, Tryz.results86, go_sem, p0, p1, pf]) rfl (HZ.out _ ?_)
            (repeat (with_reducible refine Chg.setCell ?_ (.inl (by simp)) _))
            exact Chg.refl _ _
        · have HF2 := hide (show (f m).2 = false by simpa using hf2)
          have HOK := hide (show wmOk l n f = false by rw [HOKE.out, HF2.out]; simp)
          clear hf2
          go_enter Tryz.func86, Tryz.ntmps86
          go_wp2_with (first
            | (go_at_call 37
               refine (validLog_c l _ _ (H1.out.below HW.out) HT.out).mono ?_
               rintro e w1 ⟨rfl, hb⟩
               rw [HV.out]
               have HB1 := hide hb
               have hz1 := hb.size
               simp only [World.size_alloc] at hz1
               have b0 : w1.cell? ⟨w.heap.size, 0, none⟩ = some (.int .i64 l.next) := cell_below hb (by go_simp)
               have b1 : w1.cell? ⟨w.heap.size, 1, none⟩ = some (.slice A l.messages.length c) := cell_below hb (by go_simp)
               have hbl := (hb.block _ (by simp)).trans HZB.out
               have HBL1 := hide hbl
               have p0 : w1.cell? ⟨w.heap.size + 1, 0, none⟩ = some (.int .i64 0) := by rw [cell_block hbl]; rfl
               have p1 : w1.cell? ⟨w.heap.size + 1, 1, none⟩ = some (.slice none 0 0) := by rw [cell_block hbl]; rfl
               have pf : ∀ o, w1.frozen? ⟨w.heap.size + 1, o, none⟩ = false := fun o => frozen_block hbl
               have HE := hide (below_step HW.out hb)
               clear hb hbl)
            | (go_at_call 38
               refine (cloneLog_c l _ _ (H1.out.below (below_step HW.out HB1.out)) HFEW.out).mono ?_
               rintro e w2 ⟨cs2, F2, rfl, hM2, hF2, hge2, hb⟩
               obtain ⟨v2, F2', rfl, rfl, hS2⟩ := log_M hM2
               obtain ⟨A2, c2, rfl⟩ := hS2.toK.shape
               have hz2 := hb.size
               have HB2 := hide (HB1.out.trans (hb.mono HB1.out.size))
               have HS2 := hide (And.intro hS2 (And.intro hF2 (show ∀ x ∈ F2, w.heap.size + 2 ≤ x from fun x hx => (by have := hge2 x hx; omega))))
               have hbl := (HB2.out.block _ (by simp)).trans HZB.out
               have HBL2 := hide hbl
               clear hM2 hF2 hge2 hS2 hb hbl p0 p1 pf b0 b1)
            | (go_at_call 98
               refine (at_c l _ _ n _ (RowAt.box (d := logD) (x := l) (log_K_mk HS2.out.1.toK) (arr := #[.int .i64 l.next, .slice A2 l.messages.length c2]) rfl 31)).mono ?_
               rintro e w3 ⟨rfl, hb⟩
               try rw [hk]
               have hz3 := hb.size
               simp only [World.size_alloc] at hz3
               have HB3 := hide ((HB2.out.trans (((Below.refl w2.heap.size w2).alloc (Nat.le_refl _) _).mono HB2.out.size)).trans (hb.mono (by have := HB2.out.size; simp at this ⊢; omega)))
               have h23 : Below w2.heap.size w2 w3 := ((Below.refl w2.heap.size w2).alloc (Nat.le_refl _) _).trans (hb.mono (by simp))
               have s0 : w3.cell? ⟨w2.heap.size, 0, none⟩ = some (.int .i64 l.next) := cell_below hb (by simp)
               have s1 : w3.cell? ⟨w2.heap.size, 1, none⟩ = some (.slice A2 l.messages.length c2) := cell_below hb (by simp)
               have HS3 := hide (And.intro (HS2.out.1.by h23) HS2.out.2)
               have HN8 := hide (show w2.heap.size ∉ F2 from fun h => (by have := HS2.out.1.lt _ h; omega))
               have hbl := (h23.block _ (by omega)).trans HBL2.out
               have HBL3 := hide hbl
               have p0 : w3.cell? ⟨w.heap.size + 1, 0, none⟩ = some (.int .i64 0) := by rw [cell_block hbl]; rfl
               have p1 : w3.cell? ⟨w.heap.size + 1, 1, none⟩ = some (.slice none 0 0) := by rw [cell_block hbl]; rfl
               have pf : ∀ o, w3.frozen? ⟨w.heap.size + 1, o, none⟩ = false := fun o => frozen_block hbl
               clear HE
               have HE := hide (below_step HW.out HB3.out)
               clear hb h23 hbl
               (obtain ⟨hS, hF, hge⟩ := HS3.out; rcases hS.row with ⟨_, hnil, _⟩ | ⟨b9, cap9, cur9, css9, Fs9, hveq, hrow, rfl⟩; (focus (rw [hnil] at hlk; simp at hlk)); simp only [Value.slice.injEq, true_and] at hveq; obtain ⟨rfl, rfl⟩ := hveq; obtain ⟨cse, Ge, hce, hGe, hme, hcell⟩ := hrow.elem HX.out; obtain ⟨ve, Fe, rfl, rfl, hse⟩ := message_M hme; have g5 := hcell 5 _ rfl; simp only [show messageD.sz = 8 from rfl] at g5; clear hS hF hge hrow hce hGe hme hcell hse))
            | (go_at_fn g
               refine (HTU.out l.messages k m _ _ _ _ (below_step HW.out HB3.out) HS3.out.1 HS3.out.2.1 (fun x hx => by have := HS3.out.2.2 x hx; omega) HX.out HVM.out).mono ?_
               rintro e w4 ⟨rfl, F4, hS4, hF4, hfr4, hc4⟩
               rw [HF2.out]
               have t0 := hc4.cell HN8.out s0
               have t1 := hc4.cell HN8.out s1
               have hge4 : ∀ x ∈ F4, w.heap.size + 2 ≤ x := fun x hx => (by rcases hfr4 x hx with h | h; exact HS3.out.2.2 x h; omega)
               have HS4 := hide (And.intro hS4 (And.intro hF4 hge4))
               have hz4 := hc4.size
               have hbl := (hc4.block _ (by omega) (fun h => by have := HS3.out.2.2 _ h; omega)).trans HBL3.out
               have HBL4 := hide hbl
               have HE4 := hide (HE.out.trans (hc4.below (B := w.heap.size) HE.out.size (fun x hx => by have := HS3.out.2.2 x hx; omega)))
               clear p0 p1 pf HE s0 s1
               have HE := HE4
               clear HE4
               have p0 : w4.cell? ⟨w.heap.size + 1, 0, none⟩ = some (.int .i64 0) := by rw [cell_block hbl]; rfl
               have p1 : w4.cell? ⟨w.heap.size + 1, 1, none⟩ = some (.slice none 0 0) := by rw [cell_block hbl]; rfl
               have pf : ∀ o, w4.frozen? ⟨w.heap.size + 1, o, none⟩ = false := fun o => frozen_block hbl
               clear hS4 hF4 hge4 hfr4 hc4 hbl))
          have HZ : Hid (∀ wz, Chg [w.heap.size + 1] w4 wz → RetElem2 logD w (wmL l n f) (wmOk l n f) (.returned (.tuple #[.agg #[.int .i64 0, .slice none 0 0], .bool false])) wz) := by
            intro wz hch
            rw [wmL_no HOK.out, HOK.out]
            have hs := HE.out.size
            exact ⟨_, [], rfl, noLog_M wz, by simp, by simp, HE.out.trans (hch.below hs (by simp))⟩
          refine bodyPost_ret (v := .tuple #[.agg #[.int .i64 0, .slice none 0 0], .bool false]) (by simp [results, Tryz.results86, go_sem, p0, p1, pf]) rfl (HZ.out _ ?_)
          (repeat (with_reducible refine Chg.setCell ?_ (.inl (by simp)) _))
          exact Chg.refl _ _
    · have hn2 : idxP (numIs n) l.messages < 0 := by omega
      have HOK := hide (wmOk_none (f := f) hn2)
      have hk := hn2
      go_enter Tryz.func86, Tryz.ntmps86
      go_wp2_with (first
        | (go_at_call 37
           refine (validLog_c l _ _ (H1.out.below HW.out) HT.out).mono ?_
           rintro e w1 ⟨rfl, hb⟩
           rw [HV.out]
           have HB1 := hide hb
           have hz1 := hb.size
           simp only [World.size_alloc] at hz1
           have b0 : w1.cell? ⟨w.heap.size, 0, none⟩ = some (.int .i64 l.next) := cell_below hb (by go_simp)
           have b1 : w1.cell? ⟨w.heap.size, 1, none⟩ = some (.slice A l.messages.length c) := cell_below hb (by go_simp)
           have hbl := (hb.block _ (by simp)).trans HZB.out
           have HBL1 := hide hbl
           have p0 : w1.cell? ⟨w.heap.size + 1, 0, none⟩ = some (.int .i64 0) := by rw [cell_block hbl]; rfl
           have p1 : w1.cell? ⟨w.heap.size + 1, 1, none⟩ = some (.slice none 0 0) := by rw [cell_block hbl]; rfl
           have pf : ∀ o, w1.frozen? ⟨w.heap.size + 1, o, none⟩ = false := fun o => frozen_block hbl
           have HE := hide (below_step HW.out hb)
           clear hb hbl)
        | (go_at_call 38
           refine (cloneLog_c l _ _ (H1.out.below (below_step HW.out HB1.out)) HFEW.out).mono ?_
           rintro e w2 ⟨cs2, F2, rfl, hM2, hF2, hge2, hb⟩
           obtain ⟨v2, F2', rfl, rfl, hS2⟩ := log_M hM2
           obtain ⟨A2, c2, rfl⟩ := hS2.toK.shape
           have hz2 := hb.size
           have HB2 := hide (HB1.out.trans (hb.mono HB1.out.size))
           have HS2 := hide (And.intro hS2 (And.intro hF2 (show ∀ x ∈ F2, w.heap.size + 2 ≤ x from fun x hx => (by have := hge2 x hx; omega))))
           have hbl := (HB2.out.block _ (by simp)).trans HZB.out
           have HBL2 := hide hbl
           clear hM2 hF2 hge2 hS2 hb hbl p0 p1 pf b0 b1)
        | (go_at_call 98
           refine (at_c l _ _ n _ (RowAt.box (d := logD) (x := l) (log_K_mk HS2.out.1.toK) (arr := #[.int .i64 l.next, .slice A2 l.messages.length c2]) rfl 31)).mono ?_
           rintro e w3 ⟨rfl, hb⟩
           try rw [hk]
           have hz3 := hb.size
           simp only [World.size_alloc] at hz3
           have HB3 := hide ((HB2.out.trans (((Below.refl w2.heap.size w2).alloc (Nat.le_refl _) _).mono HB2.out.size)).trans (hb.mono (by have := HB2.out.size; simp at this ⊢; omega)))
           have h23 : Below w2.heap.size w2 w3 := ((Below.refl w2.heap.size w2).alloc (Nat.le_refl _) _).trans (hb.mono (by simp))
           have s0 : w3.cell? ⟨w2.heap.size, 0, none⟩ = some (.int .i64 l.next) := cell_below hb (by simp)
           have s1 : w3.cell? ⟨w2.heap.size, 1, none⟩ = some (.slice A2 l.messages.length c2) := cell_below hb (by simp)
           have HS3 := hide (And.intro (HS2.out.1.by h23) HS2.out.2)
           have HN8 := hide (show w2.heap.size ∉ F2 from fun h => (by have := HS2.out.1.lt _ h; omega))
           have hbl := (h23.block _ (by omega)).trans HBL2.out
           have HBL3 := hide hbl
           have p0 : w3.cell? ⟨w.heap.size + 1, 0, none⟩ = some (.int .i64 0) := by rw [cell_block hbl]; rfl
           have p1 : w3.cell? ⟨w.heap.size + 1, 1, none⟩ = some (.slice none 0 0) := by rw [cell_block hbl]; rfl
           have pf : ∀ o, w3.frozen? ⟨w.heap.size + 1, o, none⟩ = false := fun o => frozen_block hbl
           clear HE
           have HE := hide (below_step HW.out HB3.out)
           clear hb h23 hbl
           skip))
      have HZ : Hid (∀ wz, Chg [w.heap.size + 1] w3 wz → RetElem2 logD w (wmL l n f) (wmOk l n f) (.returned (.tuple #[.agg #[.int .i64 0, .slice none 0 0], .bool false])) wz) := by
        intro wz hch
        rw [wmL_no HOK.out, HOK.out]
        have hs := HE.out.size
        exact ⟨_, [], rfl, noLog_M wz, by simp, by simp, HE.out.trans (hch.below hs (by simp))⟩
      refine bodyPost_ret (v := .tuple #[.agg #[.int .i64 0, .slice none 0 0], .bool false]) (by simp [results, Tryz.results86, go_sem, p0, p1, pf]) rfl (HZ.out _ ?_)
      (repeat (with_reducible refine Chg.setCell ?_ (.inl (by simp)) _))
      exact Chg.refl _ _
  · have HV := hide (show validLogB l = false by simpa using hv)
    have HOK := hide (wmOk_bad (n := n) (f := f) HV.out)
    clear hv
    go_enter Tryz.func86, Tryz.ntmps86
    go_wp2_with (go_at_call 37
                 refine (validLog_c l _ _ (H1.out.below HW.out) HT.out).mono ?_
                 rintro e w1 ⟨rfl, hb⟩
                 rw [HV.out]
                 have HB1 := hide hb
                 have hz1 := hb.size
                 simp only [World.size_alloc] at hz1
                 have b0 : w1.cell? ⟨w.heap.size, 0, none⟩ = some (.int .i64 l.next) := cell_below hb (by go_simp)
                 have b1 : w1.cell? ⟨w.heap.size, 1, none⟩ = some (.slice A l.messages.length c) := cell_below hb (by go_simp)
                 have hbl := (hb.block _ (by simp)).trans HZB.out
                 have HBL1 := hide hbl
                 have p0 : w1.cell? ⟨w.heap.size + 1, 0, none⟩ = some (.int .i64 0) := by rw [cell_block hbl]; rfl
                 have p1 : w1.cell? ⟨w.heap.size + 1, 1, none⟩ = some (.slice none 0 0) := by rw [cell_block hbl]; rfl
                 have pf : ∀ o, w1.frozen? ⟨w.heap.size + 1, o, none⟩ = false := fun o => frozen_block hbl
                 have HE := hide (below_step HW.out hb)
                 clear hb hbl)
    have HZ : Hid (∀ wz, Chg [w.heap.size + 1] w1 wz → RetElem2 logD w (wmL l n f) (wmOk l n f) (.returned (.tuple #[.agg #[.int .i64 0, .slice none 0 0], .bool false])) wz) := by
      intro wz hch
      rw [wmL_no HOK.out, HOK.out]
      have hs := HE.out.size
      exact ⟨_, [], rfl, noLog_M wz, by simp, by simp, HE.out.trans (hch.below hs (by simp))⟩
    refine bodyPost_ret (v := .tuple #[.agg #[.int .i64 0, .slice none 0 0], .bool false]) (by simp [results, Tryz.results86, go_sem, p0, p1, pf]) rfl (HZ.out _ ?_)
    (repeat (with_reducible refine Chg.setCell ?_ (.inl (by simp)) _))
    exact Chg.refl _ _
end Go.Proofs.YtodmongmaoeknaaGreat
