/- Messages and logs of a call's own: the program and the reference. -/
import Derived.Test.YtodmongmaoeknaaGreatRGround
import Derived.Deep.RegionLaw
import Derived.Test.YtodmongmaoeknaaGreatVMsg
import Derived.Test.YtodmongmaoeknaaGreatFLogs
namespace Go.Proofs.YtodmongmaoeknaaGreat
open Go Go.RowKit Go.BigFrame
attribute [local go_sem] Calm.cell Calm.frozen
set_option linter.unusedVariables false
set_option linter.unusedSimpArgs false

/-- What a copy wants: rows that a machine holds. -/
def fewL (l : Log) : Prop := l.messages.length ≤ 40 ∧ ∀ m ∈ l.messages, m.likes.length ≤ 1048576
theorem fewL_of {l : Log} (h : validLogB l = true) : fewL l :=
  ⟨by simp only [validLogB, Bool.and_eq_true, decide_eq_true_eq] at h; omega, fun m hm => by have := valid_likes (valid_msgs h hm); omega⟩
set_option maxHeartbeats 2000000 in
theorem cloneMessage_c (x : Message) (v7 : Value) (w : World) (h7 : SliceK intD w v7 x.likes) (hw : x.likes.length ≤ 1048576) :
    Calls Tryz.prog 58 #[.agg (msgArr x v7)] w (RetElem messageD w x) := by
  show Calls Tryz.prog 58 #[.agg #[.int .i64 x.number, .int .i64 x.sender, .int .i64 x.at_, .string x.text, .int .i64 x.edits, .bool x.gone, .int .i64 x.reply, v7]] w _
  obtain ⟨A, c, rfl⟩ := h7.shape
  have H7 := hide h7
  clear h7
  go_enter Tryz.func58, Tryz.ntmps58
  go_wp2_with fail
  refine (clone_c _ x.likes _ (H7.out.below ?hb0) hw).mono ?_
  case hb0 => exact (((Below.refl _ _).alloc (Nat.le_refl _) _).alloc (by simp) _)
  rintro e w1 ⟨v, rfl, hM, hb1⟩
  obtain ⟨A7, c7, rfl⟩ := hM.shape
  have HM0 := hide hM
  have HB0 := hide ((((Below.refl _ _).alloc (Nat.le_refl _) _).alloc (by simp) _).trans (hb1.mono (by simp; omega)) : Below w.heap.size w w1)
  obtain ⟨hc0, hf0, hs0⟩ := bcell hb1
  simp only [World.size_alloc, World.size_setCell] at hs0
  have hy0 : w.heap.size < w1.heap.size := by omega
  have hle0 : w.heap.size ≤ w1.heap.size := by omega
  have hx0 : w.heap.size + 1 < w1.heap.size := by omega
  have hk7 : w1.cell? ⟨w.heap.size, 7, none⟩ = some (.slice A x.likes.length c) := (by rw [hc0 _ _ (by simp; omega)]; go_simp)
  clear hM hb1 hs0
  go_wp2_with fail
  have HZ : Hid (∀ wz, Chg [w.heap.size, w.heap.size + 1] w1 wz → RetElem messageD w x (.returned (.agg #[.int .i64 x.number, .int .i64 x.sender, .int .i64 x.at_, .string x.text, .int .i64 x.edits, .bool x.gone, .int .i64 x.reply, .slice A7 x.likes.length c7])) wz) := by
    intro wz hch
    obtain ⟨F7, hm7, hn7, hF7⟩ := HM0.out
    have hl7 := hm7.lt
    have m7 := hm7.move fun b hb => hch.block b (hl7 b hb) (by intro hg; have := hF7 b hb; simp at this hg; omega)
    refine ⟨_, F7, rfl, message_M_mk m7, hn7, ?_, ?_⟩
    · intro b hb; have := hF7 b hb; simp at this; omega
    · exact HB0.out.trans (hch.below (by omega) (by intro k hk; simp at hk; omega))
  refine bodyPost_ret (v := .agg #[.int .i64 x.number, .int .i64 x.sender, .int .i64 x.at_, .string x.text, .int .i64 x.edits, .bool x.gone, .int .i64 x.reply, .slice A7 x.likes.length c7]) (by simp [results, Tryz.results58, go_sem, hc0, hy0, hx0]) rfl (HZ.out _ ?_)
  (repeat (with_reducible refine Chg.setCell ?_ (.inl (by simp)) _))
  exact Chg.refl _ _
/-- A log that is being copied: the box of the copy, the copy's rows, and the box of the answer. -/
def OwnAt (wr : World) (B0 B3 : Nat) (nx : Int) (ms : List Message) : Prop :=
  ∃ sv F, wr.heap[B3]? = some (.cells #[.int .i64 nx, sv] 31 (0, 0)) ∧ SliceM messageD 82 wr sv ms F ∧ F.Nodup ∧ (∀ b ∈ F, B0 < b) ∧ B3 ∉ F ∧ B0 ≠ B3 ∧ wr.heap[B0]? = some (.cells #[.int .i64 0, .slice none 0 0] 31 (0, 0))
theorem infoMsg : (Tryz.prog.info? 82).map (fun i => (i.zero, i.size, i.bytes)) = some (some (.agg #[(.int .i64 0), (.int .i64 0), (.int .i64 0), (.string ⟨#[]⟩), (.int .i64 0), (.bool false), (.int .i64 0), (.slice none 0 0)]), 8, 88) := by kernel_rfl
theorem addr_add {b n : Nat} : (⟨b, 0, none⟩ : Addr).add n = ⟨b, n, none⟩ := by
  unfold Addr.add; split
  · rename_i h; subst h; rfl
  · simp
/-- A box that lies in w. -/
theorem box_of {w : World} {arr : Array Value} {t : TypeId} : (w.alloc (.cells arr t)).heap[w.heap.size]? = some (.cells arr t (0, 0)) := alloc_new w _
/-- The step of a copy: the copy's row has grown by one message, and the box holds it. -/
theorem own_step {wr W w2 : World} {B0 B3 : Nat} {nx : Int} {ms : List Message} {m : Message} {sv sv' : Value} {F G F2 : List Nat}
    (h3 : wr.heap[B3]? = some (.cells #[.int .i64 nx, sv] 31 (0, 0))) (hFB : ∀ b ∈ F, B0 < b) (h3F : B3 ∉ F) (h03 : B0 ≠ B3) (h0 : wr.heap[B0]? = some (.cells #[.int .i64 0, .slice none 0 0] 31 (0, 0)))
    (hW : Chg [] wr W) (hG : ∀ b ∈ G, wr.heap.size ≤ b) (hap : Apped messageD 82 W w2 sv' (ms ++ [m]) F G F2) :
    OwnAt (w2.setCell ⟨B3, 1, none⟩ sv') B0 B3 nx (ms ++ [m]) ∧ Chg (B3 :: F) wr (w2.setCell ⟨B3, 1, none⟩ sv') ∧ w2.heap[B3]? = some (.cells #[.int .i64 nx, sv] 31 (0, 0)) := by
  have hl3 := block_lt h3
  have hl0 := block_lt h0
  have hz := hW.size
  have c2 : Chg F wr w2 := (hW.mono (by simp)).trans (hap.chg.mono (fun k hk => .inl hk))
  have hne : B3 ∉ F2 := fun hk => by
    rcases hap.from_ B3 hk with h | h | h
    · exact h3F h
    · have := hG B3 h; omega
    · omega
  have hb3 : w2.heap[B3]? = some (.cells #[.int .i64 nx, sv] 31 (0, 0)) := (c2.block B3 hl3 h3F).trans h3
  have c3 : Chg (B3 :: F) wr (w2.setCell ⟨B3, 1, none⟩ sv') := Chg.setCell (p := ⟨B3, 1, none⟩) (c2.mono (fun k hk => .inl (List.mem_cons_of_mem _ hk))) (.inl List.mem_cons_self) sv'
  refine ⟨⟨sv', F2, ?_, ?_, hap.nodup, ?_, hne, h03, ?_⟩, c3, hb3⟩
  · have := setCell_block w2 B3 1 sv' hb3
    simpa using this
  · exact hap.m.move fun b hb => Below.heap_setCell w2 _ _ b (fun e => hne (by have h : b = B3 := e; exact h ▸ hb))
  · intro b hb
    rcases hap.from_ b hb with h | h | h
    · exact hFB b h
    · have := hG b h; omega
    · omega
  · exact (c3.block B0 hl0 (by
      intro h
      rcases List.mem_cons.1 h with h | h
      · exact h03 h
      · have := hFB B0 h; omega)).trans h0
set_option maxHeartbeats 4000000 in
set_option maxRecDepth 100000 in
theorem l03Own_c (l : Log) (b o : Nat) (w : World) (hp : RowAt logD w b o [l]) (hf : fewL l) :
    Calls Tryz.prog 32 #[.pointer (some ⟨b, o, none⟩)] w (RetElem logD w l) := by
  obtain ⟨v1, h1, hbz, hb0, hb1⟩ := log_at hp (Below.refl _ _) (j := 0) rfl
  simp only [Nat.zero_mul, Nat.add_zero] at hb0 hb1
  obtain ⟨A, c, rfl, hl, hm, hra⟩ := h1
  have HA := hide hra
  have h40 := hf.1
  have HF := hide hf.2
  clear hra hp hf
  have hbz1 : b < w.heap.size + 1 := by omega
  have hbz2 : b < w.heap.size + 1 + 1 := by omega
  have hbz3 : b < w.heap.size + 1 + 1 + 1 := by omega
  go_enter Tryz.func32, Tryz.ntmps32
  go_wp2_with fail
  go_loopg [17] l.messages.length (fun gg s17 wr => ∃ k : Nat, k ≤ l.messages.length ∧ l.messages.length - k ≤ gg ∧ s17 = .int .i64 k ∧ Hid (OwnAt wr w.heap.size (w.heap.size + 1 + 1) l.next (l.messages.take k)) ∧ Hid (Below w.heap.size w wr))
  case atStart =>
    refine ⟨0, Nat.zero_le _, by omega, rfl, hide ⟨.slice (some ⟨w.heap.size + 1, 0, none⟩) 0 0, [w.heap.size + 1], ?_, ?_, by simp, by simp, by simp, by omega, ?_⟩, hide ((((Below.refl _ _).alloc (Nat.le_refl _) _).alloc (by simp) _).alloc (by simp; omega) _)⟩
    · have := alloc_new ((w.alloc (.cells #[.int .i64 0, .slice none 0 0] 31)).alloc (.cells #[] 82)) (.cells #[.int .i64 l.next, .slice (some ⟨w.heap.size + 1, 0, none⟩) 0 0] 31)
      simpa using this
    · have := emptyM (d := messageD) (e := 82) (w.alloc (.cells #[.int .i64 0, .slice none 0 0] 31))
      simp only [World.size_alloc] at this
      exact this.move fun x hx => alloc_old _ _ (by simp at hx ⊢; omega)
    · rw [alloc_old _ _ (by simp; omega), alloc_old _ _ (by simp)]
      exact alloc_new w _
  case round =>
    obtain ⟨k, hk, hg, rfl, HO, HB⟩ := hrel
    have hb1 := cell_below HB.out hb1
    have hbr := Nat.lt_of_lt_of_le hbz HB.out.size
    clear hbz1 hbz2 hbz3
    obtain ⟨sv, F, h3, hM, hF, hFB, h3F, h03, h0⟩ := HO.out
    obtain ⟨A5, c5, rfl⟩ := hM.toK.shape
    have htl : (l.messages.take k).length = k := by rw [List.length_take]; omega
    rw [htl] at hM h3
    have x0 : wr.cell? ⟨w.heap.size + 1 + 1, 0, none⟩ = some (.int .i64 l.next) := by rw [cell_block h3]; rfl
    have x1 : wr.cell? ⟨w.heap.size + 1 + 1, 1, none⟩ = some (.slice A5 k c5) := by rw [cell_block h3]; rfl
    have hl3 := block_lt h3
    by_cases hlt : k < l.messages.length
    · obtain ⟨m, hx⟩ : ∃ m, l.messages[k]? = some m := ⟨_, List.getElem?_eq_getElem hlt⟩
      rcases HA.out with hnil | ⟨q, o2, rfl, hra⟩
      · rw [hnil] at hlt; simp at hlt
      obtain ⟨v7, h7, hq, hc0, hc1, hc2, hc3, hc4, hc5, hc6, hc7⟩ := message_at hra HB.out hx
      obtain ⟨A7, c7, rfl⟩ := h7.shape
      have HX := hide hx
      have H7 := hide h7
      have HLK := hide (HF.out m (List.mem_of_getElem? hx))
      have HS := hide (And.intro h3 (And.intro hFB (And.intro h3F (And.intro h03 h0))))
      have HM := hide (And.intro hM hF)
      have hlt2 : (k : Int) < (l.messages.length : Int) := by omega
      have hbr1 : b < wr.heap.size + 1 := by omega
      clear hx hra HA h7 hM hF hFB h3F h03 h0 h3
      have HBX := hide ((Below.refl wr.heap.size wr).alloc (Nat.le_refl _) (.cells #[.int .i64 m.number, .int .i64 m.sender, .int .i64 m.at_, .string m.text, .int .i64 m.edits, .bool m.gone, .int .i64 m.reply, .slice A7 m.likes.length c7] 82))
      go_wp2_with (first
        | (go_at_call 48
           refine (l00Own_c _ m.likes _ (H7.out.below HBX.out) HLK.out).mono ?_
           rintro e w1 ⟨v, rfl, hmd, hb⟩
           obtain ⟨A9, c9, rfl⟩ := hmd.shape
           have hzs := hb.size
           have HMD := hide hmd
           have HBW := hide hb
           simp only [World.size_alloc] at hzs
           have hblk : w1.heap[wr.heap.size]? = some (.cells #[.int .i64 m.number, .int .i64 m.sender, .int .i64 m.at_, .string m.text, .int .i64 m.edits, .bool m.gone, .int .i64 m.reply, .slice A7 m.likes.length c7] 82 (0, 0)) := (hb.block _ (by simp)).trans (alloc_new wr _)
           have y0 : w1.cell? ⟨wr.heap.size, 0, none⟩ = some (.int .i64 m.number) := by rw [cell_block hblk]; rfl
           have y1 : w1.cell? ⟨wr.heap.size, 1, none⟩ = some (.int .i64 m.sender) := by rw [cell_block hblk]; rfl
           have y2 : w1.cell? ⟨wr.heap.size, 2, none⟩ = some (.int .i64 m.at_) := by rw [cell_block hblk]; rfl
           have y3 : w1.cell? ⟨wr.heap.size, 3, none⟩ = some (.string m.text) := by rw [cell_block hblk]; rfl
           have y4 : w1.cell? ⟨wr.heap.size, 4, none⟩ = some (.int .i64 m.edits) := by rw [cell_block hblk]; rfl
           have y5 : w1.cell? ⟨wr.heap.size, 5, none⟩ = some (.bool m.gone) := by rw [cell_block hblk]; rfl
           have y6 : w1.cell? ⟨wr.heap.size, 6, none⟩ = some (.int .i64 m.reply) := by rw [cell_block hblk]; rfl
           have y7 : w1.cell? ⟨wr.heap.size, 7, none⟩ = some (.slice A7 m.likes.length c7) := by rw [cell_block hblk]; rfl
           have f7 : w1.frozen? ⟨wr.heap.size, 7, none⟩ = false := frozen_block hblk
           have h3' : w1.heap[w.heap.size + 1 + 1]? = wr.heap[w.heap.size + 1 + 1]? := (hb.block _ (by simp; omega)).trans (alloc_old wr _ hl3)
           have z1 : w1.cell? ⟨w.heap.size + 1 + 1, 1, none⟩ = some (.slice A5 k c5) := by rw [cell_block (h3'.trans HS.out.1)]; rfl
           have hne : ¬ w.heap.size + 1 + 1 = wr.heap.size := by omega
           have hne2 : ¬ wr.heap.size = w.heap.size + 1 + 1 := by omega
           clear hmd hb hc0 hc1 hc2 hc3 hc4 hc5 hc6 hc7 hblk h3' x0 x1 hb1)
        | (at_builtin
           obtain ⟨hM, hF⟩ := HM.out
           obtain ⟨F9, hM9, hF9, hge9⟩ := HMD.out
           have hW : Chg [] wr ((w1.setCell ⟨wr.heap.size, 7, none⟩ (.slice A9 m.likes.length c9)).alloc (.cells #[.int .i64 m.number, .int .i64 m.sender, .int .i64 m.at_, .string m.text, .int .i64 m.edits, .bool m.gone, .int .i64 m.reply, .slice A9 m.likes.length c9] 82)) :=
             (Chg.setCell (p := ⟨wr.heap.size, 7, none⟩) (((Chg.refl [] wr).alloc _).then HBW.out) (.inr (Nat.le_refl _)) _).alloc _
           have h9 : ∀ b ∈ F9, wr.heap.size < b := fun b hb => by have := hge9 b hb; simp at this; omega
           refine wpList_app (d := messageD) _ rfl _ _ _ rfl (.agg #[(.int .i64 0), (.int .i64 0), (.int .i64 0), (.string ⟨#[]⟩), (.int .i64 0), (.bool false), (.int .i64 0), (.slice none 0 0)]) 8 88 Tryz.underlying29 infoMsg rfl (by omega) rfl _ (l.messages.take k) F rfl
             (hM.move fun b hb => hW.block b (hM.lt b hb) (by simp)) hF ⟨w1.heap.size, 0, none⟩ 1 _ rfl [m] [#[.int .i64 m.number, .int .i64 m.sender, .int .i64 m.at_, .string m.text, .int .i64 m.edits, .bool m.gone, .int .i64 m.reply, .slice A9 m.likes.length c9].toList] [F9] rfl
             (.cons (message_M_mk (hM9.move fun b hb => (alloc_old _ _ (by have := hM9.lt b hb; simpa using this)).trans (Below.heap_setCell w1 _ _ b (by intro e; have h1 := h9 b hb; have h2 : b = wr.heap.size := e; omega)))) .nil) (by simpa using hF9)
             (fun b hb hb2 => by have h1 := h9 b (by simpa using hb); have h2 := hM.lt b hb2; omega)
             (fun j u hu => by
               rw [addr_add]
               have h := World.cell?_alloc_new (w1.setCell ⟨wr.heap.size, 7, none⟩ (.slice A9 m.likes.length c9)) #[.int .i64 m.number, .int .i64 m.sender, .int .i64 m.at_, .string m.text, .int .i64 m.edits, .bool m.gone, .int .i64 m.reply, .slice A9 m.likes.length c9] 82 j
               simp only [World.size_setCell] at h
               rw [h]; simpa using hu) (by omega) (by simp; unfold maxLen; omega) (by simp; omega) ?_
           intro g cap w2 F2 hap
           rw [htl] at hap ⊢
           have ho := own_step HS.out.1 HS.out.2.1 HS.out.2.2.1 HS.out.2.2.2.1 HS.out.2.2.2.2 hW (fun b hb => Nat.le_of_lt (h9 b hb)) (by simpa using hap)
           have HO2 := hide ho.1
           have HC2 := hide ho.2.1
           have z2 : w2.cell? ⟨w.heap.size + 1 + 1, 1, none⟩ = some (.slice A5 k c5) := by rw [cell_block ho.2.2]; rfl
           have f2 : w2.frozen? ⟨w.heap.size + 1 + 1, 1, none⟩ = false := frozen_block ho.2.2
           clear hM hF hM9 hF9 hge9 hW h9 hap ho))
      go_roundg (l.messages.length - (k + 1))
      case measure => omega
      case rel =>
        refine ⟨k + 1, by omega, by omega, by go_num, hide ?_, hide (HB.out.trans (HC2.out.below (B := w.heap.size) HB.out.size (fun b hb => ?_)))⟩
        · rw [List.take_add_one, HX.out]
          exact HO2.out
        · rcases List.mem_cons.1 hb with h | h
          · omega
          · exact Nat.le_of_lt (HS.out.2.1 b h)
    · have : k = l.messages.length := by omega
      subst this
      have q0 : wr.cell? ⟨w.heap.size, 0, none⟩ = some (.int .i64 0) := by rw [cell_block h0]; rfl
      have q1 : wr.cell? ⟨w.heap.size, 1, none⟩ = some (.slice none 0 0) := by rw [cell_block h0]; rfl
      have g0 : ∀ o, wr.frozen? ⟨w.heap.size, o, none⟩ = false := fun o => frozen_block h0
      rw [List.take_length] at hM
      have HM := hide (And.intro hM (And.intro hF (And.intro hFB h0)))
      clear HA hM hF hFB h3F h03 h0 h3
      go_wp2_with fail
      have HZ : Hid (∀ wz, Chg [w.heap.size] wr wz → RetElem logD w l (.returned (.agg #[.int .i64 l.next, .slice A5 l.messages.length c5])) wz) := by
        intro wz hch
        obtain ⟨hM, hF, hFB, h0⟩ := HM.out
        refine ⟨_, F, rfl, log_M_mk (hM.move fun b hb => hch.block b (hM.lt b hb) (by have := hFB b hb; simp; omega)), hF, fun b hb => Nat.le_of_lt (hFB b hb), ?_⟩
        exact HB.out.trans (hch.below HB.out.size (by simp))
      refine bodyPost_ret (v := .agg #[.int .i64 l.next, .slice A5 l.messages.length c5]) (by simp [results, Tryz.results32, go_sem, q0, q1, g0]) rfl (HZ.out _ ?_)
      (repeat (with_reducible refine Chg.setCell ?_ (.inl (by simp)) _))
      exact Chg.refl _ _
/-- append, as a step of a region that draws its order. -/
theorem step_app {P : Program} {α : Type} {d : Dt α} {e : TypeId} {ops : Array Oper} {o : Oper} {a : Act} {w : World} {K : Act → World → Prop} {Q : Exit → Act → World → Prop} {E : Prop} (hg : o.guard = none) (s x : Operand) (t : TypeId)
    (ho : o.op = .call { callee := .builtin .append, args := #[s, x], argTypes := #[t, t] })
    (z : Value) (sz bytes : Nat) (ht : P.underlying t = some (.slice e)) (hinfo : (P.info? e).map (fun i => (i.zero, i.size, i.bytes)) = some (some z, sz, bytes)) (hzs : z.cells.size = sz) (hsz : 0 < sz) (hd : d.sz = sz)
    (v : Value) (xs : List α) (F : List Nat) (hs : a.eval s = v) (hM : SliceM d e w v xs F) (hF : F.Nodup)
    (ad : Addr) (m c : Nat) (hx : a.eval x = .slice (some ad) m c) (ys : List α) (css' : List (List Value)) (Gs : List (List Nat)) (hm : ys.length = m) (hy : All3 (d.M w) ys css' Gs) (hG : Gs.flatten.Nodup) (hdis : ∀ k ∈ Gs.flatten, k ∉ F)
    (hcs : ∀ j u, css'.flatten[j]? = some u → w.cell? (ad.add j) = some u) (hm0 : 0 < m) (hlen : xs.length + m ≤ maxLen) (hbytes : (xs.length + m) * bytes ≤ 140737488355328)
    (h : ∀ g cap w' F', Apped d e w w' (.slice (some ⟨g, 0, none⟩) (xs.length + m) cap) (xs ++ ys) F Gs.flatten F' → K (a.put o.dst (.slice (some ⟨g, 0, none⟩) (xs.length + m) cap)) w') :
    if Region.wanted o (yielded ops a.tmps) = true then Oper.wp P o a w K Q else E := by
  have hw : Region.wanted o (yielded ops a.tmps) = true := by simp [Region.wanted, hg]
  rw [if_pos hw]
  exact wp_app w s x t ho z sz bytes ht hinfo hzs hsz hd v xs F hs hM hF ad m c hx ys css' Gs hm hy hG hdis hcs hm0 hlen hbytes h
set_option maxHeartbeats 8000000 in
set_option maxRecDepth 100000 in
theorem cloneLog_c (l : Log) (v1 : Value) (w : World) (h1 : SliceK messageD w v1 l.messages) (hf : fewL l) :
    Calls Tryz.prog 38 #[.agg #[.int .i64 l.next, v1]] w (RetElem logD w l) := by
  obtain ⟨A, c, rfl, hl, hm, hra⟩ := h1
  have HA := hide hra
  have h40 := hf.1
  have HF := hide hf.2
  clear hra hf
  go_enter Tryz.func38, Tryz.ntmps38
  go_wp2_with fail
  go_loopg [12] l.messages.length (fun gg s12 wr => ∃ k : Nat, k ≤ l.messages.length ∧ l.messages.length - k ≤ gg ∧ s12 = .int .i64 k ∧ Hid (OwnAt wr (w.heap.size + 1) (w.heap.size + 1 + 1) l.next (l.messages.take k)) ∧ Hid (Below w.heap.size w wr))
  case atStart =>
    refine ⟨0, Nat.zero_le _, by omega, rfl, hide ⟨.slice none 0 0, [], ?_, .inl ⟨rfl, rfl, rfl⟩, by simp, by simp, by simp, by omega, ?_⟩, hide ((((Below.refl _ _).alloc (Nat.le_refl _) _).alloc (by simp) _).alloc (by simp; omega) _)⟩
    · have := alloc_new ((w.alloc (.cells #[.int .i64 l.next, .slice A l.messages.length c] 31)).alloc (.cells #[.int .i64 0, .slice none 0 0] 31)) (.cells #[.int .i64 l.next, .slice none 0 0] 31)
      simpa using this
    · rw [alloc_old _ _ (by simp)]
      have := alloc_new (w.alloc (.cells #[.int .i64 l.next, .slice A l.messages.length c] 31)) (.cells #[.int .i64 0, .slice none 0 0] 31)
      simpa using this
  case round =>
    obtain ⟨k, hk, hg, rfl, HO, HB⟩ := hrel
    obtain ⟨sv, F, h3, hM, hF, hFB, h3F, h03, h0⟩ := HO.out
    obtain ⟨A5, c5, rfl⟩ := hM.toK.shape
    have htl : (l.messages.take k).length = k := by rw [List.length_take]; omega
    rw [htl] at hM h3
    have x0 : wr.cell? ⟨w.heap.size + 1 + 1, 0, none⟩ = some (.int .i64 l.next) := by rw [cell_block h3]; rfl
    have x1 : wr.cell? ⟨w.heap.size + 1 + 1, 1, none⟩ = some (.slice A5 k c5) := by rw [cell_block h3]; rfl
    have hl3 := block_lt h3
    by_cases hlt : k < l.messages.length
    · obtain ⟨m, hx⟩ : ∃ m, l.messages[k]? = some m := ⟨_, List.getElem?_eq_getElem hlt⟩
      rcases HA.out with hnil | ⟨q, o2, rfl, hra⟩
      · rw [hnil] at hlt; simp at hlt
      obtain ⟨v7, h7, hq, hc0, hc1, hc2, hc3, hc4, hc5, hc6, hc7⟩ := message_at hra HB.out hx
      obtain ⟨A7, c7, rfl⟩ := h7.shape
      have HX := hide hx
      have H7 := hide h7
      have HLK := hide (HF.out m (List.mem_of_getElem? hx))
      have HS := hide (And.intro h3 (And.intro hFB (And.intro h3F (And.intro h03 h0))))
      have HM := hide (And.intro hM hF)
      have hlt2 : (k : Int) < (l.messages.length : Int) := by omega
      clear hx hra HA h7 hM hF hFB h3F h03 h0 h3
      have HBX := hide ((((Below.refl wr.heap.size wr).alloc (Nat.le_refl _) (.cells #[.int .i64 m.number, .int .i64 m.sender, .int .i64 m.at_, .string m.text, .int .i64 m.edits, .bool m.gone, .int .i64 m.reply, .slice A7 m.likes.length c7] 82))).drew)
      have hne : ¬ w.heap.size + 1 + 1 = wr.heap.size := by omega
      go_wp2_with fail
      go_region_law (first
        | (obtain ⟨hM, hF⟩ := HM.out
           obtain ⟨F9, hM9, hF9, hge9, hW⟩ := HMD.out
           refine step_app (d := messageD) rfl (.tmp 17) (.tmp 20) 29 rfl (.agg #[(.int .i64 0), (.int .i64 0), (.int .i64 0), (.string ⟨#[]⟩), (.int .i64 0), (.bool false), (.int .i64 0), (.slice none 0 0)]) 8 88 Tryz.underlying29 infoMsg rfl (by omega) rfl (.slice A5 k c5) (l.messages.take k) F (by simp [Act.eval, Act.put])
             (hM.move fun b hb => (hW.alloc _).block b (hM.lt b hb) (by simp)) hF ⟨w1.heap.size, 0, none⟩ 1 1 (by simp [Act.eval, Act.put]) [m] [#[.int .i64 m.number, .int .i64 m.sender, .int .i64 m.at_, .string m.text, .int .i64 m.edits, .bool m.gone, .int .i64 m.reply, .slice A9 m.likes.length c9].toList] [F9] rfl
             (.cons (Dt.M_move _ (fun b hb => alloc_old _ _ (messageD.M_lt hM9 b hb)) hM9) .nil) (by simpa using hF9)
             (fun b hb hb2 => by have h1 := hge9 b (by simpa using hb); have h2 := hM.lt b hb2; omega)
             (fun j u hu => by
               rw [addr_add]
               have h := World.cell?_alloc_new w1 #[.int .i64 m.number, .int .i64 m.sender, .int .i64 m.at_, .string m.text, .int .i64 m.edits, .bool m.gone, .int .i64 m.reply, .slice A9 m.likes.length c9] 82 j
               rw [h]; simpa using hu) (by omega) (by simp; unfold maxLen; omega) (by simp; omega) ?_
           intro g cap w2 F2 hap
           rw [htl] at hap ⊢
           have ho := own_step HS.out.1 HS.out.2.1 HS.out.2.2.1 HS.out.2.2.2.1 HS.out.2.2.2.2 (hW.alloc _) (fun b hb => Nat.le_of_lt (hge9 b hb)) (by simpa using hap)
           have HO2 := hide ho.1
           have HC2 := hide ho.2.1
           have z2 : w2.cell? ⟨w.heap.size + 1 + 1, 1, none⟩ = some (.slice A5 k c5) := by rw [cell_block ho.2.2]; rfl
           have f2 : w2.frozen? ⟨w.heap.size + 1 + 1, 1, none⟩ = false := frozen_block ho.2.2
           clear hM hF hM9 hF9 hge9 hW hap ho)
        | (go_simp
           go_wp2_with (
             go_at_call 58
             refine (cloneMessage_c m _ _ (H7.out.below HBX.out) HLK.out).mono ?_
             rintro e w1 ⟨cs9, F9, rfl, hM9, hF9, hge9, hb⟩
             obtain ⟨v9, F9', rfl, hFF, hS9⟩ := message_M hM9
             obtain ⟨A9, c9, rfl⟩ := hS9.toK.shape
             have hzs := hb.size
             simp only [World.size_alloc, World.size_drew] at hzs
             have hW : Chg [] wr w1 := (((Chg.refl [] wr).alloc _).drew).then hb
             have HMD := hide (show ∃ F9, messageD.M w1 m #[.int .i64 m.number, .int .i64 m.sender, .int .i64 m.at_, .string m.text, .int .i64 m.edits, .bool m.gone, .int .i64 m.reply, .slice A9 m.likes.length c9].toList F9 ∧ F9.Nodup ∧ (∀ b ∈ F9, wr.heap.size < b) ∧ Chg [] wr w1 from ⟨F9, hM9, hF9, fun b hb2 => (by have := hge9 b hb2; simp at this; omega), hW⟩)
             have z0 : w1.cell? ⟨w.heap.size + 1 + 1, 0, none⟩ = some (.int .i64 l.next) := hW.cell (by simp) x0
             have hz1 : w.heap.size + 1 + 1 < w1.heap.size := by omega
             have z1 : w1.cell? ⟨w.heap.size + 1 + 1, 1, none⟩ = some (.slice A5 k c5) := hW.cell (by simp) x1
             clear hM9 hF9 hge9 hb hW hS9 hFF)))
      all_goals
        go_wp2_with fail
        go_roundg (l.messages.length - (k + 1))
        case measure => omega
        case rel =>
          refine ⟨k + 1, by omega, by omega, by go_num, hide ?_, hide (HB.out.trans (HC2.out.below (B := w.heap.size) HB.out.size (fun b hb => ?_)))⟩
          · rw [List.take_add_one, HX.out]
            exact HO2.out
          · rcases List.mem_cons.1 hb with h | h
            · omega
            · exact Nat.le_of_lt (Nat.lt_trans (Nat.lt_succ_self _) (HS.out.2.1 b h))
    · have : k = l.messages.length := by omega
      subst this
      have q0 : wr.cell? ⟨w.heap.size + 1, 0, none⟩ = some (.int .i64 0) := by rw [cell_block h0]; rfl
      have q1 : wr.cell? ⟨w.heap.size + 1, 1, none⟩ = some (.slice none 0 0) := by rw [cell_block h0]; rfl
      have g0 : ∀ o, wr.frozen? ⟨w.heap.size + 1, o, none⟩ = false := fun o => frozen_block h0
      rw [List.take_length] at hM
      have HM := hide (And.intro hM (And.intro hF (And.intro hFB h0)))
      clear HA hM hF hFB h3F h03 h0 h3
      go_wp2_with fail
      have HZ : Hid (∀ wz, Chg [w.heap.size + 1] wr wz → RetElem logD w l (.returned (.agg #[.int .i64 l.next, .slice A5 l.messages.length c5])) wz) := by
        intro wz hch
        obtain ⟨hM, hF, hFB, h0⟩ := HM.out
        refine ⟨_, F, rfl, log_M_mk (hM.move fun b hb => hch.block b (hM.lt b hb) (by have := hFB b hb; simp; omega)), hF, fun b hb => by have := hFB b hb; omega, ?_⟩
        exact HB.out.trans (hch.below HB.out.size (by simp))
      refine bodyPost_ret (v := .agg #[.int .i64 l.next, .slice A5 l.messages.length c5]) (by simp [results, Tryz.results38, go_sem, q0, q1, g0]) rfl (HZ.out _ ?_)
      (repeat (with_reducible refine Chg.setCell ?_ (.inl (by simp)) _))
      exact Chg.refl _ _
end Go.Proofs.YtodmongmaoeknaaGreat
