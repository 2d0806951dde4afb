/- A message is posted: the program and the reference. -/
import Derived.Test.YtodmongmaoeknaaGreatLive
namespace Go.Proofs.YtodmongmaoeknaaGreat
open Go Go.RowKit Go.BigFrame
attribute [local go_sem] Calm.cell Calm.frozen
set_option linter.unusedVariables false
set_option linter.unusedSimpArgs false

/-- What is posted. -/
def postM (l : Log) (s a : Int) (t : ByteArray) (r : Int) : Message := ⟨l.next, s, a, t, 0, false, r, []⟩
def postNew (l : Log) (s a : Int) (t : ByteArray) (r : Int) : Log := ⟨l.next + 1, l.messages ++ [postM l s a t r]⟩
/-- What is answered is there, and is not gone. -/
def postC (l : Log) (r : Int) : Bool := decide (r = 0) || match l.messages.find? (numIs r) with | none => false | some m => !m.gone
def postOk (l : Log) (s a : Int) (t : ByteArray) (r : Int) : Bool := validLogB l && (postC l r && validLogB (postNew l s a t r))
def postL (l : Log) (s a : Int) (t : ByteArray) (r : Int) : Log := if postOk l s a t r then postNew l s a t r else noLog
def postN (l : Log) (s a : Int) (t : ByteArray) (r : Int) : Int := if postOk l s a t r then l.next else 0
theorem postC_zero {l : Log} {r : Int} (h : r = 0) : postC l r = true := by simp [postC, h]
theorem postC_none {l : Log} {r : Int} (h0 : ¬ r = 0) (h : idxP (numIs r) l.messages < 0) : postC l r = false := by simp [postC, h0, find_none h]
theorem postC_at {l : Log} {r : Int} {k : Nat} {m : Message} (h0 : ¬ r = 0) (hk : idxP (numIs r) l.messages = (k : Int)) (hx : l.messages[k]? = some m) : postC l r = !m.gone := by simp [postC, h0, (find_of_idx hk hx).1]
theorem post_texts {l : Log} {s a : Int} {t : ByteArray} {r : Int} (h : okTexts l.messages) (ht : t.size ≤ 1048576) : okTexts (postNew l s a t r).messages := by
  intro m hm
  rcases List.mem_append.1 hm with h1 | h1
  · exact h m h1
  · have : m = postM l s a t r := by simpa using h1
    rw [this]; show t.size ≤ _; omega
theorem post_cnt (l : Log) (s a : Int) (t : ByteArray) (r : Int) : tcntLog (postL l s a t r) ≤ 1080 := by
  unfold postL
  split
  · rename_i h
    simp only [postOk, Bool.and_eq_true] at h
    exact valid_cnt h.2.2
  · simp [tcntLog, noLog, cntAll]
theorem valid_next {l : Log} (h : validLogB l = true) : 1 ≤ l.next ∧ l.next ≤ 1000000000 := by
  simp only [validLogB, Bool.and_eq_true] at h
  exact inB_iff.1 h.2
theorem RowAt.ofBox {w : World} {l : Log} {B : Nat} {sv : Value} (hb : w.heap[B]? = some (.cells #[.int .i64 l.next, sv] 31 (0, 0))) (h : SliceK messageD w sv l.messages) : RowAt logD w B 0 [l] := by
  intro i y hi
  cases i with
  | succ i => simp at hi
  | zero =>
    simp only [List.getElem?_cons_zero, Option.some.injEq] at hi
    subst hi
    refine ⟨_, log_K_mk h, fun i u hu => ?_⟩
    rw [cell_block hb]
    match i, hu with
    | 0, hu => simpa using hu
    | 1, hu => simpa using hu
    | i + 2, hu => simp at hu
/-- Behind an append of one message the box takes the longer row and the next number. -/
theorem post_step {w W w2 : World} {B : Nat} {nx nx' : Int} {ms : List Message} {m : Message} {sv sv' : Value} {F G F2 : List Nat}
    (h3 : w.heap[B]? = some (.cells #[.int .i64 nx, sv] 31 (0, 0))) (h3F : B ∉ F)
    (hW : Chg [] w W) (hG : ∀ b ∈ G, w.heap.size ≤ b) (hap : Apped messageD 82 W w2 sv' (ms ++ [m]) F G F2) :
    w2.heap[B]? = some (.cells #[.int .i64 nx, sv] 31 (0, 0)) ∧
    ((w2.setCell ⟨B, 1, none⟩ sv').setCell ⟨B, 0, none⟩ (.int .i64 nx')).heap[B]? = some (.cells #[.int .i64 nx', sv'] 31 (0, 0)) ∧
    SliceM messageD 82 ((w2.setCell ⟨B, 1, none⟩ sv').setCell ⟨B, 0, none⟩ (.int .i64 nx')) sv' (ms ++ [m]) F2 ∧ F2.Nodup ∧ (∀ y ∈ F2, y ∈ F ∨ w.heap.size ≤ y) ∧ B ∉ F2 ∧
    Chg (B :: F) w ((w2.setCell ⟨B, 1, none⟩ sv').setCell ⟨B, 0, none⟩ (.int .i64 nx')) := by
  have hl3 := block_lt h3
  have hz := hW.size
  have c2 : Chg F w w2 := (hW.mono (by simp)).trans (hap.chg.mono (fun k hk => .inl hk))
  have hfr : ∀ y ∈ F2, y ∈ F ∨ w.heap.size ≤ y := fun y hy => by
    rcases hap.from_ y hy with h | h | h
    · exact .inl h
    · exact .inr (hG y h)
    · exact .inr (by omega)
  have hne : B ∉ F2 := fun hk => by
    rcases hfr B hk with h | h
    · exact h3F h
    · omega
  have hb3 : w2.heap[B]? = some (.cells #[.int .i64 nx, sv] 31 (0, 0)) := (c2.block B hl3 h3F).trans h3
  refine ⟨hb3, ?_, ?_, hap.nodup, hfr, hne, ?_⟩
  · have := setCell_block (w2.setCell ⟨B, 1, none⟩ sv') B 0 (.int .i64 nx') (setCell_block w2 B 1 sv' hb3)
    simpa using this
  · exact hap.m.move fun b hb => (Below.heap_setCell _ _ _ b (fun e => hne (by have h : b = B := e; exact h ▸ hb))).trans (Below.heap_setCell w2 _ _ b (fun e => hne (by have h : b = B := e; exact h ▸ hb)))
  · exact Chg.setCell (p := ⟨B, 0, none⟩) (Chg.setCell (p := ⟨B, 1, none⟩) (c2.mono (fun k hk => .inl (List.mem_cons_of_mem _ hk))) (.inl List.mem_cons_self) sv') (.inl List.mem_cons_self) _

/-- What post does to a log of a call's own. -/
def Posts (l : Log) (B : Nat) (F : List Nat) (s a : Int) (t : ByteArray) (r : Int) (w : World) (e : Ending) (w' : World) : Prop :=
  e = .returned (.bool (postC l r && validLogB (postNew l s a t r))) ∧ Chg (B :: F) w w' ∧
    ((postC l r && validLogB (postNew l s a t r)) = true → ∃ sv' F', w'.heap[B]? = some (.cells #[.int .i64 (l.next + 1), sv'] 31 (0, 0)) ∧ SliceM messageD 82 w' sv' (l.messages ++ [postM l s a t r]) F' ∧ F'.Nodup ∧ (∀ y ∈ F', y ∈ F ∨ w.heap.size ≤ y) ∧ B ∉ F')
set_option maxHeartbeats 8000000 in
set_option maxRecDepth 100000 in
theorem post_c (l : Log) (B : Nat) (sv : Value) (F : List Nat) (s a : Int) (t : ByteArray) (r : Int) (w : World) (hbx : w.heap[B]? = some (.cells #[.int .i64 l.next, sv] 31 (0, 0))) (hS : SliceM messageD 82 w sv l.messages F) (hF : F.Nodup) (hBF : B ∉ F)
    (ht : okTexts l.messages) (hst : t.size ≤ 1048576) (hv : validLogB l = true) :
    Calls Tryz.prog 85 #[.pointer (some ⟨B, 0, none⟩), .int .i64 s, .int .i64 a, .string t, .int .i64 r] w (Posts l B F s a t r w) := by
  obtain ⟨A5, c5, rfl⟩ := hS.toK.shape
  have h40 := validLog_40 hv
  have hnx := valid_next hv
  have hwr : IntKind.i64.wrap (l.next + 1) = l.next + 1 := IntWalk.i64_in _ (by omega)
  have hlB := block_lt hbx
  have HBX := hide hbx
  have HS := hide hS
  have HF := hide hF
  have HBF := hide hBF
  have HT2 := hide (post_texts (s := s) (a := a) (r := r) ht hst)
  clear hbx hS hF hBF hnx ht
  by_cases h0 : r = 0
  · subst h0
    have HC := hide (postC_zero (l := l) (r := 0) rfl)
    go_enter Tryz.func85, Tryz.ntmps85
    go_wp2_with (go_at_call 98
                 refine (at_c l _ _ _ _ (RowAt.ofBox HBX.out HS.out.toK)).mono ?_
                 rintro e w1 ⟨rfl, hb⟩
                 skip
                 have hz1 := hb.size
                 have hbl := (hb.block _ hlB).trans HBX.out
                 have HB1 := hide hb
                 have HBL1 := hide hbl
                 have b0 : w1.cell? ⟨B, 0, none⟩ = some (.int .i64 l.next) := by rw [cell_block hbl]; rfl
                 have b1 : w1.cell? ⟨B, 1, none⟩ = some (.slice A5 l.messages.length c5) := by rw [cell_block hbl]; rfl
                 have bf : ∀ o, w1.frozen? ⟨B, o, none⟩ = false := fun o => frozen_block hbl
                 have hlB1 := block_lt hbl
                 skip
                 clear hb hbl)
    go_region_law (
      refine step_app (d := messageD) rfl (.tmp 35) (.tmp 45) 29 rfl (.agg #[(.int .i64 0), (.int .i64 0), (.int .i64 0), (.string ⟨#[]⟩), (.int .i64 0), (.bool false), (.int .i64 0), (.slice none 0 0)]) 8 88 Tryz.underlying29 infoMsg rfl (by omega) rfl (.slice A5 l.messages.length c5) l.messages F (by simp [Act.eval, Act.put])
        (HS.out.move fun b hb => (((Chg.of_below HB1.out []).alloc _).drew).block b (HS.out.lt b hb) (by simp)) HF.out ⟨w1.heap.size, 0, none⟩ 1 1 (by simp [Act.eval, Act.put]) [postM l s a t 0] [[.int .i64 l.next, .int .i64 s, .int .i64 a, .string t, .int .i64 0, .bool false, .int .i64 0, .slice none 0 0]] [[]] rfl
        (.cons (message_M_mk (x := postM l s a t 0) (.inl ⟨rfl, rfl, rfl⟩)) .nil) (by simp)
        (fun b hb hb2 => by simp at hb)
        (fun j u hu => by
          rw [addr_add]
          have h := World.cell?_alloc_new w1 #[.int .i64 l.next, .int .i64 s, .int .i64 a, .string t, .int .i64 0, .bool false, .int .i64 0, .slice none 0 0] 82 j
          exact h.trans (by simpa using hu)) (by omega) (by unfold maxLen; omega) (by omega) ?_
      intro g cap w2 F2 hap
      have ho := post_step (nx' := l.next + 1) HBX.out HBF.out (((Chg.of_below HB1.out []).alloc _).drew) (by simp) hap
      have HO := hide ho.2
      have z0 : w2.cell? ⟨B, 0, none⟩ = some (.int .i64 l.next) := by rw [cell_block ho.1]; rfl
      have z1 : w2.cell? ⟨B, 1, none⟩ = some (.slice A5 l.messages.length c5) := by rw [cell_block ho.1]; rfl
      have zf : ∀ o, w2.frozen? ⟨B, o, none⟩ = false := fun o => frozen_block ho.1
      clear ho hap)
    all_goals
      go_wp2_with (
        go_at_call 37
        refine (validLog_c (postNew l s a t 0) _ _ HO.out.2.1.toK HT2.out).mono ?_
        rintro e w5 ⟨rfl, hb⟩
        have HB5 := hide hb
        clear hb)
      go_ret
      refine ⟨ret_bool (by rw [HC.out]; rfl), HO.out.2.2.2.2.2.trans (.of_below HB5.out _), fun _ => ⟨_, F2, (HB5.out.block _ (block_lt HO.out.1)).trans HO.out.1, HO.out.2.1.by HB5.out, HO.out.2.2.1, HO.out.2.2.2.1, HO.out.2.2.2.2.1⟩⟩
  · have h0' : (r != 0) = true := by simp [h0]
    by_cases hn : 0 ≤ idxP (numIs r) l.messages
    · obtain ⟨k, m, hk, hlk, hx, hmn⟩ := idx_found hn
      have hlt2 : (k : Int) < (l.messages.length : Int) := by omega
      have HX := hide hx
      have HC0 := hide (postC_at h0 hk hx)
      clear hn hx hmn
      by_cases hg : m.gone = true
      · have HC := hide (show postC l r = false by rw [HC0.out, hg]; rfl)
        go_enter Tryz.func85, Tryz.ntmps85
        go_wp2_with (go_at_call 98
                     refine (at_c l _ _ _ _ (RowAt.ofBox HBX.out HS.out.toK)).mono ?_
                     rintro e w1 ⟨rfl, hb⟩
                     rw [hk]
                     have hz1 := hb.size
                     have hbl := (hb.block _ hlB).trans HBX.out
                     have HB1 := hide hb
                     have HBL1 := hide hbl
                     have b0 : w1.cell? ⟨B, 0, none⟩ = some (.int .i64 l.next) := by rw [cell_block hbl]; rfl
                     have b1 : w1.cell? ⟨B, 1, none⟩ = some (.slice A5 l.messages.length c5) := by rw [cell_block hbl]; rfl
                     have bf : ∀ o, w1.frozen? ⟨B, o, none⟩ = false := fun o => frozen_block hbl
                     have hlB1 := block_lt hbl
                     (rcases HS.out.row with ⟨hv9, hnil, _⟩ | ⟨b9, cap9, cur9, css9, Fs9, hveq, hrow, hFe⟩; (focus (rw [hnil] at hlk; simp at hlk)); simp only [Value.slice.injEq, true_and] at hveq; obtain ⟨rfl, rfl⟩ := hveq; obtain ⟨cse, Ge, hce, hGe, hme, hcell⟩ := hrow.elem HX.out; obtain ⟨ve, Fe, rfl, rfl, hse⟩ := message_M hme; have g5 := cell_below hb (hcell 5 _ rfl); simp only [show messageD.sz = 8 from rfl] at g5; clear hrow hce hGe hme hcell hse hFe)
                     clear hb hbl)
        go_ret
        refine ⟨ret_bool (by rw [HC.out]; rfl), .of_below HB1.out _, fun h => ?_⟩
        rw [HC.out] at h; simp at h
      · have hg' : m.gone = false := by simpa using hg
        clear hg
        have HC := hide (show postC l r = true by rw [HC0.out, hg']; rfl)
        go_enter Tryz.func85, Tryz.ntmps85
        go_wp2_with (go_at_call 98
                     refine (at_c l _ _ _ _ (RowAt.ofBox HBX.out HS.out.toK)).mono ?_
                     rintro e w1 ⟨rfl, hb⟩
                     rw [hk]
                     have hz1 := hb.size
                     have hbl := (hb.block _ hlB).trans HBX.out
                     have HB1 := hide hb
                     have HBL1 := hide hbl
                     have b0 : w1.cell? ⟨B, 0, none⟩ = some (.int .i64 l.next) := by rw [cell_block hbl]; rfl
                     have b1 : w1.cell? ⟨B, 1, none⟩ = some (.slice A5 l.messages.length c5) := by rw [cell_block hbl]; rfl
                     have bf : ∀ o, w1.frozen? ⟨B, o, none⟩ = false := fun o => frozen_block hbl
                     have hlB1 := block_lt hbl
                     (rcases HS.out.row with ⟨hv9, hnil, _⟩ | ⟨b9, cap9, cur9, css9, Fs9, hveq, hrow, hFe⟩; (focus (rw [hnil] at hlk; simp at hlk)); simp only [Value.slice.injEq, true_and] at hveq; obtain ⟨rfl, rfl⟩ := hveq; obtain ⟨cse, Ge, hce, hGe, hme, hcell⟩ := hrow.elem HX.out; obtain ⟨ve, Fe, rfl, rfl, hse⟩ := message_M hme; have g5 := cell_below hb (hcell 5 _ rfl); simp only [show messageD.sz = 8 from rfl] at g5; clear hrow hce hGe hme hcell hse hFe)
                     clear hb hbl)
        go_region_law (
          refine step_app (d := messageD) rfl (.tmp 35) (.tmp 45) 29 rfl (.agg #[(.int .i64 0), (.int .i64 0), (.int .i64 0), (.string ⟨#[]⟩), (.int .i64 0), (.bool false), (.int .i64 0), (.slice none 0 0)]) 8 88 Tryz.underlying29 infoMsg rfl (by omega) rfl (.slice (some ⟨b9, 0, none⟩) l.messages.length c5) l.messages F (by simp [Act.eval, Act.put])
            (HS.out.move fun b hb => (((Chg.of_below HB1.out []).alloc _).drew).block b (HS.out.lt b hb) (by simp)) HF.out ⟨w1.heap.size, 0, none⟩ 1 1 (by simp [Act.eval, Act.put]) [postM l s a t r] [[.int .i64 l.next, .int .i64 s, .int .i64 a, .string t, .int .i64 0, .bool false, .int .i64 r, .slice none 0 0]] [[]] rfl
            (.cons (message_M_mk (x := postM l s a t r) (.inl ⟨rfl, rfl, rfl⟩)) .nil) (by simp)
            (fun b hb hb2 => by simp at hb)
            (fun j u hu => by
              rw [addr_add]
              have h := World.cell?_alloc_new w1 #[.int .i64 l.next, .int .i64 s, .int .i64 a, .string t, .int .i64 0, .bool false, .int .i64 r, .slice none 0 0] 82 j
              exact h.trans (by simpa using hu)) (by omega) (by unfold maxLen; omega) (by omega) ?_
          intro g cap w2 F2 hap
          have ho := post_step (nx' := l.next + 1) HBX.out HBF.out (((Chg.of_below HB1.out []).alloc _).drew) (by simp) hap
          have HO := hide ho.2
          have z0 : w2.cell? ⟨B, 0, none⟩ = some (.int .i64 l.next) := by rw [cell_block ho.1]; rfl
          have z1 : w2.cell? ⟨B, 1, none⟩ = some (.slice (some ⟨b9, 0, none⟩) l.messages.length c5) := by rw [cell_block ho.1]; rfl
          have zf : ∀ o, w2.frozen? ⟨B, o, none⟩ = false := fun o => frozen_block ho.1
          clear ho hap)
        all_goals
          go_wp2_with (
            go_at_call 37
            refine (validLog_c (postNew l s a t r) _ _ HO.out.2.1.toK HT2.out).mono ?_
            rintro e w5 ⟨rfl, hb⟩
            have HB5 := hide hb
            clear hb)
          go_ret
          refine ⟨ret_bool (by rw [HC.out]; rfl), HO.out.2.2.2.2.2.trans (.of_below HB5.out _), fun _ => ⟨_, F2, (HB5.out.block _ (block_lt HO.out.1)).trans HO.out.1, HO.out.2.1.by HB5.out, HO.out.2.2.1, HO.out.2.2.2.1, HO.out.2.2.2.2.1⟩⟩
    · have hn2 : idxP (numIs r) l.messages < 0 := by omega
      have HC := hide (postC_none h0 hn2)
      go_enter Tryz.func85, Tryz.ntmps85
      go_wp2_with (go_at_call 98
                   refine (at_c l _ _ _ _ (RowAt.ofBox HBX.out HS.out.toK)).mono ?_
                   rintro e w1 ⟨rfl, hb⟩
                   skip
                   have hz1 := hb.size
                   have hbl := (hb.block _ hlB).trans HBX.out
                   have HB1 := hide hb
                   have HBL1 := hide hbl
                   have b0 : w1.cell? ⟨B, 0, none⟩ = some (.int .i64 l.next) := by rw [cell_block hbl]; rfl
                   have b1 : w1.cell? ⟨B, 1, none⟩ = some (.slice A5 l.messages.length c5) := by rw [cell_block hbl]; rfl
                   have bf : ∀ o, w1.frozen? ⟨B, o, none⟩ = false := fun o => frozen_block hbl
                   have hlB1 := block_lt hbl
                   skip
                   clear hb hbl)
      go_ret
      refine ⟨ret_bool (by rw [HC.out]; rfl), .of_below HB1.out _, fun h => ?_⟩
      rw [HC.out] at h; simp at h
theorem postL_no {l : Log} {s a : Int} {t : ByteArray} {r : Int} (h : postOk l s a t r = false) : postL l s a t r = noLog ∧ postN l s a t r = 0 := by simp [postL, postN, h]
theorem postL_yes {l : Log} {s a : Int} {t : ByteArray} {r : Int} (h : postOk l s a t r = true) : postL l s a t r = postNew l s a t r ∧ postN l s a t r = l.next := by simp [postL, postN, h]
set_option maxHeartbeats 8000000 in
set_option maxRecDepth 100000 in
theorem postMessage_c (l : Log) (v1 : Value) (s a : Int) (t : ByteArray) (r : Int) (w : World) (h1 : SliceK messageD w v1 l.messages) (ht : okTexts l.messages) (hs_t : t.size ≤ 1048576) :
    Calls Tryz.prog 59 #[.agg #[.int .i64 l.next, v1], .int .i64 s, .int .i64 a, .string t, .int .i64 r] w (RetElem3 logD w (postL l s a t r) (postN l s a t r) (postOk l s a t r)) := by
  obtain ⟨A, c, rfl⟩ := h1.shape
  have H1 := hide h1
  have HT := hide ht
  clear h1 ht
  have HW := hide (((Below.refl w.heap.size w).alloc (Nat.le_refl _) (.cells #[.int .i64 l.next, .slice A l.messages.length c] 31)).alloc (by simp) (.cells #[.int .i64 0, .slice none 0 0] 31))
  have HZB := hide (show ((w.alloc (.cells #[.int .i64 l.next, .slice A l.messages.length c] 31)).alloc (.cells #[.int .i64 0, .slice none 0 0] 31)).heap[w.heap.size + 1]? = some (.cells #[.int .i64 0, .slice none 0 0] 31 (0, 0)) by
    have := alloc_new (w.alloc (.cells #[.int .i64 l.next, .slice A l.messages.length c] 31)) (.cells #[.int .i64 0, .slice none 0 0] 31)
    simpa using this)
  by_cases hv : validLogB l = true
  · have HV := hide hv
    have HFEW := hide (fewL_of hv)
    clear hv
    by_cases hc : (postC l r && validLogB (postNew l s a t r)) = true
    · have HCV := hide hc
      have HOK := hide (show postOk l s a t r = true by unfold postOk; rw [HV.out, hc]; rfl)
      clear hc
      go_enter Tryz.func59, Tryz.ntmps59
      go_wp2_with (first
        | (go_at_call 37
           refine (validLog_c l _ _ (H1.out.below HW.out) HT.out).mono ?_
           rintro e w1 ⟨rfl, hb⟩
           rw [HV.out]
           have HB1 := hide hb
           have hz1 := hb.size
           simp only [World.size_alloc] at hz1
           have b0 : w1.cell? ⟨w.heap.size, 0, none⟩ = some (.int .i64 l.next) := cell_below hb (by go_simp)
           have b1 : w1.cell? ⟨w.heap.size, 1, none⟩ = some (.slice A l.messages.length c) := cell_below hb (by go_simp)
           have hbl := (hb.block _ (by simp)).trans HZB.out
           have HBL1 := hide hbl
           have p0 : w1.cell? ⟨w.heap.size + 1, 0, none⟩ = some (.int .i64 0) := by rw [cell_block hbl]; rfl
           have p1 : w1.cell? ⟨w.heap.size + 1, 1, none⟩ = some (.slice none 0 0) := by rw [cell_block hbl]; rfl
           have pf : ∀ o, w1.frozen? ⟨w.heap.size + 1, o, none⟩ = false := fun o => frozen_block hbl
           have HE := hide (below_step HW.out hb)
           clear hb hbl)
        | (go_at_call 38
           refine (cloneLog_c l _ _ (H1.out.below (below_step HW.out HB1.out)) HFEW.out).mono ?_
           rintro e w2 ⟨cs2, F2, rfl, hM2, hF2, hge2, hb⟩
           obtain ⟨v2, F2', rfl, rfl, hS2⟩ := log_M hM2
           obtain ⟨A2, c2, rfl⟩ := hS2.toK.shape
           have hz2 := hb.size
           have HB2 := hide (HB1.out.trans (hb.mono HB1.out.size))
           have HS2 := hide (And.intro hS2 (And.intro hF2 (show ∀ x ∈ F2, w.heap.size + 2 ≤ x from fun x hx => (by have := hge2 x hx; omega))))
           have hbl := (HB2.out.block _ (by simp)).trans HZB.out
           have HBL2 := hide hbl
           clear hM2 hF2 hge2 hS2 hb hbl p0 p1 pf b0 b1)
        | (go_at_call 85
           refine (post_c l w2.heap.size _ F2 s a t r _ (alloc_new w2 _) (HS2.out.1.by ((Below.refl _ _).alloc (Nat.le_refl _) _)) HS2.out.2.1 (fun h => (by have := HS2.out.1.lt _ h; omega)) HT.out hs_t HV.out).mono ?_
           rintro e w4 ⟨rfl, hc4, hyes⟩
           rw [HCV.out]
           rw [HCV.out] at hyes
           have HYES := hide hyes
           have c24 : Chg (w2.heap.size :: F2) w2 w4 := ((Chg.refl _ w2).alloc _).trans (hc4.mono (fun y hy => .inl hy))
           have hout : ∀ y ∈ w2.heap.size :: F2, w.heap.size + 2 ≤ y := fun y hy => (by rcases List.mem_cons.1 hy with h | h; omega; exact HS2.out.2.2 y h)
           have hz4 := c24.size
           have hbl := (c24.block _ (by omega) (fun h => by have := hout _ h; omega)).trans HBL2.out
           have hbx := (c24.block w.heap.size (by omega) (fun h => by have := hout _ h; omega))
           have p0 : w4.cell? ⟨w.heap.size + 1, 0, none⟩ = some (.int .i64 0) := by rw [cell_block hbl]; rfl
           have p1 : w4.cell? ⟨w.heap.size + 1, 1, none⟩ = some (.slice none 0 0) := by rw [cell_block hbl]; rfl
           have pf : ∀ o, w4.frozen? ⟨w.heap.size + 1, o, none⟩ = false := fun o => frozen_block hbl
           have n0 : w4.cell? ⟨w.heap.size, 0, none⟩ = some (.int .i64 l.next) := c24.cell (fun h => by have := hout _ h; omega) ((HB2.out.cell (p := ⟨w.heap.size, 0, none⟩) (by simp; omega)).trans (by go_simp))
           have HE2 := hide (below_step HW.out HB2.out)
           clear HE
           have HE := hide (HE2.out.trans (c24.below (B := w.heap.size) HE2.out.size (fun y hy => by have := hout y hy; omega)))
           obtain ⟨sv', F', hbl', hS', hF', hfr', hB'⟩ := hyes rfl
           obtain ⟨A6, c6, rfl⟩ := hS'.toK.shape
           have t0 : w4.cell? ⟨w2.heap.size, 0, none⟩ = some (.int .i64 (l.next + 1)) := by rw [cell_block hbl']; rfl
           have t1 : w4.cell? ⟨w2.heap.size, 1, none⟩ = some (.slice A6 (l.messages ++ [postM l s a t r]).length c6) := by rw [cell_block hbl']; rfl
           have HS4 := hide (And.intro hS' (And.intro hF' (show ∀ y ∈ F', w.heap.size + 2 ≤ y from fun y hy => (by rcases hfr' y hy with h | h; exact HS2.out.2.2 y h; simp at h; omega))))
           clear hbl' hS' hF' hfr' hB'
           clear hc4 hyes c24 hout hbl hbx))
      go_region
      all_goals
        go_wp2_with fail
        have HZ : Hid (∀ wz, Chg [w.heap.size + 1] w4 wz → RetElem3 logD w (postL l s a t r) (postN l s a t r) (postOk l s a t r) (.returned (.tuple #[.agg #[.int .i64 (l.next + 1), .slice A6 (l.messages ++ [postM l s a t r]).length c6], .int .i64 l.next, .bool true])) wz) := by
          intro wz hch
          rw [(postL_yes HOK.out).1, (postL_yes HOK.out).2, HOK.out]
          obtain ⟨hS, hF, hge⟩ := HS4.out
          exact ⟨_, F', rfl, log_M_mk (x := postNew l s a t r) (hS.move fun b hb => hch.block b (hS.lt b hb) (by have := hge b hb; simp; omega)), hF, fun b hb => by have := hge b hb; omega, HE.out.trans (hch.below HE.out.size (by simp))⟩
        refine bodyPost_ret (v := .tuple #[.agg #[.int .i64 (l.next + 1), .slice A6 (l.messages ++ [postM l s a t r]).length c6], .int .i64 l.next, .bool true]) (by simp [results, Tryz.results59, go_sem, p0, p1, pf]) rfl (HZ.out _ ?_)
        (try with_reducible refine Chg.drew ?_)
        (repeat (with_reducible refine Chg.setCell ?_ (.inl (by simp)) _))
        exact Chg.refl _ _
    · have HCV := hide (show (postC l r && validLogB (postNew l s a t r)) = false by simpa using hc)
      have HOK := hide (show postOk l s a t r = false by unfold postOk; rw [HCV.out]; simp)
      clear hc
      go_enter Tryz.func59, Tryz.ntmps59
      go_wp2_with (first
        | (go_at_call 37
           refine (validLog_c l _ _ (H1.out.below HW.out) HT.out).mono ?_
           rintro e w1 ⟨rfl, hb⟩
           rw [HV.out]
           have HB1 := hide hb
           have hz1 := hb.size
           simp only [World.size_alloc] at hz1
           have b0 : w1.cell? ⟨w.heap.size, 0, none⟩ = some (.int .i64 l.next) := cell_below hb (by go_simp)
           have b1 : w1.cell? ⟨w.heap.size, 1, none⟩ = some (.slice A l.messages.length c) := cell_below hb (by go_simp)
           have hbl := (hb.block _ (by simp)).trans HZB.out
           have HBL1 := hide hbl
           have p0 : w1.cell? ⟨w.heap.size + 1, 0, none⟩ = some (.int .i64 0) := by rw [cell_block hbl]; rfl
           have p1 : w1.cell? ⟨w.heap.size + 1, 1, none⟩ = some (.slice none 0 0) := by rw [cell_block hbl]; rfl
           have pf : ∀ o, w1.frozen? ⟨w.heap.size + 1, o, none⟩ = false := fun o => frozen_block hbl
           have HE := hide (below_step HW.out hb)
           clear hb hbl)
        | (go_at_call 38
           refine (cloneLog_c l _ _ (H1.out.below (below_step HW.out HB1.out)) HFEW.out).mono ?_
           rintro e w2 ⟨cs2, F2, rfl, hM2, hF2, hge2, hb⟩
           obtain ⟨v2, F2', rfl, rfl, hS2⟩ := log_M hM2
           obtain ⟨A2, c2, rfl⟩ := hS2.toK.shape
           have hz2 := hb.size
           have HB2 := hide (HB1.out.trans (hb.mono HB1.out.size))
           have HS2 := hide (And.intro hS2 (And.intro hF2 (show ∀ x ∈ F2, w.heap.size + 2 ≤ x from fun x hx => (by have := hge2 x hx; omega))))
           have hbl := (HB2.out.block _ (by simp)).trans HZB.out
           have HBL2 := hide hbl
           clear hM2 hF2 hge2 hS2 hb hbl p0 p1 pf b0 b1)
        | (go_at_call 85
           refine (post_c l w2.heap.size _ F2 s a t r _ (alloc_new w2 _) (HS2.out.1.by ((Below.refl _ _).alloc (Nat.le_refl _) _)) HS2.out.2.1 (fun h => (by have := HS2.out.1.lt _ h; omega)) HT.out hs_t HV.out).mono ?_
           rintro e w4 ⟨rfl, hc4, hyes⟩
           rw [HCV.out]
           rw [HCV.out] at hyes
           have HYES := hide hyes
           have c24 : Chg (w2.heap.size :: F2) w2 w4 := ((Chg.refl _ w2).alloc _).trans (hc4.mono (fun y hy => .inl hy))
           have hout : ∀ y ∈ w2.heap.size :: F2, w.heap.size + 2 ≤ y := fun y hy => (by rcases List.mem_cons.1 hy with h | h; omega; exact HS2.out.2.2 y h)
           have hz4 := c24.size
           have hbl := (c24.block _ (by omega) (fun h => by have := hout _ h; omega)).trans HBL2.out
           have hbx := (c24.block w.heap.size (by omega) (fun h => by have := hout _ h; omega))
           have p0 : w4.cell? ⟨w.heap.size + 1, 0, none⟩ = some (.int .i64 0) := by rw [cell_block hbl]; rfl
           have p1 : w4.cell? ⟨w.heap.size + 1, 1, none⟩ = some (.slice none 0 0) := by rw [cell_block hbl]; rfl
           have pf : ∀ o, w4.frozen? ⟨w.heap.size + 1, o, none⟩ = false := fun o => frozen_block hbl
           have n0 : w4.cell? ⟨w.heap.size, 0, none⟩ = some (.int .i64 l.next) := c24.cell (fun h => by have := hout _ h; omega) ((HB2.out.cell (p := ⟨w.heap.size, 0, none⟩) (by simp; omega)).trans (by go_simp))
           have HE2 := hide (below_step HW.out HB2.out)
           clear HE
           have HE := hide (HE2.out.trans (c24.below (B := w.heap.size) HE2.out.size (fun y hy => by have := hout y hy; omega)))
           skip
           clear hc4 hyes c24 hout hbl hbx))
      have HZ : Hid (∀ wz, Chg [w.heap.size + 1] w4 wz → RetElem3 logD w (postL l s a t r) (postN l s a t r) (postOk l s a t r) (.returned (.tuple #[.agg #[.int .i64 0, .slice none 0 0], .int .i64 0, .bool false])) wz) := by
        intro wz hch
        rw [(postL_no HOK.out).1, (postL_no HOK.out).2, HOK.out]
        exact ⟨_, [], rfl, noLog_M wz, by simp, by simp, HE.out.trans (hch.below HE.out.size (by simp <;> omega))⟩
      refine bodyPost_ret (v := .tuple #[.agg #[.int .i64 0, .slice none 0 0], .int .i64 0, .bool false]) (by simp [results, Tryz.results59, go_sem, p0, p1, pf]) rfl (HZ.out _ ?_)
      (repeat (with_reducible refine Chg.setCell ?_ (.inl (by simp)) _))
      exact Chg.refl _ _
  · have HV := hide (show validLogB l = false by simpa using hv)
    have HOK := hide (show postOk l s a t r = false by unfold postOk; rw [HV.out]; rfl)
    clear hv
    go_enter Tryz.func59, Tryz.ntmps59
    go_wp2_with (go_at_call 37
                 refine (validLog_c l _ _ (H1.out.below HW.out) HT.out).mono ?_
                 rintro e w1 ⟨rfl, hb⟩
                 rw [HV.out]
                 have HB1 := hide hb
                 have hz1 := hb.size
                 simp only [World.size_alloc] at hz1
                 have b0 : w1.cell? ⟨w.heap.size, 0, none⟩ = some (.int .i64 l.next) := cell_below hb (by go_simp)
                 have b1 : w1.cell? ⟨w.heap.size, 1, none⟩ = some (.slice A l.messages.length c) := cell_below hb (by go_simp)
                 have hbl := (hb.block _ (by simp)).trans HZB.out
                 have HBL1 := hide hbl
                 have p0 : w1.cell? ⟨w.heap.size + 1, 0, none⟩ = some (.int .i64 0) := by rw [cell_block hbl]; rfl
                 have p1 : w1.cell? ⟨w.heap.size + 1, 1, none⟩ = some (.slice none 0 0) := by rw [cell_block hbl]; rfl
                 have pf : ∀ o, w1.frozen? ⟨w.heap.size + 1, o, none⟩ = false := fun o => frozen_block hbl
                 have HE := hide (below_step HW.out hb)
                 clear hb hbl)
    have HZ : Hid (∀ wz, Chg [w.heap.size + 1] w1 wz → RetElem3 logD w (postL l s a t r) (postN l s a t r) (postOk l s a t r) (.returned (.tuple #[.agg #[.int .i64 0, .slice none 0 0], .int .i64 0, .bool false])) wz) := by
      intro wz hch
      rw [(postL_no HOK.out).1, (postL_no HOK.out).2, HOK.out]
      exact ⟨_, [], rfl, noLog_M wz, by simp, by simp, HE.out.trans (hch.below HE.out.size (by simp <;> omega))⟩
    refine bodyPost_ret (v := .tuple #[.agg #[.int .i64 0, .slice none 0 0], .int .i64 0, .bool false]) (by simp [results, Tryz.results59, go_sem, p0, p1, pf]) rfl (HZ.out _ ?_)
    (repeat (with_reducible refine Chg.setCell ?_ (.inl (by simp)) _))
    exact Chg.refl _ _
end Go.Proofs.YtodmongmaoeknaaGreat
