/- A room is copied: the program and the reference. -/
import Derived.Test.YtglhepbcbildpaaRTypes
import Derived.Test.YtglhepbcbildpaaRGround
import Derived.Deep.RegionWith
namespace Go.Proofs.Ytglhepbcbildpaa
open Go Go.RowKit Go.BigFrame
set_option linter.unusedVariables false
set_option linter.unusedSimpArgs false

def fewR (r : Room) : Prop := r.members.length ≤ 40 ∧ r.invites.length ≤ 40 ∧ r.bans.length ≤ 40
theorem fewR_of {r : Room} (h : validRoomB r = true) : fewR r := by
  simp only [validRoomB, Bool.and_eq_true, decide_eq_true_eq] at h
  refine ⟨?_, ?_, ?_⟩ <;> omega
section
variable {P : Program} {α : Type} {n : Nat} {enc : α → List Value} {hl : ∀ x, (enc x).length = n} {h1 : ∀ x, ∀ u ∈ enc x, u.oneCell' = true}
/-- append of a whole row of flat structs, empty or not, to an empty row of one's own. -/
theorem wpList_copy_flat {e : TypeId} (w : World) {ops : Array Oper} {rest : List Oper} {o : Oper} {a : Act} {Q : Exit → Act → World → Prop} (hgd : o.guard = none) (s x : Operand) (t : TypeId)
    (ho : o.op = .call { callee := .builtin .append, args := #[s, x], argTypes := #[t, t] }) (z : Value) (bytes : Nat)
    (ht : P.underlying t = some (.slice e)) (hinfo : (P.info? e).map (fun i => (i.zero, i.size, i.bytes)) = some (some z, n, bytes)) (hzs : z.cells.size = n) (hn : 0 < n) (hby : bytes ≤ 1000)
    (b0 : Nat) (F : List Nat) (hs : a.eval s = .slice (some ⟨b0, 0, none⟩) 0 0) (hM : SliceM (Dt.flat n enc hl h1) e w (.slice (some ⟨b0, 0, none⟩) 0 0) [] F) (hF : F.Nodup)
    (B : Nat) (hB : B ≤ w.heap.size) (hge : ∀ y ∈ F, B ≤ y)
    (A : Option Addr) (c : Nat) (ys : List α) (hx : a.eval x = .slice A ys.length c) (hK : SliceK (Dt.flat n enc hl h1) w (.slice A ys.length c) ys) (hlen : ys.length ≤ 1048576)
    (h : ∀ A' c' w' F', SliceM (Dt.flat n enc hl h1) e w' (.slice A' ys.length c') ys F' → F'.Nodup → (∀ y ∈ F', y ∈ F ∨ y = w.heap.size) → Chg F w w' → wpList P ops Q rest (a.put o.dst (.slice A' ys.length c')) w') : wpList P ops Q (o :: rest) a w := by
  by_cases h0 : ys = []
  · subst h0
    obtain ⟨i, hi, _⟩ := info_parts hinfo
    exact wpList_app0 w hgd s x t e ho i ht hi _ 0 0 (Nat.le_refl _) hs A c hx (h _ _ w F hM hF (fun y hy => .inl hy) (Chg.refl _ _))
  · obtain ⟨A2, c2, heq, _, _, hor⟩ := hK
    simp only [Value.slice.injEq] at heq
    obtain ⟨rfl, _, rfl⟩ := heq
    rcases hor with hnil | ⟨b, o2, rfl, hr⟩
    · exact absurd hnil h0
    refine wpList_app_flat w hgd s x t ho z bytes ht hinfo hzs hn hby _ [] F hs hM hF b o2 c ys hx hr (List.length_pos_iff.2 h0) (by simpa using hlen) ?_
    intro g cap w' F' hap
    have hm := hap.m
    have hf := hap.from_
    simp only [List.length_nil, Nat.zero_add, List.nil_append] at hm ⊢
    refine h _ _ w' F' hm hap.nodup (fun y hy => ?_) hap.chg
    rcases hf y hy with h | h | h
    · exact .inl h
    · simp at h
    · exact .inr h
end
theorem room_made {w Wg w1 w2 w3 wz : World} {r : Room} {v1 v2 v3 : Value} (hg : w.heap.size + 2 ≤ Wg.heap.size) (m1 : Made memberD 55 Wg w1 v1 r.members)
    (m2 : Made inviteD 39 w1 w2 v2 r.invites) (b2 : Below w1.heap.size w1 w2) (m3 : Made banD 41 w2 w3 v3 r.bans) (b3 : Below w2.heap.size w2 w3)
    (hs : Wg.heap.size ≤ w1.heap.size) (hb : Below w.heap.size w w3) (hc : Chg [w.heap.size, w.heap.size + 1] w3 wz) : RetElem roomD w r (.returned (.agg #[.bool r.open_, v1, v2, v3])) wz := by
  obtain ⟨F1, h1, n1, g1⟩ := m1
  obtain ⟨F2, h2, n2, g2⟩ := m2
  obtain ⟨F3, h3, n3, g3⟩ := m3
  have l1 := h1.lt
  have l2 := h2.lt
  have s2 := b2.size
  have s3 := b3.size
  have k1 := (h1.by b2).by b3
  have k2 := h2.by b3
  refine ⟨_, F1 ++ (F2 ++ F3), rfl, room_M_mk (k1.chg hc fun y hy h => ?_) (k2.chg hc fun y hy h => ?_) (h3.chg hc fun y hy h => ?_), ?_, ?_, hb.trans (hc.below (hb.size) fun k hk => ?_)⟩
  · have := g1 y hy; simp at h; omega
  · have := g2 y hy; simp at h; omega
  · have := g3 y hy; simp at h; omega
  · refine List.nodup_append.2 ⟨n1, List.nodup_append.2 ⟨n2, n3, fun a ha b hb e => ?_⟩, fun a ha b hb e => ?_⟩
    · have := l2 a ha; have := g3 b hb; omega
    · have := l1 a ha
      rcases List.mem_append.1 hb with hb | hb
      · have := g2 b hb; omega
      · have := g3 b hb; omega
  · intro b hb
    rcases List.mem_append.1 hb with hb | hb
    · have := g1 b hb; omega
    · rcases List.mem_append.1 hb with hb | hb
      · have := g2 b hb; omega
      · have := g3 b hb; omega
  · simp at hk; omega
set_option maxHeartbeats 4000000 in
set_option maxRecDepth 100000 in
theorem cloneRoom_c (r : Room) (v1 v2 v3 : Value) (w : World) (h1 : SliceK memberD w v1 r.members) (h2 : SliceK inviteD w v2 r.invites) (h3 : SliceK banD w v3 r.bans) (hf : fewR r) :
    Calls Try.prog 38 #[.agg #[.bool r.open_, v1, v2, v3]] w (RetElem roomD w r) := by
  obtain ⟨A1, c1, rfl⟩ := h1.shape
  obtain ⟨A2, c2, rfl⟩ := h2.shape
  obtain ⟨A3, c3, rfl⟩ := h3.shape
  have H1 := hide h1
  have H2 := hide h2
  have H3 := hide h3
  have hf1 := hf.1
  have hf2 := hf.2.1
  have hf3 := hf.2.2
  clear h1 h2 h3 hf
  go_enter Try.func38, Try.ntmps38
  go_wp2_with fail
  obtain ⟨Wg, hWg⟩ : ∃ V, V = (w.alloc (.cells #[.bool r.open_, .slice A1 r.members.length c1, .slice A2 r.invites.length c2, .slice A3 r.bans.length c3] 28)).alloc (.cells #[.bool false, .slice none 0 0, .slice none 0 0, .slice none 0 0] 28) := ⟨_, rfl⟩
  rw [← hWg]
  have HG := hide (show Below w.heap.size w Wg by rw [hWg]; exact (((Below.refl _ _).alloc (Nat.le_refl _) _).alloc (by simp) _))
  have HC0 := hide (show Wg.heap[w.heap.size]? = some (.cells #[.bool r.open_, .slice A1 r.members.length c1, .slice A2 r.invites.length c2, .slice A3 r.bans.length c3] 28 (0, 0)) by rw [hWg, alloc_old _ _ (by simp)]; exact alloc_new w _)
  have HC1 := hide (show Wg.heap[w.heap.size + 1]? = some (.cells #[.bool false, .slice none 0 0, .slice none 0 0, .slice none 0 0] 28 (0, 0)) by rw [hWg]; simpa using alloc_new (w.alloc (.cells #[.bool r.open_, .slice A1 r.members.length c1, .slice A2 r.invites.length c2, .slice A3 r.bans.length c3] 28)) (.cells #[.bool false, .slice none 0 0, .slice none 0 0, .slice none 0 0] 28))
  clear hWg
  have hg0 := block_lt HC0.out
  have hg1 := block_lt HC1.out
  have a0_0 : Wg.cell? ⟨w.heap.size, 0, none⟩ = some (.bool r.open_) := by rw [cell_block HC0.out]; rfl
  have a0_1 : Wg.cell? ⟨w.heap.size, 1, none⟩ = some (.slice A1 r.members.length c1) := by rw [cell_block HC0.out]; rfl
  have a0_2 : Wg.cell? ⟨w.heap.size, 2, none⟩ = some (.slice A2 r.invites.length c2) := by rw [cell_block HC0.out]; rfl
  have a0_3 : Wg.cell? ⟨w.heap.size, 3, none⟩ = some (.slice A3 r.bans.length c3) := by rw [cell_block HC0.out]; rfl
  go_region_with (first
    | (go_at_call 41
       refine (cloneMember_c _ r.members _ (H1.out.below HG.out.drew) (by omega)).mono ?_
       rintro e w1 ⟨v, rfl, hM, hb⟩
       obtain ⟨B1, e1, rfl⟩ := hM.shape
       have HM1 := hide hM
       have HBB1 := hide hb
       have HB1 := hide (below_step HG.out.drew hb)
       have hbl1 : w1.heap[w.heap.size]? = some (.cells #[.bool r.open_, .slice A1 r.members.length c1, .slice A2 r.invites.length c2, .slice A3 r.bans.length c3] 28 (0, 0)) := (hb.block _ hg0).trans HC0.out
       have hbr1 : w1.heap[w.heap.size + 1]? = some (.cells #[.bool false, .slice none 0 0, .slice none 0 0, .slice none 0 0] 28 (0, 0)) := (hb.block _ hg1).trans HC1.out
       have a1_0 : w1.cell? ⟨w.heap.size, 0, none⟩ = some (.bool r.open_) := by rw [cell_block hbl1]; rfl
       have a1_1 : w1.cell? ⟨w.heap.size, 1, none⟩ = some (.slice A1 r.members.length c1) := by rw [cell_block hbl1]; rfl
       have a1_2 : w1.cell? ⟨w.heap.size, 2, none⟩ = some (.slice A2 r.invites.length c2) := by rw [cell_block hbl1]; rfl
       have a1_3 : w1.cell? ⟨w.heap.size, 3, none⟩ = some (.slice A3 r.bans.length c3) := by rw [cell_block hbl1]; rfl
       have f1_0 : ∀ o, w1.frozen? ⟨w.heap.size, o, none⟩ = false := fun o => frozen_block hbl1
       have r1_0 : w1.cell? ⟨w.heap.size + 1, 0, none⟩ = some (.bool false) := by rw [cell_block hbr1]; rfl
       have r1_1 : w1.cell? ⟨w.heap.size + 1, 1, none⟩ = some (.slice none 0 0) := by rw [cell_block hbr1]; rfl
       have r1_2 : w1.cell? ⟨w.heap.size + 1, 2, none⟩ = some (.slice none 0 0) := by rw [cell_block hbr1]; rfl
       have r1_3 : w1.cell? ⟨w.heap.size + 1, 3, none⟩ = some (.slice none 0 0) := by rw [cell_block hbr1]; rfl
       have f1_1 : ∀ o, w1.frozen? ⟨w.heap.size + 1, o, none⟩ = false := fun o => frozen_block hbr1
       have hz10 := block_lt hbl1
       have hz11 := block_lt hbr1
       have hzz1 := hb.size
       clear hM hb)
    | (go_at_call 52
       refine (cloneInvite_c _ r.invites _ (H2.out.below HB1.out) (by omega)).mono ?_
       rintro e w2 ⟨v, rfl, hM, hb⟩
       obtain ⟨B2, e2, rfl⟩ := hM.shape
       have HM2 := hide hM
       have HBB2 := hide hb
       have HB2 := hide (below_step HB1.out hb)
       have hbl2 : w2.heap[w.heap.size]? = _ := (hb.block _ (block_lt hbl1)).trans hbl1
       have hbr2 : w2.heap[w.heap.size + 1]? = _ := (hb.block _ (block_lt hbr1)).trans hbr1
       have a2_0 : w2.cell? ⟨w.heap.size, 0, none⟩ = some (.bool r.open_) := by rw [cell_block hbl2]; rfl
       have a2_1 : w2.cell? ⟨w.heap.size, 1, none⟩ = some (.slice A1 r.members.length c1) := by rw [cell_block hbl2]; rfl
       have a2_2 : w2.cell? ⟨w.heap.size, 2, none⟩ = some (.slice A2 r.invites.length c2) := by rw [cell_block hbl2]; rfl
       have a2_3 : w2.cell? ⟨w.heap.size, 3, none⟩ = some (.slice A3 r.bans.length c3) := by rw [cell_block hbl2]; rfl
       have f2_0 : ∀ o, w2.frozen? ⟨w.heap.size, o, none⟩ = false := fun o => frozen_block hbl2
       have r2_0 : w2.cell? ⟨w.heap.size + 1, 0, none⟩ = some (.bool false) := by rw [cell_block hbr2]; rfl
       have r2_1 : w2.cell? ⟨w.heap.size + 1, 1, none⟩ = some (.slice none 0 0) := by rw [cell_block hbr2]; rfl
       have r2_2 : w2.cell? ⟨w.heap.size + 1, 2, none⟩ = some (.slice none 0 0) := by rw [cell_block hbr2]; rfl
       have r2_3 : w2.cell? ⟨w.heap.size + 1, 3, none⟩ = some (.slice none 0 0) := by rw [cell_block hbr2]; rfl
       have f2_1 : ∀ o, w2.frozen? ⟨w.heap.size + 1, o, none⟩ = false := fun o => frozen_block hbr2
       have hz20 := block_lt hbl2
       have hz21 := block_lt hbr2
       have hzz2 := hb.size
       clear hM hb)
    | (go_at_call 53
       refine (cloneBan_c _ r.bans _ (H3.out.below HB2.out) (by omega)).mono ?_
       rintro e w3 ⟨v, rfl, hM, hb⟩
       obtain ⟨B3, e3, rfl⟩ := hM.shape
       have HM3 := hide hM
       have HBB3 := hide hb
       have HB3 := hide (below_step HB2.out hb)
       have hbl3 : w3.heap[w.heap.size]? = _ := (hb.block _ (block_lt hbl2)).trans hbl2
       have hbr3 : w3.heap[w.heap.size + 1]? = _ := (hb.block _ (block_lt hbr2)).trans hbr2
       have a3_0 : w3.cell? ⟨w.heap.size, 0, none⟩ = some (.bool r.open_) := by rw [cell_block hbl3]; rfl
       have a3_1 : w3.cell? ⟨w.heap.size, 1, none⟩ = some (.slice A1 r.members.length c1) := by rw [cell_block hbl3]; rfl
       have a3_2 : w3.cell? ⟨w.heap.size, 2, none⟩ = some (.slice A2 r.invites.length c2) := by rw [cell_block hbl3]; rfl
       have a3_3 : w3.cell? ⟨w.heap.size, 3, none⟩ = some (.slice A3 r.bans.length c3) := by rw [cell_block hbl3]; rfl
       have f3_0 : ∀ o, w3.frozen? ⟨w.heap.size, o, none⟩ = false := fun o => frozen_block hbl3
       have r3_0 : w3.cell? ⟨w.heap.size + 1, 0, none⟩ = some (.bool false) := by rw [cell_block hbr3]; rfl
       have r3_1 : w3.cell? ⟨w.heap.size + 1, 1, none⟩ = some (.slice none 0 0) := by rw [cell_block hbr3]; rfl
       have r3_2 : w3.cell? ⟨w.heap.size + 1, 2, none⟩ = some (.slice none 0 0) := by rw [cell_block hbr3]; rfl
       have r3_3 : w3.cell? ⟨w.heap.size + 1, 3, none⟩ = some (.slice none 0 0) := by rw [cell_block hbr3]; rfl
       have f3_1 : ∀ o, w3.frozen? ⟨w.heap.size + 1, o, none⟩ = false := fun o => frozen_block hbr3
       have hz30 := block_lt hbl3
       have hz31 := block_lt hbr3
       have hzz3 := hb.size
       clear hM hb))
  all_goals
    have HZ := hide (fun wz (hc : Chg [w.heap.size, w.heap.size + 1] w3 wz) => room_made (r := r) (Wg := Wg.drew) (show w.heap.size + 2 ≤ Wg.heap.size by omega) HM1.out HM2.out HBB2.out HM3.out HBB3.out hzz1 HB3.out hc)
    clear hbl1 hbl2 hbl3 hbr1 hbr2 hbr3
    go_wp2_with fail
    refine bodyPost_ret (v := .agg #[.bool r.open_, .slice B1 r.members.length e1, .slice B2 r.invites.length e2, .slice B3 r.bans.length e3]) (by simp [results, Try.results38, go_sem, a3_0, r3_0, r3_1, r3_2, r3_3, hz30, hz31]) rfl (HZ.out _ ?_)
    (repeat (with_reducible refine Chg.setCell ?_ (.inl (by simp)) _))
    exact Chg.refl _ _
end Go.Proofs.Ytglhepbcbildpaa
