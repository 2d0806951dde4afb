/- append, onto a row that a call owns. -/
import Derived.Test.YtccgjnanphonnaaRow
import Derived.Deep.AppendLies
namespace Go.Proofs.Ytccgjnanphonnaa
open Go Go.RowKit
set_option linter.unusedVariables false

section
variable {P : Program} {α : Type} {d : Dt α} {e : TypeId}

/-- What append leaves: the longer row, its blocks, and what has turned. -/
structure Apped (d : Dt α) (e : TypeId) (w w' : World) (v' : Value) (xs : List α) (F G F' : List Nat) : Prop where
  m : SliceM d e w' v' xs F'
  nodup : F'.Nodup
  from_ : ∀ k ∈ F', k ∈ F ∨ k ∈ G ∨ k = w.heap.size
  chg : Chg F w w'
theorem flatten_const {n : Nat} : ∀ {css : List (List Value)}, (∀ c ∈ css, c.length = n) → css.flatten.length = css.length * n
  | [], _ => by simp
  | c :: css, h => by
    rw [List.flatten_cons, List.length_append, h c List.mem_cons_self, flatten_const fun c hc => h c (List.mem_cons_of_mem _ hc), List.length_cons, Nat.add_mul, Nat.one_mul, Nat.add_comm]
theorem All3.each {β γ : Type} {R : α → β → γ → Prop} {xs : List α} {ys : List β} {zs : List γ} (h : All3 R xs ys zs) : ∀ y ∈ ys, ∃ x z, z ∈ zs ∧ R x y z := by
  induction h with
  | nil => intro y hy; simp at hy
  | cons h t ih =>
    intro y hy
    rcases List.mem_cons.1 hy with rfl | hy
    · exact ⟨_, _, List.mem_cons_self, h⟩
    · obtain ⟨x, z, hz, hr⟩ := ih y hy
      exact ⟨x, z, List.mem_cons_of_mem _ hz, hr⟩

/-- append of some elements onto an owned row. -/
theorem wp_app (w : World) {o : Oper} {a : Act} {K : Act → World → Prop} {Q : Exit → Act → World → Prop} (s x : Operand) (t : TypeId)
    (ho : o.op = .call { callee := .builtin .append, args := #[s, x], argTypes := #[t, t] })
    (z : Value) (sz bytes : Nat) (ht : P.underlying t = some (.slice e)) (hinfo : (P.info? e).map (fun i => (i.zero, i.size, i.bytes)) = some (some z, sz, bytes)) (hzs : z.cells.size = sz) (hsz : 0 < sz) (hd : d.sz = sz)
    (v : Value) (xs : List α) (F : List Nat) (hs : a.eval s = v) (hM : SliceM d e w v xs F) (hF : F.Nodup)
    (ad : Addr) (m c : Nat) (hx : a.eval x = .slice (some ad) m c) (ys : List α) (css' : List (List Value)) (Gs : List (List Nat)) (hm : ys.length = m) (hy : All3 (d.M w) ys css' Gs) (hG : Gs.flatten.Nodup) (hdis : ∀ k ∈ Gs.flatten, k ∉ F)
    (hcs : ∀ j u, css'.flatten[j]? = some u → w.cell? (ad.add j) = some u) (hm0 : 0 < m) (hlen : xs.length + m ≤ maxLen) (hbytes : (xs.length + m) * bytes ≤ 140737488355328)
    (h : ∀ g cap w' F', Apped d e w w' (.slice (some ⟨g, 0, none⟩) (xs.length + m) cap) (xs ++ ys) F Gs.flatten F' → K (a.put o.dst (.slice (some ⟨g, 0, none⟩) (xs.length + m) cap)) w') : o.wp P a w K Q := by
  obtain ⟨i, hi, hz0, hz1, hz2⟩ := info_parts hinfo
  have hlc : ∀ c ∈ css', c.length = d.sz := fun c hc => by obtain ⟨x, z, _, hr⟩ := hy.each c hc; exact d.K_len (d.M_K hr)
  have hnl : css'.flatten.length = m * sz := by rw [flatten_const hlc, hy.len.1, hm, hd]
  have h1 : ∀ u ∈ css'.flatten, u.oneCell' = true := fun u hu => by
    obtain ⟨c, hc, hu⟩ := List.mem_flatten.1 hu
    obtain ⟨x, z, _, hr⟩ := hy.each c hc
    exact d.K_one (d.M_K hr) u hu
  have hyl : ∀ k ∈ Gs.flatten, k < w.heap.size := fun k hk => by
    obtain ⟨G, hG, hk⟩ := List.mem_flatten.1 hk
    obtain ⟨i, hi, hG⟩ := List.mem_iff_getElem.1 hG
    have hl := hy.len
    obtain ⟨y, z, _, h2, h3⟩ := hy.get i (ys[i]'(by omega)) (List.getElem?_eq_getElem _)
    have : z = G := by rw [List.getElem?_eq_getElem hi, hG] at h2; exact (Option.some.inj h2).symm
    subst this
    exact d.M_lt h3 k hk
  rcases hM.row with ⟨rfl, rfl, rfl⟩ | ⟨b, cap, cur, css, Fs, rfl, hrow, rfl⟩
  · refine wp_append_lies w s x t ho 0 e i z sz bytes ht hi hz0 hz1 hz2 hzs hsz _ 0 [] hs (World.ownsRow_nil w 0 e sz) ad m c css'.flatten hx hnl hcs h1 hm0 (by simpa using hlen) (by simpa using hbytes) (Nat.zero_le _) w.heap.size rfl fun g cap w' hown hgr hor hlt => ?_
    obtain ⟨_, h0 | ⟨g', cap', cur, hv, _, hg, hnc, hcm, hcs2, htk⟩⟩ := hown
    · omega
    simp only [Value.slice.injEq, Option.some.injEq, Addr.mk.injEq, and_true, true_and] at hv
    obtain ⟨rfl, rfl⟩ := hv
    have hgeq : g = w.heap.size := by rcases hor with h0 | h0; simp [Value.ownBlock] at h0; exact h0
    have hK := h g cap w' (g :: Gs.flatten)
    simp only [List.length_nil, Nat.zero_add, List.nil_append] at hK hg hnc htk ⊢
    refine hK ⟨.inr ⟨g, cap, cur, css', Gs, by rw [hm], by omega, hcm, hg, by rw [hd]; exact hcs2, by rw [hm, hd]; exact htk, hy.imp fun x y z hz hx => d.M_move (fun k hk => ?_) hx, rfl⟩, ?_, ?_, ?_⟩
    · exact hgr.block k (d.M_lt hx k hk) (by simp [Value.ownBlock])
    · exact List.nodup_cons.2 ⟨fun hk => by have := hyl g hk; omega, hG⟩
    · intro k hk
      rcases List.mem_cons.1 hk with rfl | hk
      · exact .inr (.inr hgeq)
      · exact .inr (.inl hk)
    · exact Chg.grown (Chg.refl _ _) hgr (by simp [Value.ownBlock])
  · have hbF : b ∉ Fs.flatten := (List.nodup_cons.1 hF).1
    refine wp_append_lies w s x t ho 0 e i z sz bytes ht hi hz0 hz1 hz2 hzs hsz _ xs.length css.flatten hs ⟨?_, .inr ⟨b, cap, cur, rfl, Nat.zero_le _, hrow.blk, hrow.le, hrow.max, by rw [← hd]; exact hrow.size, by rw [← hd]; exact hrow.seg⟩⟩ ad m c css'.flatten hx hnl hcs h1 hm0 hlen hbytes (Nat.zero_le _) w.heap.size rfl fun g cap' w' hown hgr hor hlt => ?_
    · rw [flatten_const fun c hc => by obtain ⟨x, z, _, hr⟩ := hrow.all.each c hc; exact d.K_len (d.M_K hr), hrow.lens.1, hd]
    obtain ⟨_, h0 | ⟨g', cap2, cur', hv, _, hg, hnc, hcm, hcs2, htk⟩⟩ := hown
    · omega
    simp only [Value.slice.injEq, Option.some.injEq, Addr.mk.injEq, and_true, true_and] at hv
    obtain ⟨rfl, rfl⟩ := hv
    have hout : ∀ k, k < w.heap.size → k ≠ b → w'.heap[k]? = w.heap[k]? := fun k hk hne => hgr.block k hk (by simp [Value.ownBlock, hne])
    refine h g cap' w' (g :: (Fs ++ Gs).flatten) ⟨.inr ⟨g, cap', cur', css ++ css', Fs ++ Gs, by rw [List.length_append, hm], by rw [List.length_append, hm]; exact hnc, hcm, hg, by rw [hd]; exact hcs2, by rw [List.length_append, hm, hd, List.flatten_append]; exact htk,
      (hrow.all.imp fun x y z hz hx => d.M_move (fun k hk => hout k (d.M_lt hx k hk) (by rintro rfl; exact hbF (List.mem_flatten.2 ⟨z, hz, hk⟩))) hx).append
        (hy.imp fun x y z hz hx => d.M_move (fun k hk => hout k (d.M_lt hx k hk) (by rintro rfl; exact hdis _ (List.mem_flatten.2 ⟨z, hz, hk⟩) List.mem_cons_self)) hx), rfl⟩, ?_, ?_, ?_⟩
    · rw [List.flatten_append]
      refine List.nodup_cons.2 ⟨fun hk => ?_, ?_⟩
      · rcases hor with h0 | h0
        · simp only [Value.ownBlock, Option.some.injEq] at h0
          subst h0
          rcases List.mem_append.1 hk with hk | hk
          · exact hbF hk
          · exact hdis _ hk List.mem_cons_self
        · rcases List.mem_append.1 hk with hk | hk
          · have := hrow.lt g (List.mem_cons_of_mem _ hk); omega
          · have := hyl g hk; omega
      · rw [List.nodup_append]
        refine ⟨(List.nodup_cons.1 hF).2, hG, fun k hk k' hk' hkk => hdis k' hk' (hkk ▸ List.mem_cons_of_mem _ hk)⟩
    · intro k hk
      rw [List.flatten_append] at hk
      rcases List.mem_cons.1 hk with rfl | hk
      · rcases hor with h0 | h0
        · simp only [Value.ownBlock, Option.some.injEq] at h0
          exact .inl (h0 ▸ List.mem_cons_self)
        · exact .inr (.inr h0)
      · rcases List.mem_append.1 hk with hk | hk
        · exact .inl (List.mem_cons_of_mem _ hk)
        · exact .inr (.inl hk)
    · exact Chg.grown (Chg.refl _ _) hgr (by simp only [Value.ownBlock, Option.some.injEq]; rintro x rfl; exact .inl List.mem_cons_self)

theorem wpList_app (w : World) {ops : Array Oper} {rest : List Oper} {o : Oper} {a : Act} {Q : Exit → Act → World → Prop} (hgd : o.guard = none) (s x : Operand) (t : TypeId)
    (ho : o.op = .call { callee := .builtin .append, args := #[s, x], argTypes := #[t, t] })
    (z : Value) (sz bytes : Nat) (ht : P.underlying t = some (.slice e)) (hinfo : (P.info? e).map (fun i => (i.zero, i.size, i.bytes)) = some (some z, sz, bytes)) (hzs : z.cells.size = sz) (hsz : 0 < sz) (hd : d.sz = sz)
    (v : Value) (xs : List α) (F : List Nat) (hs : a.eval s = v) (hM : SliceM d e w v xs F) (hF : F.Nodup)
    (ad : Addr) (m c : Nat) (hx : a.eval x = .slice (some ad) m c) (ys : List α) (css' : List (List Value)) (Gs : List (List Nat)) (hm : ys.length = m) (hy : All3 (d.M w) ys css' Gs) (hG : Gs.flatten.Nodup) (hdis : ∀ k ∈ Gs.flatten, k ∉ F)
    (hcs : ∀ j u, css'.flatten[j]? = some u → w.cell? (ad.add j) = some u) (hm0 : 0 < m) (hlen : xs.length + m ≤ maxLen) (hbytes : (xs.length + m) * bytes ≤ 140737488355328)
    (h : ∀ g cap w' F', Apped d e w w' (.slice (some ⟨g, 0, none⟩) (xs.length + m) cap) (xs ++ ys) F Gs.flatten F' → wpList P ops Q rest (a.put o.dst (.slice (some ⟨g, 0, none⟩) (xs.length + m) cap)) w') : wpList P ops Q (o :: rest) a w :=
  wpList_plain hgd fun _ hK => wp_app w s x t ho z sz bytes ht hinfo hzs hsz hd v xs F hs hM hF ad m c hx ys css' Gs hm hy hG hdis hcs hm0 hlen hbytes fun g cap w' F' h2 => hK _ _ (h g cap w' F' h2)

/-- An empty row that is made, of no room. -/
theorem emptyM (w : World) : SliceM d e (w.alloc (.cells #[] e)) (.slice (some ⟨w.heap.size, 0, none⟩) 0 0) [] [w.heap.size] :=
  .inr ⟨w.heap.size, 0, #[], [], [], rfl, Nat.le_refl _, Nat.zero_le _, alloc_new w _, by simp, by simp, .nil, rfl⟩
end

/-- append of one number that lies in a box of its own. -/
theorem wpList_app_int {P : Program} {e : TypeId} (w : World) {ops : Array Oper} {rest : List Oper} {o : Oper} {a : Act} {Q : Exit → Act → World → Prop} (hgd : o.guard = none) (s x : Operand) (t : TypeId)
    (ho : o.op = .call { callee := .builtin .append, args := #[s, x], argTypes := #[t, t] })
    (ht : P.underlying t = some (.slice e)) (hinfo : (P.info? e).map (fun i => (i.zero, i.size, i.bytes)) = some (some (.int .i64 0), 1, 8))
    (v : Value) (xs : List Int) (F : List Nat) (hs : a.eval s = v) (hM : SliceM intD e w v xs F) (hF : F.Nodup)
    (b : Nat) (c : Nat) (n : Int) (hx : a.eval x = .slice (some ⟨b, 0, none⟩) 1 c)
    (hcs : w.cell? ⟨b, 0, none⟩ = some (.int .i64 n)) (hlen : xs.length < 1048576)
    (h : ∀ g cap w' F', Apped intD e w w' (.slice (some ⟨g, 0, none⟩) (xs.length + 1) cap) (xs ++ [n]) F [] F' → wpList P ops Q rest (a.put o.dst (.slice (some ⟨g, 0, none⟩) (xs.length + 1) cap)) w') : wpList P ops Q (o :: rest) a w :=
  wpList_app (d := intD) w hgd s x t ho (.int .i64 0) 1 8 ht hinfo rfl (by omega) rfl v xs F hs hM hF ⟨b, 0, none⟩ 1 c hx [n] [[.int .i64 n]] [[]] rfl (.cons ⟨rfl, rfl⟩ .nil) (by simp) (by simp)
    (fun j u hu => by cases j with | zero => simp at hu; subst hu; exact hcs | succ j => simp at hu) (by omega) (by unfold maxLen; omega) (by omega) h
end Go.Proofs.Ytccgjnanphonnaa
