/- The Go structs of the part Event as Lean structures, and how they lie in cells. -/
import Derived.Test.YtadcmiinjepdcaaGreatTyLog
namespace Go.Proofs.YtadcmiinjepdcaaGreat
open Go Go.RowKit
set_option linter.unusedVariables false
set_option linter.unusedSimpArgs false

/-! ### Event -/
structure Event where
  kind : Int
  number : Int
  member : Int
  at_ : Int
  text : ByteArray
  reply : Int
  deriving DecidableEq, Inhabited
def eventD : Dt Event := Dt.flat 6 (fun x : Event => [.int .i64 x.kind, .int .i64 x.number, .int .i64 x.member, .int .i64 x.at_, .string x.text, .int .i64 x.reply]) (fun _ => rfl) (fun x u hu => by simp at hu; rcases hu with rfl | rfl | rfl | rfl | rfl | rfl <;> rfl)
theorem event_at {w W : World} {b o j : Nat} {xs : List Event} {x : Event} (h : RowAt eventD w b o xs) (hb : Below w.heap.size w W) (hj : xs[j]? = some x) : b < W.heap.size ∧ W.cell? ⟨b, o + j * 6, none⟩ = some (.int .i64 x.kind) ∧ W.cell? ⟨b, o + j * 6 + 1, none⟩ = some (.int .i64 x.number) ∧ W.cell? ⟨b, o + j * 6 + 2, none⟩ = some (.int .i64 x.member) ∧ W.cell? ⟨b, o + j * 6 + 3, none⟩ = some (.int .i64 x.at_) ∧ W.cell? ⟨b, o + j * 6 + 4, none⟩ = some (.string x.text) ∧ W.cell? ⟨b, o + j * 6 + 5, none⟩ = some (.int .i64 x.reply) := by
  obtain ⟨cs, hk, hc⟩ := (h.below hb) j x hj
  obtain rfl : cs = [.int .i64 x.kind, .int .i64 x.number, .int .i64 x.member, .int .i64 x.at_, .string x.text, .int .i64 x.reply] := hk
  have hc : ∀ i u, ([.int .i64 x.kind, .int .i64 x.number, .int .i64 x.member, .int .i64 x.at_, .string x.text, .int .i64 x.reply] : List Value)[i]? = some u → W.cell? ⟨b, o + j * 6 + i, none⟩ = some u := hc
  exact ⟨World.block_lt_of_cell? W _ (hc 0 _ rfl), hc 0 _ rfl, hc 1 _ rfl, hc 2 _ rfl, hc 3 _ rfl, hc 4 _ rfl, hc 5 _ rfl⟩

/-! ### History -/
structure History where
  base : Log
  events : List Event
  deriving DecidableEq, Inhabited
def historyD : Dt History := Dt.cat (Dt.flat 1 (fun x : History => [.int .i64 x.base.next]) (fun _ => rfl) (fun x u hu => by simp at hu; subst hu; rfl)) (Dt.cat ((Dt.slice 90 messageD).iso (fun x : History => x.base.messages)) ((Dt.slice 74 eventD).iso (fun x : History => x.events)))
theorem history_K {w : World} {x : History} {cs : List Value} (h : historyD.K w x cs) : ∃ v1 v2, cs = [.int .i64 x.base.next, v1, v2] ∧ SliceK messageD w v1 x.base.messages ∧ SliceK eventD w v2 x.events := by
  obtain ⟨_, _, rfl, rfl, ⟨_, _, rfl, ⟨v1, rfl, h1⟩, ⟨v2, rfl, h2⟩⟩⟩ := h
  exact ⟨v1, v2, rfl, h1, h2⟩
theorem history_K_mk {w : World} {x : History} {v1 v2 : Value} (h1 : SliceK messageD w v1 x.base.messages) (h2 : SliceK eventD w v2 x.events) : historyD.K w x [.int .i64 x.base.next, v1, v2] := by
  exact ⟨_, _, rfl, rfl, ⟨_, _, rfl, ⟨v1, rfl, h1⟩, ⟨v2, rfl, h2⟩⟩⟩
theorem history_M {w : World} {x : History} {cs : List Value} {F : List Nat} (h : historyD.M w x cs F) : ∃ v1 v2 F1 F2, cs = [.int .i64 x.base.next, v1, v2] ∧ F = F1 ++ F2 ∧ SliceM messageD 90 w v1 x.base.messages F1 ∧ SliceM eventD 74 w v2 x.events F2 := by
  obtain ⟨_, _, _, _, rfl, rfl, ⟨rfl, rfl⟩, ⟨_, _, F1, F2, rfl, rfl, ⟨v1, rfl, h1⟩, ⟨v2, rfl, h2⟩⟩⟩ := h
  exact ⟨v1, v2, F1, F2, rfl, by simp, h1, h2⟩
theorem history_M_mk {w : World} {x : History} {v1 v2 : Value} {F1 F2 : List Nat} (h1 : SliceM messageD 90 w v1 x.base.messages F1) (h2 : SliceM eventD 74 w v2 x.events F2) : historyD.M w x [.int .i64 x.base.next, v1, v2] (F1 ++ F2) := by
  exact ⟨_, _, [], (F1 ++ F2), rfl, by simp, ⟨rfl, rfl⟩, ⟨_, _, F1, F2, rfl, by simp, ⟨v1, rfl, h1⟩, ⟨v2, rfl, h2⟩⟩⟩
theorem history_at {w W : World} {b o j : Nat} {xs : List History} {x : History} (h : RowAt historyD w b o xs) (hb : Below w.heap.size w W) (hj : xs[j]? = some x) : ∃ v1 v2, SliceK messageD W v1 x.base.messages ∧ SliceK eventD W v2 x.events ∧ b < W.heap.size ∧ W.cell? ⟨b, o + j * 3, none⟩ = some (.int .i64 x.base.next) ∧ W.cell? ⟨b, o + j * 3 + 1, none⟩ = some (v1) ∧ W.cell? ⟨b, o + j * 3 + 2, none⟩ = some (v2) := by
  obtain ⟨cs, hk, hc⟩ := (h.below hb) j x hj
  obtain ⟨v1, v2, rfl, h1, h2⟩ := history_K hk
  have hc : ∀ i u, ([.int .i64 x.base.next, v1, v2] : List Value)[i]? = some u → W.cell? ⟨b, o + j * 3 + i, none⟩ = some u := hc
  exact ⟨v1, v2, h1, h2, World.block_lt_of_cell? W _ (hc 0 _ rfl), hc 0 _ rfl, hc 1 _ rfl, hc 2 _ rfl⟩

/-! ### Sync -/
structure Sync where
  kind : Int
  events : List Event
  whole : Log
  deriving DecidableEq, Inhabited
def syncD : Dt Sync := Dt.cat (Dt.flat 1 (fun x : Sync => [.int .i64 x.kind]) (fun _ => rfl) (fun x u hu => by simp at hu; subst hu; rfl)) (Dt.cat ((Dt.slice 74 eventD).iso (fun x : Sync => x.events)) (Dt.cat (Dt.flat 1 (fun x : Sync => [.int .i64 x.whole.next]) (fun _ => rfl) (fun x u hu => by simp at hu; subst hu; rfl)) ((Dt.slice 90 messageD).iso (fun x : Sync => x.whole.messages))))
theorem sync_K {w : World} {x : Sync} {cs : List Value} (h : syncD.K w x cs) : ∃ v1 v3, cs = [.int .i64 x.kind, v1, .int .i64 x.whole.next, v3] ∧ SliceK eventD w v1 x.events ∧ SliceK messageD w v3 x.whole.messages := by
  obtain ⟨_, _, rfl, rfl, ⟨_, _, rfl, ⟨v1, rfl, h1⟩, ⟨_, _, rfl, rfl, ⟨v3, rfl, h3⟩⟩⟩⟩ := h
  exact ⟨v1, v3, rfl, h1, h3⟩
theorem sync_K_mk {w : World} {x : Sync} {v1 v3 : Value} (h1 : SliceK eventD w v1 x.events) (h3 : SliceK messageD w v3 x.whole.messages) : syncD.K w x [.int .i64 x.kind, v1, .int .i64 x.whole.next, v3] := by
  exact ⟨_, _, rfl, rfl, ⟨_, _, rfl, ⟨v1, rfl, h1⟩, ⟨_, _, rfl, rfl, ⟨v3, rfl, h3⟩⟩⟩⟩
theorem sync_M {w : World} {x : Sync} {cs : List Value} {F : List Nat} (h : syncD.M w x cs F) : ∃ v1 v3 F1 F3, cs = [.int .i64 x.kind, v1, .int .i64 x.whole.next, v3] ∧ F = F1 ++ F3 ∧ SliceM eventD 74 w v1 x.events F1 ∧ SliceM messageD 90 w v3 x.whole.messages F3 := by
  obtain ⟨_, _, _, _, rfl, rfl, ⟨rfl, rfl⟩, ⟨_, _, F1, _, rfl, rfl, ⟨v1, rfl, h1⟩, ⟨_, _, _, F3, rfl, rfl, ⟨rfl, rfl⟩, ⟨v3, rfl, h3⟩⟩⟩⟩ := h
  exact ⟨v1, v3, F1, F3, rfl, by simp, h1, h3⟩
theorem sync_M_mk {w : World} {x : Sync} {v1 v3 : Value} {F1 F3 : List Nat} (h1 : SliceM eventD 74 w v1 x.events F1) (h3 : SliceM messageD 90 w v3 x.whole.messages F3) : syncD.M w x [.int .i64 x.kind, v1, .int .i64 x.whole.next, v3] (F1 ++ F3) := by
  exact ⟨_, _, [], (F1 ++ F3), rfl, by simp, ⟨rfl, rfl⟩, ⟨_, _, F1, F3, rfl, by simp, ⟨v1, rfl, h1⟩, ⟨_, _, [], F3, rfl, by simp, ⟨rfl, rfl⟩, ⟨v3, rfl, h3⟩⟩⟩⟩
theorem sync_at {w W : World} {b o j : Nat} {xs : List Sync} {x : Sync} (h : RowAt syncD w b o xs) (hb : Below w.heap.size w W) (hj : xs[j]? = some x) : ∃ v1 v3, SliceK eventD W v1 x.events ∧ SliceK messageD W v3 x.whole.messages ∧ b < W.heap.size ∧ W.cell? ⟨b, o + j * 4, none⟩ = some (.int .i64 x.kind) ∧ W.cell? ⟨b, o + j * 4 + 1, none⟩ = some (v1) ∧ W.cell? ⟨b, o + j * 4 + 2, none⟩ = some (.int .i64 x.whole.next) ∧ W.cell? ⟨b, o + j * 4 + 3, none⟩ = some (v3) := by
  obtain ⟨cs, hk, hc⟩ := (h.below hb) j x hj
  obtain ⟨v1, v3, rfl, h1, h3⟩ := sync_K hk
  have hc : ∀ i u, ([.int .i64 x.kind, v1, .int .i64 x.whole.next, v3] : List Value)[i]? = some u → W.cell? ⟨b, o + j * 4 + i, none⟩ = some u := hc
  exact ⟨v1, v3, h1, h3, World.block_lt_of_cell? W _ (hc 0 _ rfl), hc 0 _ rfl, hc 1 _ rfl, hc 2 _ rfl, hc 3 _ rfl⟩
end Go.Proofs.YtadcmiinjepdcaaGreat
