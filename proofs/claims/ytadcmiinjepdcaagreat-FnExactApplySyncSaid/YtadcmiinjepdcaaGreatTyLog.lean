/- The Go structs of the part Log as Lean structures, and how they lie in cells. -/
import Derived.Test.YtadcmiinjepdcaaGreatBase
namespace Go.Proofs.YtadcmiinjepdcaaGreat
open Go Go.RowKit
set_option linter.unusedVariables false
set_option linter.unusedSimpArgs false

/-! ### Message -/
structure Message where
  number : Int
  sender : Int
  at_ : Int
  text : ByteArray
  edits : Int
  gone : Bool
  reply : Int
  likes : List Int
  deriving DecidableEq, Inhabited
def messageD : Dt Message := Dt.cat (Dt.flat 7 (fun x : Message => [.int .i64 x.number, .int .i64 x.sender, .int .i64 x.at_, .string x.text, .int .i64 x.edits, .bool x.gone, .int .i64 x.reply]) (fun _ => rfl) (fun x u hu => by simp at hu; rcases hu with rfl | rfl | rfl | rfl | rfl | rfl | rfl <;> rfl)) ((Dt.slice 2 intD).iso (fun x : Message => x.likes))
theorem message_K {w : World} {x : Message} {cs : List Value} (h : messageD.K w x cs) : ∃ v7, cs = [.int .i64 x.number, .int .i64 x.sender, .int .i64 x.at_, .string x.text, .int .i64 x.edits, .bool x.gone, .int .i64 x.reply, v7] ∧ SliceK intD w v7 x.likes := by
  obtain ⟨_, _, rfl, rfl, ⟨v7, rfl, h7⟩⟩ := h
  exact ⟨v7, rfl, h7⟩
theorem message_K_mk {w : World} {x : Message} {v7 : Value} (h7 : SliceK intD w v7 x.likes) : messageD.K w x [.int .i64 x.number, .int .i64 x.sender, .int .i64 x.at_, .string x.text, .int .i64 x.edits, .bool x.gone, .int .i64 x.reply, v7] := by
  exact ⟨_, _, rfl, rfl, ⟨v7, rfl, h7⟩⟩
theorem message_M {w : World} {x : Message} {cs : List Value} {F : List Nat} (h : messageD.M w x cs F) : ∃ v7 F7, cs = [.int .i64 x.number, .int .i64 x.sender, .int .i64 x.at_, .string x.text, .int .i64 x.edits, .bool x.gone, .int .i64 x.reply, v7] ∧ F = F7 ∧ SliceM intD 2 w v7 x.likes F7 := by
  obtain ⟨_, _, _, F7, rfl, rfl, ⟨rfl, rfl⟩, ⟨v7, rfl, h7⟩⟩ := h
  exact ⟨v7, F7, rfl, by simp, h7⟩
theorem message_M_mk {w : World} {x : Message} {v7 : Value} {F7 : List Nat} (h7 : SliceM intD 2 w v7 x.likes F7) : messageD.M w x [.int .i64 x.number, .int .i64 x.sender, .int .i64 x.at_, .string x.text, .int .i64 x.edits, .bool x.gone, .int .i64 x.reply, v7] (F7) := by
  exact ⟨_, _, [], F7, rfl, by simp, ⟨rfl, rfl⟩, ⟨v7, rfl, h7⟩⟩
theorem message_at {w W : World} {b o j : Nat} {xs : List Message} {x : Message} (h : RowAt messageD w b o xs) (hb : Below w.heap.size w W) (hj : xs[j]? = some x) : ∃ v7, SliceK intD W v7 x.likes ∧ b < W.heap.size ∧ W.cell? ⟨b, o + j * 8, none⟩ = some (.int .i64 x.number) ∧ W.cell? ⟨b, o + j * 8 + 1, none⟩ = some (.int .i64 x.sender) ∧ W.cell? ⟨b, o + j * 8 + 2, none⟩ = some (.int .i64 x.at_) ∧ W.cell? ⟨b, o + j * 8 + 3, none⟩ = some (.string x.text) ∧ W.cell? ⟨b, o + j * 8 + 4, none⟩ = some (.int .i64 x.edits) ∧ W.cell? ⟨b, o + j * 8 + 5, none⟩ = some (.bool x.gone) ∧ W.cell? ⟨b, o + j * 8 + 6, none⟩ = some (.int .i64 x.reply) ∧ W.cell? ⟨b, o + j * 8 + 7, none⟩ = some (v7) := by
  obtain ⟨cs, hk, hc⟩ := (h.below hb) j x hj
  obtain ⟨v7, rfl, h7⟩ := message_K hk
  have hc : ∀ i u, ([.int .i64 x.number, .int .i64 x.sender, .int .i64 x.at_, .string x.text, .int .i64 x.edits, .bool x.gone, .int .i64 x.reply, v7] : List Value)[i]? = some u → W.cell? ⟨b, o + j * 8 + i, none⟩ = some u := hc
  exact ⟨v7, h7, World.block_lt_of_cell? W _ (hc 0 _ rfl), hc 0 _ rfl, hc 1 _ rfl, hc 2 _ rfl, hc 3 _ rfl, hc 4 _ rfl, hc 5 _ rfl, hc 6 _ rfl, hc 7 _ rfl⟩

/-! ### Log -/
structure Log where
  next : Int
  messages : List Message
  deriving DecidableEq, Inhabited
def logD : Dt Log := Dt.cat (Dt.flat 1 (fun x : Log => [.int .i64 x.next]) (fun _ => rfl) (fun x u hu => by simp at hu; subst hu; rfl)) ((Dt.slice 90 messageD).iso (fun x : Log => x.messages))
theorem log_K {w : World} {x : Log} {cs : List Value} (h : logD.K w x cs) : ∃ v1, cs = [.int .i64 x.next, v1] ∧ SliceK messageD w v1 x.messages := by
  obtain ⟨_, _, rfl, rfl, ⟨v1, rfl, h1⟩⟩ := h
  exact ⟨v1, rfl, h1⟩
theorem log_K_mk {w : World} {x : Log} {v1 : Value} (h1 : SliceK messageD w v1 x.messages) : logD.K w x [.int .i64 x.next, v1] := by
  exact ⟨_, _, rfl, rfl, ⟨v1, rfl, h1⟩⟩
theorem log_M {w : World} {x : Log} {cs : List Value} {F : List Nat} (h : logD.M w x cs F) : ∃ v1 F1, cs = [.int .i64 x.next, v1] ∧ F = F1 ∧ SliceM messageD 90 w v1 x.messages F1 := by
  obtain ⟨_, _, _, F1, rfl, rfl, ⟨rfl, rfl⟩, ⟨v1, rfl, h1⟩⟩ := h
  exact ⟨v1, F1, rfl, by simp, h1⟩
theorem log_M_mk {w : World} {x : Log} {v1 : Value} {F1 : List Nat} (h1 : SliceM messageD 90 w v1 x.messages F1) : logD.M w x [.int .i64 x.next, v1] (F1) := by
  exact ⟨_, _, [], F1, rfl, by simp, ⟨rfl, rfl⟩, ⟨v1, rfl, h1⟩⟩
theorem log_at {w W : World} {b o j : Nat} {xs : List Log} {x : Log} (h : RowAt logD w b o xs) (hb : Below w.heap.size w W) (hj : xs[j]? = some x) : ∃ v1, SliceK messageD W v1 x.messages ∧ b < W.heap.size ∧ W.cell? ⟨b, o + j * 2, none⟩ = some (.int .i64 x.next) ∧ W.cell? ⟨b, o + j * 2 + 1, none⟩ = some (v1) := by
  obtain ⟨cs, hk, hc⟩ := (h.below hb) j x hj
  obtain ⟨v1, rfl, h1⟩ := log_K hk
  have hc : ∀ i u, ([.int .i64 x.next, v1] : List Value)[i]? = some u → W.cell? ⟨b, o + j * 2 + i, none⟩ = some u := hc
  exact ⟨v1, h1, World.block_lt_of_cell? W _ (hc 0 _ rfl), hc 0 _ rfl, hc 1 _ rfl⟩
end Go.Proofs.YtadcmiinjepdcaaGreat
