/- The Go structs of the part Room as Lean structures, and how they lie in cells. -/
import Derived.Test.YtccgjnanphonnaaBase
namespace Go.Proofs.Ytccgjnanphonnaa
open Go Go.RowKit
set_option linter.unusedVariables false
set_option linter.unusedSimpArgs false

/-! ### Member -/
structure Member where
  id : Int
  role : Int
  since : Int
  quiet : Int
  deriving DecidableEq, Inhabited
def memberD : Dt Member := Dt.flat 4 (fun x : Member => [.int .i64 x.id, .int .i64 x.role, .int .i64 x.since, .int .i64 x.quiet]) (fun _ => rfl) (fun x u hu => by simp at hu; rcases hu with rfl | rfl | rfl | rfl <;> rfl)
theorem member_at {w W : World} {b o j : Nat} {xs : List Member} {x : Member} (h : RowAt memberD w b o xs) (hb : Below w.heap.size w W) (hj : xs[j]? = some x) : b < W.heap.size ∧ W.cell? ⟨b, o + j * 4, none⟩ = some (.int .i64 x.id) ∧ W.cell? ⟨b, o + j * 4 + 1, none⟩ = some (.int .i64 x.role) ∧ W.cell? ⟨b, o + j * 4 + 2, none⟩ = some (.int .i64 x.since) ∧ W.cell? ⟨b, o + j * 4 + 3, none⟩ = some (.int .i64 x.quiet) := by
  obtain ⟨cs, hk, hc⟩ := (h.below hb) j x hj
  obtain rfl : cs = [.int .i64 x.id, .int .i64 x.role, .int .i64 x.since, .int .i64 x.quiet] := hk
  have hc : ∀ i u, ([.int .i64 x.id, .int .i64 x.role, .int .i64 x.since, .int .i64 x.quiet] : List Value)[i]? = some u → W.cell? ⟨b, o + j * 4 + i, none⟩ = some u := hc
  exact ⟨World.block_lt_of_cell? W _ (hc 0 _ rfl), hc 0 _ rfl, hc 1 _ rfl, hc 2 _ rfl, hc 3 _ rfl⟩

/-! ### Invite -/
structure Invite where
  id : Int
  by_ : Int
  until_ : Int
  deriving DecidableEq, Inhabited
def inviteD : Dt Invite := Dt.flat 3 (fun x : Invite => [.int .i64 x.id, .int .i64 x.by_, .int .i64 x.until_]) (fun _ => rfl) (fun x u hu => by simp at hu; rcases hu with rfl | rfl | rfl <;> rfl)
theorem invite_at {w W : World} {b o j : Nat} {xs : List Invite} {x : Invite} (h : RowAt inviteD w b o xs) (hb : Below w.heap.size w W) (hj : xs[j]? = some x) : b < W.heap.size ∧ W.cell? ⟨b, o + j * 3, none⟩ = some (.int .i64 x.id) ∧ W.cell? ⟨b, o + j * 3 + 1, none⟩ = some (.int .i64 x.by_) ∧ W.cell? ⟨b, o + j * 3 + 2, none⟩ = some (.int .i64 x.until_) := by
  obtain ⟨cs, hk, hc⟩ := (h.below hb) j x hj
  obtain rfl : cs = [.int .i64 x.id, .int .i64 x.by_, .int .i64 x.until_] := hk
  have hc : ∀ i u, ([.int .i64 x.id, .int .i64 x.by_, .int .i64 x.until_] : List Value)[i]? = some u → W.cell? ⟨b, o + j * 3 + i, none⟩ = some u := hc
  exact ⟨World.block_lt_of_cell? W _ (hc 0 _ rfl), hc 0 _ rfl, hc 1 _ rfl, hc 2 _ rfl⟩

/-! ### Ban -/
structure Ban where
  id : Int
  until_ : Int
  deriving DecidableEq, Inhabited
def banD : Dt Ban := Dt.flat 2 (fun x : Ban => [.int .i64 x.id, .int .i64 x.until_]) (fun _ => rfl) (fun x u hu => by simp at hu; rcases hu with rfl | rfl <;> rfl)
theorem ban_at {w W : World} {b o j : Nat} {xs : List Ban} {x : Ban} (h : RowAt banD w b o xs) (hb : Below w.heap.size w W) (hj : xs[j]? = some x) : b < W.heap.size ∧ W.cell? ⟨b, o + j * 2, none⟩ = some (.int .i64 x.id) ∧ W.cell? ⟨b, o + j * 2 + 1, none⟩ = some (.int .i64 x.until_) := by
  obtain ⟨cs, hk, hc⟩ := (h.below hb) j x hj
  obtain rfl : cs = [.int .i64 x.id, .int .i64 x.until_] := hk
  have hc : ∀ i u, ([.int .i64 x.id, .int .i64 x.until_] : List Value)[i]? = some u → W.cell? ⟨b, o + j * 2 + i, none⟩ = some u := hc
  exact ⟨World.block_lt_of_cell? W _ (hc 0 _ rfl), hc 0 _ rfl, hc 1 _ rfl⟩

/-! ### Room -/
structure Room where
  open_ : Bool
  members : List Member
  invites : List Invite
  bans : List Ban
  deriving DecidableEq, Inhabited
def roomD : Dt Room := Dt.cat (Dt.flat 1 (fun x : Room => [.bool x.open_]) (fun _ => rfl) (fun x u hu => by simp at hu; subst hu; rfl)) (Dt.cat ((Dt.slice 69 memberD).iso (fun x : Room => x.members)) (Dt.cat ((Dt.slice 65 inviteD).iso (fun x : Room => x.invites)) ((Dt.slice 67 banD).iso (fun x : Room => x.bans))))
theorem room_K {w : World} {x : Room} {cs : List Value} (h : roomD.K w x cs) : ∃ v1 v2 v3, cs = [.bool x.open_, v1, v2, v3] ∧ SliceK memberD w v1 x.members ∧ SliceK inviteD w v2 x.invites ∧ SliceK banD w v3 x.bans := by
  obtain ⟨_, _, rfl, rfl, ⟨_, _, rfl, ⟨v1, rfl, h1⟩, ⟨_, _, rfl, ⟨v2, rfl, h2⟩, ⟨v3, rfl, h3⟩⟩⟩⟩ := h
  exact ⟨v1, v2, v3, rfl, h1, h2, h3⟩
theorem room_K_mk {w : World} {x : Room} {v1 v2 v3 : Value} (h1 : SliceK memberD w v1 x.members) (h2 : SliceK inviteD w v2 x.invites) (h3 : SliceK banD w v3 x.bans) : roomD.K w x [.bool x.open_, v1, v2, v3] := by
  exact ⟨_, _, rfl, rfl, ⟨_, _, rfl, ⟨v1, rfl, h1⟩, ⟨_, _, rfl, ⟨v2, rfl, h2⟩, ⟨v3, rfl, h3⟩⟩⟩⟩
theorem room_M {w : World} {x : Room} {cs : List Value} {F : List Nat} (h : roomD.M w x cs F) : ∃ v1 v2 v3 F1 F2 F3, cs = [.bool x.open_, v1, v2, v3] ∧ F = F1 ++ (F2 ++ F3) ∧ SliceM memberD 69 w v1 x.members F1 ∧ SliceM inviteD 65 w v2 x.invites F2 ∧ SliceM banD 67 w v3 x.bans F3 := by
  obtain ⟨_, _, _, _, rfl, rfl, ⟨rfl, rfl⟩, ⟨_, _, F1, _, rfl, rfl, ⟨v1, rfl, h1⟩, ⟨_, _, F2, F3, rfl, rfl, ⟨v2, rfl, h2⟩, ⟨v3, rfl, h3⟩⟩⟩⟩ := h
  exact ⟨v1, v2, v3, F1, F2, F3, rfl, by simp, h1, h2, h3⟩
theorem room_M_mk {w : World} {x : Room} {v1 v2 v3 : Value} {F1 F2 F3 : List Nat} (h1 : SliceM memberD 69 w v1 x.members F1) (h2 : SliceM inviteD 65 w v2 x.invites F2) (h3 : SliceM banD 67 w v3 x.bans F3) : roomD.M w x [.bool x.open_, v1, v2, v3] (F1 ++ (F2 ++ F3)) := by
  exact ⟨_, _, [], (F1 ++ (F2 ++ F3)), rfl, by simp, ⟨rfl, rfl⟩, ⟨_, _, F1, (F2 ++ F3), rfl, by simp, ⟨v1, rfl, h1⟩, ⟨_, _, F2, F3, rfl, by simp, ⟨v2, rfl, h2⟩, ⟨v3, rfl, h3⟩⟩⟩⟩
theorem room_at {w W : World} {b o j : Nat} {xs : List Room} {x : Room} (h : RowAt roomD w b o xs) (hb : Below w.heap.size w W) (hj : xs[j]? = some x) : ∃ v1 v2 v3, SliceK memberD W v1 x.members ∧ SliceK inviteD W v2 x.invites ∧ SliceK banD W v3 x.bans ∧ b < W.heap.size ∧ W.cell? ⟨b, o + j * 4, none⟩ = some (.bool x.open_) ∧ W.cell? ⟨b, o + j * 4 + 1, none⟩ = some (v1) ∧ W.cell? ⟨b, o + j * 4 + 2, none⟩ = some (v2) ∧ W.cell? ⟨b, o + j * 4 + 3, none⟩ = some (v3) := by
  obtain ⟨cs, hk, hc⟩ := (h.below hb) j x hj
  obtain ⟨v1, v2, v3, rfl, h1, h2, h3⟩ := room_K hk
  have hc : ∀ i u, ([.bool x.open_, v1, v2, v3] : List Value)[i]? = some u → W.cell? ⟨b, o + j * 4 + i, none⟩ = some u := hc
  exact ⟨v1, v2, v3, h1, h2, h3, World.block_lt_of_cell? W _ (hc 0 _ rfl), hc 0 _ rfl, hc 1 _ rfl, hc 2 _ rfl, hc 3 _ rfl⟩
end Go.Proofs.Ytccgjnanphonnaa
