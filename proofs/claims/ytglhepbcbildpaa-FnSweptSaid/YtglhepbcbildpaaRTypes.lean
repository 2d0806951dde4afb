/- The Go structs of the part Room as Lean structures, and how they lie in cells. The laws' own helpers on the structs of the part Room. What the program says of its types of rooms. Rows of flat structs: a whole row is appended, a row is copied. Valid rooms, as plain data. What a member may do, as plain data. What the laws over rooms share. Valid rooms, told plainly; what a change leaves valid. -/
import Derived.Test.YtglhepbcbildpaaRGround
import Derived.StillTailTactics
import Derived.Deep.RegionWith
namespace Go.Proofs.Ytglhepbcbildpaa
open Go Go.RowKit
set_option linter.unusedVariables false
set_option linter.unusedSimpArgs false

/-! ### Member -/
structure Member where
  id : Int
  role : Int
  since : Int
  quiet : Int
  deriving DecidableEq, Inhabited
def memberD : Dt Member := Dt.flat 4 (fun x : Member => [.int .i64 x.id, .int .i64 x.role, .int .i64 x.since, .int .i64 x.quiet]) (fun _ => rfl) (fun x u hu => by simp at hu; rcases hu with rfl | rfl | rfl | rfl <;> rfl)
theorem member_at {w W : World} {b o j : Nat} {xs : List Member} {x : Member} (h : RowAt memberD w b o xs) (hb : Below w.heap.size w W) (hj : xs[j]? = some x) : b < W.heap.size ∧ W.cell? ⟨b, o + j * 4, none⟩ = some (.int .i64 x.id) ∧ W.cell? ⟨b, o + j * 4 + 1, none⟩ = some (.int .i64 x.role) ∧ W.cell? ⟨b, o + j * 4 + 2, none⟩ = some (.int .i64 x.since) ∧ W.cell? ⟨b, o + j * 4 + 3, none⟩ = some (.int .i64 x.quiet) := by
  obtain ⟨cs, hk, hc⟩ := (h.below hb) j x hj
  obtain rfl : cs = [.int .i64 x.id, .int .i64 x.role, .int .i64 x.since, .int .i64 x.quiet] := hk
  have hc : ∀ i u, ([.int .i64 x.id, .int .i64 x.role, .int .i64 x.since, .int .i64 x.quiet] : List Value)[i]? = some u → W.cell? ⟨b, o + j * 4 + i, none⟩ = some u := hc
  exact ⟨World.block_lt_of_cell? W _ (hc 0 _ rfl), hc 0 _ rfl, hc 1 _ rfl, hc 2 _ rfl, hc 3 _ rfl⟩

/-! ### Invite -/
structure Invite where
  id : Int
  by_ : Int
  until_ : Int
  deriving DecidableEq, Inhabited
def inviteD : Dt Invite := Dt.flat 3 (fun x : Invite => [.int .i64 x.id, .int .i64 x.by_, .int .i64 x.until_]) (fun _ => rfl) (fun x u hu => by simp at hu; rcases hu with rfl | rfl | rfl <;> rfl)
theorem invite_at {w W : World} {b o j : Nat} {xs : List Invite} {x : Invite} (h : RowAt inviteD w b o xs) (hb : Below w.heap.size w W) (hj : xs[j]? = some x) : b < W.heap.size ∧ W.cell? ⟨b, o + j * 3, none⟩ = some (.int .i64 x.id) ∧ W.cell? ⟨b, o + j * 3 + 1, none⟩ = some (.int .i64 x.by_) ∧ W.cell? ⟨b, o + j * 3 + 2, none⟩ = some (.int .i64 x.until_) := by
  obtain ⟨cs, hk, hc⟩ := (h.below hb) j x hj
  obtain rfl : cs = [.int .i64 x.id, .int .i64 x.by_, .int .i64 x.until_] := hk
  have hc : ∀ i u, ([.int .i64 x.id, .int .i64 x.by_, .int .i64 x.until_] : List Value)[i]? = some u → W.cell? ⟨b, o + j * 3 + i, none⟩ = some u := hc
  exact ⟨World.block_lt_of_cell? W _ (hc 0 _ rfl), hc 0 _ rfl, hc 1 _ rfl, hc 2 _ rfl⟩

/-! ### Ban -/
structure Ban where
  id : Int
  until_ : Int
  deriving DecidableEq, Inhabited
def banD : Dt Ban := Dt.flat 2 (fun x : Ban => [.int .i64 x.id, .int .i64 x.until_]) (fun _ => rfl) (fun x u hu => by simp at hu; rcases hu with rfl | rfl <;> rfl)
theorem ban_at {w W : World} {b o j : Nat} {xs : List Ban} {x : Ban} (h : RowAt banD w b o xs) (hb : Below w.heap.size w W) (hj : xs[j]? = some x) : b < W.heap.size ∧ W.cell? ⟨b, o + j * 2, none⟩ = some (.int .i64 x.id) ∧ W.cell? ⟨b, o + j * 2 + 1, none⟩ = some (.int .i64 x.until_) := by
  obtain ⟨cs, hk, hc⟩ := (h.below hb) j x hj
  obtain rfl : cs = [.int .i64 x.id, .int .i64 x.until_] := hk
  have hc : ∀ i u, ([.int .i64 x.id, .int .i64 x.until_] : List Value)[i]? = some u → W.cell? ⟨b, o + j * 2 + i, none⟩ = some u := hc
  exact ⟨World.block_lt_of_cell? W _ (hc 0 _ rfl), hc 0 _ rfl, hc 1 _ rfl⟩

/-! ### Room -/
structure Room where
  open_ : Bool
  members : List Member
  invites : List Invite
  bans : List Ban
  deriving DecidableEq, Inhabited
def roomD : Dt Room := Dt.cat (Dt.flat 1 (fun x : Room => [.bool x.open_]) (fun _ => rfl) (fun x u hu => by simp at hu; subst hu; rfl)) (Dt.cat ((Dt.slice 55 memberD).iso (fun x : Room => x.members)) (Dt.cat ((Dt.slice 39 inviteD).iso (fun x : Room => x.invites)) ((Dt.slice 41 banD).iso (fun x : Room => x.bans))))
theorem room_K {w : World} {x : Room} {cs : List Value} (h : roomD.K w x cs) : ∃ v1 v2 v3, cs = [.bool x.open_, v1, v2, v3] ∧ SliceK memberD w v1 x.members ∧ SliceK inviteD w v2 x.invites ∧ SliceK banD w v3 x.bans := by
  obtain ⟨_, _, rfl, rfl, ⟨_, _, rfl, ⟨v1, rfl, h1⟩, ⟨_, _, rfl, ⟨v2, rfl, h2⟩, ⟨v3, rfl, h3⟩⟩⟩⟩ := h
  exact ⟨v1, v2, v3, rfl, h1, h2, h3⟩
theorem room_K_mk {w : World} {x : Room} {v1 v2 v3 : Value} (h1 : SliceK memberD w v1 x.members) (h2 : SliceK inviteD w v2 x.invites) (h3 : SliceK banD w v3 x.bans) : roomD.K w x [.bool x.open_, v1, v2, v3] := by
  exact ⟨_, _, rfl, rfl, ⟨_, _, rfl, ⟨v1, rfl, h1⟩, ⟨_, _, rfl, ⟨v2, rfl, h2⟩, ⟨v3, rfl, h3⟩⟩⟩⟩
theorem room_M {w : World} {x : Room} {cs : List Value} {F : List Nat} (h : roomD.M w x cs F) : ∃ v1 v2 v3 F1 F2 F3, cs = [.bool x.open_, v1, v2, v3] ∧ F = F1 ++ (F2 ++ F3) ∧ SliceM memberD 55 w v1 x.members F1 ∧ SliceM inviteD 39 w v2 x.invites F2 ∧ SliceM banD 41 w v3 x.bans F3 := by
  obtain ⟨_, _, _, _, rfl, rfl, ⟨rfl, rfl⟩, ⟨_, _, F1, _, rfl, rfl, ⟨v1, rfl, h1⟩, ⟨_, _, F2, F3, rfl, rfl, ⟨v2, rfl, h2⟩, ⟨v3, rfl, h3⟩⟩⟩⟩ := h
  exact ⟨v1, v2, v3, F1, F2, F3, rfl, by simp, h1, h2, h3⟩
theorem room_M_mk {w : World} {x : Room} {v1 v2 v3 : Value} {F1 F2 F3 : List Nat} (h1 : SliceM memberD 55 w v1 x.members F1) (h2 : SliceM inviteD 39 w v2 x.invites F2) (h3 : SliceM banD 41 w v3 x.bans F3) : roomD.M w x [.bool x.open_, v1, v2, v3] (F1 ++ (F2 ++ F3)) := by
  exact ⟨_, _, [], (F1 ++ (F2 ++ F3)), rfl, by simp, ⟨rfl, rfl⟩, ⟨_, _, F1, (F2 ++ F3), rfl, by simp, ⟨v1, rfl, h1⟩, ⟨_, _, F2, F3, rfl, by simp, ⟨v2, rfl, h2⟩, ⟨v3, rfl, h3⟩⟩⟩⟩
theorem room_at {w W : World} {b o j : Nat} {xs : List Room} {x : Room} (h : RowAt roomD w b o xs) (hb : Below w.heap.size w W) (hj : xs[j]? = some x) : ∃ v1 v2 v3, SliceK memberD W v1 x.members ∧ SliceK inviteD W v2 x.invites ∧ SliceK banD W v3 x.bans ∧ b < W.heap.size ∧ W.cell? ⟨b, o + j * 4, none⟩ = some (.bool x.open_) ∧ W.cell? ⟨b, o + j * 4 + 1, none⟩ = some (v1) ∧ W.cell? ⟨b, o + j * 4 + 2, none⟩ = some (v2) ∧ W.cell? ⟨b, o + j * 4 + 3, none⟩ = some (v3) := by
  obtain ⟨cs, hk, hc⟩ := (h.below hb) j x hj
  obtain ⟨v1, v2, v3, rfl, h1, h2, h3⟩ := room_K hk
  have hc : ∀ i u, ([.bool x.open_, v1, v2, v3] : List Value)[i]? = some u → W.cell? ⟨b, o + j * 4 + i, none⟩ = some u := hc
  exact ⟨v1, v2, v3, h1, h2, h3, World.block_lt_of_cell? W _ (hc 0 _ rfl), hc 0 _ rfl, hc 1 _ rfl, hc 2 _ rfl, hc 3 _ rfl⟩
end Go.Proofs.Ytglhepbcbildpaa
namespace Go.Proofs.Ytglhepbcbildpaa
open Go Go.RowKit
set_option linter.unusedVariables false
set_option linter.unusedSimpArgs false

/-! ### Member -/
/-! ### Invite -/
/-! ### Ban -/
/-! ### Room -/
def sizeRoom (x : Room) : Nat := x.members.length + x.invites.length + x.bans.length
def fewRoom (x : Room) : Prop := x.members.length ≤ 1048576 ∧ x.invites.length ≤ 1048576 ∧ x.bans.length ≤ 1048576
end Go.Proofs.Ytglhepbcbildpaa
namespace Go.Proofs.Ytglhepbcbildpaa
open Go Go.RowKit
theorem infoMember : (Try.prog.info? 55).map (fun i => (i.zero, i.size, i.bytes)) = some (some (.agg #[(.int .i64 0), (.int .i64 0), (.int .i64 0), (.int .i64 0)]), 4, 32) := by kernel_rfl
theorem infoInvite : (Try.prog.info? 39).map (fun i => (i.zero, i.size, i.bytes)) = some (some (.agg #[(.int .i64 0), (.int .i64 0), (.int .i64 0)]), 3, 24) := by kernel_rfl
theorem infoBan : (Try.prog.info? 41).map (fun i => (i.zero, i.size, i.bytes)) = some (some (.agg #[(.int .i64 0), (.int .i64 0)]), 2, 16) := by kernel_rfl
end Go.Proofs.Ytglhepbcbildpaa
namespace Go.Proofs.Ytglhepbcbildpaa
open Go Go.RowKit
set_option linter.unusedVariables false
set_option linter.unusedSimpArgs false

theorem sizeMemberI : ∃ i, Try.prog.info? 55 = some i := by
  obtain ⟨i, hi, _⟩ := info_parts infoMember; exact ⟨i, hi⟩
theorem eqlNilMember (A : Option Addr) (n c : Nat) (w : World) : (binOp .eql 24 (.slice A n c) (.slice none 0 0)).run Try.prog w = .ok (.bool A.isNone) w := Go.Lib.run_eql_slice_nil w _ _ A n c 0 0 Try.underlying24
attribute [local go_sem] eqlNilMember
set_option maxHeartbeats 1000000 in
theorem cloneMember_c (v : Value) (l : List Member) (w : World) (h : SliceK memberD w v l) (hlen : l.length ≤ 1048576) :
    Calls Try.prog 41 #[v] w (RetMade memberD 55 w l) := by
  obtain ⟨A, c, rfl, hl, hm, hra⟩ := h
  have HA := hide hra
  clear hra
  by_cases h0 : l = []
  · subst h0
    obtain ⟨i, hi⟩ := sizeMemberI
    cases A with
    | none =>
      go_enter Try.func41, Try.ntmps41
      go_wp2_with fail
      go_ret
      exact ⟨_, rfl, ⟨[], .inl ⟨rfl, rfl, rfl⟩, by simp, by simp⟩, Below.refl _ _⟩
    | some a =>
      go_enter Try.func41, Try.ntmps41
      go_wp2_with (at_builtin
                   refine wpList_app0 _ rfl _ _ _ _ rfl i Try.underlying24 hi _ _ _ (Nat.le_refl _) rfl _ _ rfl ?_)
      go_ret
      exact ⟨_, rfl, ⟨_, emptyM _, by simp, by simp⟩, (Below.refl _ _).alloc (Nat.le_refl _) _⟩
  · have hp : 0 < l.length := List.length_pos_iff.2 h0
    rcases HA.out with hnil | ⟨b, o, rfl, hr⟩
    · exact absurd hnil h0
    have HR := hide hr
    clear hr HA h0
    go_enter Try.func41, Try.ntmps41
    go_wp2_with (at_builtin
                 refine wpList_app_flat _ rfl _ _ _ rfl (.agg #[(.int .i64 0), (.int .i64 0), (.int .i64 0), (.int .i64 0)]) 32 Try.underlying24 infoMember rfl (by omega) (by omega) _ [] _ rfl (emptyM _) (by simp) _ _ _ l rfl (HR.out.below ((Below.refl _ _).alloc (Nat.le_refl _) _)) hp (by simpa using hlen) ?_
                 intro g2 cap2 w2 F2 hap
                 have HAP := hide hap
                 clear hap)
    go_ret
    have hap := HAP.out
    simp only [List.length_nil, Nat.zero_add, List.nil_append] at hap
    refine ⟨_, rfl, ⟨F2, (by have h := hap.m; exact h), hap.nodup, fun x hx => ?_⟩, ((Below.refl _ _).alloc (Nat.le_refl _) _).trans (hap.chg.below (by simp) (by simp))⟩
    rcases hap.from_ x hx with h | h | h
    · simp at h; omega
    · simp at h
    · rw [h]; simp
theorem sizeInviteI : ∃ i, Try.prog.info? 39 = some i := by
  obtain ⟨i, hi, _⟩ := info_parts infoInvite; exact ⟨i, hi⟩
theorem eqlNilInvite (A : Option Addr) (n c : Nat) (w : World) : (binOp .eql 25 (.slice A n c) (.slice none 0 0)).run Try.prog w = .ok (.bool A.isNone) w := Go.Lib.run_eql_slice_nil w _ _ A n c 0 0 Try.underlying25
attribute [local go_sem] eqlNilInvite
set_option maxHeartbeats 1000000 in
theorem cloneInvite_c (v : Value) (l : List Invite) (w : World) (h : SliceK inviteD w v l) (hlen : l.length ≤ 1048576) :
    Calls Try.prog 52 #[v] w (RetMade inviteD 39 w l) := by
  obtain ⟨A, c, rfl, hl, hm, hra⟩ := h
  have HA := hide hra
  clear hra
  by_cases h0 : l = []
  · subst h0
    obtain ⟨i, hi⟩ := sizeInviteI
    cases A with
    | none =>
      go_enter Try.func52, Try.ntmps52
      go_wp2_with fail
      go_ret
      exact ⟨_, rfl, ⟨[], .inl ⟨rfl, rfl, rfl⟩, by simp, by simp⟩, Below.refl _ _⟩
    | some a =>
      go_enter Try.func52, Try.ntmps52
      go_wp2_with (at_builtin
                   refine wpList_app0 _ rfl _ _ _ _ rfl i Try.underlying25 hi _ _ _ (Nat.le_refl _) rfl _ _ rfl ?_)
      go_ret
      exact ⟨_, rfl, ⟨_, emptyM _, by simp, by simp⟩, (Below.refl _ _).alloc (Nat.le_refl _) _⟩
  · have hp : 0 < l.length := List.length_pos_iff.2 h0
    rcases HA.out with hnil | ⟨b, o, rfl, hr⟩
    · exact absurd hnil h0
    have HR := hide hr
    clear hr HA h0
    go_enter Try.func52, Try.ntmps52
    go_wp2_with (at_builtin
                 refine wpList_app_flat _ rfl _ _ _ rfl (.agg #[(.int .i64 0), (.int .i64 0), (.int .i64 0)]) 24 Try.underlying25 infoInvite rfl (by omega) (by omega) _ [] _ rfl (emptyM _) (by simp) _ _ _ l rfl (HR.out.below ((Below.refl _ _).alloc (Nat.le_refl _) _)) hp (by simpa using hlen) ?_
                 intro g2 cap2 w2 F2 hap
                 have HAP := hide hap
                 clear hap)
    go_ret
    have hap := HAP.out
    simp only [List.length_nil, Nat.zero_add, List.nil_append] at hap
    refine ⟨_, rfl, ⟨F2, (by have h := hap.m; exact h), hap.nodup, fun x hx => ?_⟩, ((Below.refl _ _).alloc (Nat.le_refl _) _).trans (hap.chg.below (by simp) (by simp))⟩
    rcases hap.from_ x hx with h | h | h
    · simp at h; omega
    · simp at h
    · rw [h]; simp
theorem sizeBanI : ∃ i, Try.prog.info? 41 = some i := by
  obtain ⟨i, hi, _⟩ := info_parts infoBan; exact ⟨i, hi⟩
theorem eqlNilBan (A : Option Addr) (n c : Nat) (w : World) : (binOp .eql 26 (.slice A n c) (.slice none 0 0)).run Try.prog w = .ok (.bool A.isNone) w := Go.Lib.run_eql_slice_nil w _ _ A n c 0 0 Try.underlying26
attribute [local go_sem] eqlNilBan
set_option maxHeartbeats 1000000 in
theorem cloneBan_c (v : Value) (l : List Ban) (w : World) (h : SliceK banD w v l) (hlen : l.length ≤ 1048576) :
    Calls Try.prog 53 #[v] w (RetMade banD 41 w l) := by
  obtain ⟨A, c, rfl, hl, hm, hra⟩ := h
  have HA := hide hra
  clear hra
  by_cases h0 : l = []
  · subst h0
    obtain ⟨i, hi⟩ := sizeBanI
    cases A with
    | none =>
      go_enter Try.func53, Try.ntmps53
      go_wp2_with fail
      go_ret
      exact ⟨_, rfl, ⟨[], .inl ⟨rfl, rfl, rfl⟩, by simp, by simp⟩, Below.refl _ _⟩
    | some a =>
      go_enter Try.func53, Try.ntmps53
      go_wp2_with (at_builtin
                   refine wpList_app0 _ rfl _ _ _ _ rfl i Try.underlying26 hi _ _ _ (Nat.le_refl _) rfl _ _ rfl ?_)
      go_ret
      exact ⟨_, rfl, ⟨_, emptyM _, by simp, by simp⟩, (Below.refl _ _).alloc (Nat.le_refl _) _⟩
  · have hp : 0 < l.length := List.length_pos_iff.2 h0
    rcases HA.out with hnil | ⟨b, o, rfl, hr⟩
    · exact absurd hnil h0
    have HR := hide hr
    clear hr HA h0
    go_enter Try.func53, Try.ntmps53
    go_wp2_with (at_builtin
                 refine wpList_app_flat _ rfl _ _ _ rfl (.agg #[(.int .i64 0), (.int .i64 0)]) 16 Try.underlying26 infoBan rfl (by omega) (by omega) _ [] _ rfl (emptyM _) (by simp) _ _ _ l rfl (HR.out.below ((Below.refl _ _).alloc (Nat.le_refl _) _)) hp (by simpa using hlen) ?_
                 intro g2 cap2 w2 F2 hap
                 have HAP := hide hap
                 clear hap)
    go_ret
    have hap := HAP.out
    simp only [List.length_nil, Nat.zero_add, List.nil_append] at hap
    refine ⟨_, rfl, ⟨F2, (by have h := hap.m; exact h), hap.nodup, fun x hx => ?_⟩, ((Below.refl _ _).alloc (Nat.le_refl _) _).trans (hap.chg.below (by simp) (by simp))⟩
    rcases hap.from_ x hx with h | h | h
    · simp at h; omega
    · simp at h
    · rw [h]; simp
end Go.Proofs.Ytglhepbcbildpaa
namespace Go.Proofs.Ytglhepbcbildpaa
open Go Go.RowKit
set_option linter.unusedVariables false
set_option linter.unusedSimpArgs false

def idIs (n : Int) (m : Member) : Bool := decide (m.id = n)
def invIs (n : Int) (v : Invite) : Bool := decide (v.id = n)
def banIs (n : Int) (b : Ban) : Bool := decide (b.id = n)
def hasId (r : Room) (n : Int) : Bool := decide (0 ≤ idxP (idIs n) r.members)
def invd (r : Room) (n : Int) : Bool := decide (0 ≤ idxP (invIs n) r.invites)
def memOkB (m : Member) : Bool := inB m.id 1 1000 && inB m.role 0 3 && inB m.since 0 1000000 && inB m.quiet 0 1000000
def memF (m : Member) (p : Option Member) : Bool := memOkB m && match p with | none => true | some q => decide (q.id < m.id)
def invOkB (r : Room) (v : Invite) : Bool := inB v.id 1 1000 && inB v.by_ 1 1000 && inB v.until_ 0 1000000 && !hasId r v.id
def invF (r : Room) (v : Invite) (p : Option Invite) : Bool := invOkB r v && match p with | none => true | some q => decide (q.id < v.id)
def banOkB (r : Room) (b : Ban) : Bool := inB b.id 1 1000 && inB b.until_ 0 1000000 && !hasId r b.id && !invd r b.id
def banF (r : Room) (b : Ban) (p : Option Ban) : Bool := banOkB r b && match p with | none => true | some q => decide (q.id < b.id)
def ownB (ms : List Member) : Bool := ms.any fun m => decide (m.role = 3)
/-- A valid room. -/
def validRoomB (r : Room) : Bool :=
  decide (1 ≤ (r.members.length : Int)) && decide ((r.members.length : Int) ≤ 32) && decide ((r.invites.length : Int) ≤ 16) && decide ((r.bans.length : Int) ≤ 16)
    && adjB memF none r.members && adjB (invF r) none r.invites && adjB (banF r) none r.bans && ownB r.members
theorem memF_no {m : Member} {p : Option Member} (h : memOkB m = false) : memF m p = false := by simp [memF, h]
theorem memF_none {m : Member} (h : memOkB m = true) : memF m none = true := by simp [memF, h]
theorem memF_some {m q : Member} (h : memOkB m = true) (h2 : q.id < m.id) : memF m (some q) = true := by simp [memF, h, h2]
theorem memF_ord {m q : Member} (h2 : m.id ≤ q.id) : memF m (some q) = false := by simp [memF]; intro _; omega
theorem invF_no {r : Room} {m : Invite} {p : Option Invite} (h : invOkB r m = false) : invF r m p = false := by simp [invF, h]
theorem invF_none {r : Room} {m : Invite} (h : invOkB r m = true) : invF r m none = true := by simp [invF, h]
theorem invF_some {r : Room} {m q : Invite} (h : invOkB r m = true) (h2 : q.id < m.id) : invF r m (some q) = true := by simp [invF, h, h2]
theorem invF_ord {r : Room} {m q : Invite} (h2 : m.id ≤ q.id) : invF r m (some q) = false := by simp [invF]; intro _; omega
theorem banF_no {r : Room} {m : Ban} {p : Option Ban} (h : banOkB r m = false) : banF r m p = false := by simp [banF, h]
theorem banF_none {r : Room} {m : Ban} (h : banOkB r m = true) : banF r m none = true := by simp [banF, h]
theorem banF_some {r : Room} {m q : Ban} (h : banOkB r m = true) (h2 : q.id < m.id) : banF r m (some q) = true := by simp [banF, h, h2]
theorem banF_ord {r : Room} {m q : Ban} (h2 : m.id ≤ q.id) : banF r m (some q) = false := by simp [banF]; intro _; omega
theorem hasId_iff (r : Room) (n : Int) : hasId r n = decide (0 ≤ idxP (idIs n) r.members) := rfl
/-- How many members have each role. -/
def roleN (ms : List Member) (i : Int) : Int := ((ms.filter fun m => decide (m.role = i)).length : Int)
def rolesL (ms : List Member) : List Int := [roleN ms 0, roleN ms 1, roleN ms 2, roleN ms 3]
theorem roleN_nn (ms : List Member) (i : Int) : 0 ≤ roleN ms i ∧ roleN ms i ≤ ms.length := by
  unfold roleN
  have := List.length_filter_le (fun m : Member => decide (m.role = i)) ms
  omega
theorem roleN_own (ms : List Member) : decide (0 < roleN ms 3) = ownB ms := by
  unfold roleN ownB
  induction ms with
  | nil => simp
  | cons m ms ih =>
    rw [List.any_cons]
    by_cases h : m.role = 3
    · rw [List.filter_cons_of_pos (by simpa using h)]
      simp [h]
    · rw [List.filter_cons_of_neg (by simpa using h), ih]
      simp [h]
theorem roleN_step {ms : List Member} {k : Nat} {m : Member} (hx : ms[k]? = some m) (i : Int) : roleN (ms.take (k + 1)) i = roleN (ms.take k) i + if m.role = i then 1 else 0 := by
  obtain ⟨hk, he⟩ := List.getElem?_eq_some_iff.1 hx
  unfold roleN
  rw [List.take_succ_eq_append_getElem hk, List.filter_append, he, List.length_append]
  by_cases h : m.role = i
  · rw [if_pos h, List.filter_cons_of_pos (by simpa using h)]; simp
  · rw [if_neg h, List.filter_cons_of_neg (by simpa using h)]; simp
end Go.Proofs.Ytglhepbcbildpaa
namespace Go.Proofs.Ytglhepbcbildpaa
open Go Go.RowKit
set_option linter.unusedVariables false
set_option linter.unusedSimpArgs false

def limI (role : Int) : Int := if role = 0 then 1 else if role = 1 then 3 else if role = 2 then 6 else 8
/-- What a role may do. -/
def mayB (role act : Int) : Bool := inB role 0 3 && decide (0 ≤ act) && decide (act ≤ limI role)
theorem may_role {role act : Int} (h : inB role 0 3 = false) : mayB role act = false := by simp [mayB, h]
theorem lim_bd (role : Int) : 1 ≤ limI role ∧ limI role ≤ 8 := by
  unfold limI; (repeat' split) <;> omega
theorem may_neg {role act : Int} (h : act < 0) : mayB role act = false := by
  simp only [mayB, Bool.and_eq_false_iff, decide_eq_false_iff_not]; exact .inl (.inr (by omega))
theorem may_big {role act : Int} (h : 8 < act) : mayB role act = false := by
  have := lim_bd role
  simp only [mayB, Bool.and_eq_false_iff, decide_eq_false_iff_not]; exact .inr (by omega)
theorem may_in {role act : Int} (h : inB role 0 3 = true) (h0 : 0 ≤ act) : mayB role act = decide (act ≤ limI role) := by
  simp [mayB, h, h0]
theorem may_1 {role act : Int} (h : inB role 0 3 = true) (h0 : 0 ≤ act) (h1 : act ≤ 1) : mayB role act = true := by
  have := lim_bd role
  rw [may_in h h0, decide_eq_true_eq]; omega
theorem may_3 {role act : Int} (h : inB role 0 3 = true) (h0 : 1 < act) (h1 : act ≤ 3) : mayB role act = decide (1 ≤ role) := by
  have := inB_iff.1 h
  rw [may_in h (by omega), decide_eq_decide]
  unfold limI; (repeat' split) <;> omega
theorem may_6 {role act : Int} (h : inB role 0 3 = true) (h0 : 3 < act) (h1 : act ≤ 6) : mayB role act = decide (2 ≤ role) := by
  have := inB_iff.1 h
  rw [may_in h (by omega), decide_eq_decide]
  unfold limI; (repeat' split) <;> omega
theorem may_8 {role act : Int} (h : inB role 0 3 = true) (h0 : 6 < act) (h1 : act ≤ 8) : mayB role act = decide (role = 3) := by
  have := inB_iff.1 h
  rw [may_in h (by omega), decide_eq_decide]
  unfold limI; (repeat' split) <;> omega
/-- What a member of a room may do. -/
def allowB (r : Room) (n act a : Int) : Bool := match r.members.find? (idIs n) with
  | none => false
  | some m => inB a 0 1000000 && (mayB m.role act && (decide (m.quiet ≤ a) || decide (act = 0)))
theorem idx_find {α : Type} {p : α → Bool} {ms : List α} {k : Nat} {m : α} (h : idxP p ms = (k : Int)) (hk : ms[k]? = some m) : ms.find? p = some m := by
  unfold idxP at h
  rcases hf : ms.findIdx? p with _ | j
  · rw [hf] at h; simp at h
  · rw [hf] at h
    obtain rfl : j = k := by simp at h; omega
    rw [List.findIdx?_eq_some_iff_getElem] at hf
    obtain ⟨hl, h1, h2⟩ := hf
    rw [List.getElem?_eq_getElem hl, Option.some.injEq] at hk
    subst hk
    rw [List.find?_eq_some_iff_getElem]
    exact ⟨h1, j, hl, rfl, fun i hi => by simpa using h2 i hi⟩
theorem idx_none {α : Type} {p : α → Bool} {ms : List α} (h : idxP p ms < 0) : ms.find? p = none := by
  unfold idxP at h
  rcases hf : ms.findIdx? p with _ | j
  · rw [List.findIdx?_eq_none_iff] at hf
    rw [List.find?_eq_none]
    intro x hx; simp [hf x hx]
  · rw [hf] at h; simp at h; omega
theorem allow_none {r : Room} {n act a : Int} (h : idxP (idIs n) r.members < 0) : allowB r n act a = false := by simp [allowB, idx_none h]
theorem allow_at {r : Room} {n act a : Int} {k : Nat} {m : Member} (h : idxP (idIs n) r.members = (k : Int)) (hk : r.members[k]? = some m) : allowB r n act a = (inB a 0 1000000 && (mayB m.role act && (decide (m.quiet ≤ a) || decide (act = 0)))) := by
  simp [allowB, idx_find h hk]
def isAllowed (r : Room) (n act a : Int) : Bool := validRoomB r && allowB r n act a
end Go.Proofs.Ytglhepbcbildpaa
namespace Go.Proofs.Ytglhepbcbildpaa
open Go Go.RowKit
set_option linter.unusedVariables false

theorem room_MK {w : World} {x : Room} {v1 v2 v3 : Value} {F : List Nat} (h : roomD.M w x [.bool x.open_, v1, v2, v3] F) : SliceK memberD w v1 x.members ∧ SliceK inviteD w v2 x.invites ∧ SliceK banD w v3 x.bans := by
  obtain ⟨u1, u2, u3, h1, h2, h3, h4⟩ := room_K (roomD.M_K h)
  simp only [List.cons.injEq, and_true, true_and] at h1
  obtain ⟨rfl, rfl, rfl⟩ := h1
  exact ⟨h2, h3, h4⟩
end Go.Proofs.Ytglhepbcbildpaa
namespace Go.Proofs.Ytglhepbcbildpaa
open Go Go.RowKit
set_option linter.unusedVariables false
set_option linter.unusedSimpArgs false

theorem adj_pair {α : Type} (key : α → Int) (ok : α → Bool) (F : α → Option α → Bool) (h0 : ∀ x, F x none = ok x) (h1 : ∀ x y, F x (some y) = (ok x && decide (key y < key x))) :
    ∀ (l : List α) (p : Option α), adjB F p l = true ↔ (∀ x ∈ l, ok x = true) ∧ l.Pairwise (fun x y => key x < key y) ∧ (∀ q, p = some q → ∀ x ∈ l, key q < key x)
  | [], p => by simp [adjB]
  | x :: l, p => by
    rw [adjB, Bool.and_eq_true, adj_pair key ok F h0 h1 l (some x), List.pairwise_cons]
    constructor
    · rintro ⟨h2, h3, h4, h5⟩
      have hx : ok x = true := by
        cases p with
        | none => rw [h0] at h2; exact h2
        | some q => rw [h1, Bool.and_eq_true] at h2; exact h2.1
      refine ⟨fun y hy => ?_, ⟨fun y hy => h5 x rfl y hy, h4⟩, fun q hq y hy => ?_⟩
      · rcases List.mem_cons.1 hy with rfl | hy
        · exact hx
        · exact h3 y hy
      · subst hq
        rw [h1, Bool.and_eq_true, decide_eq_true_eq] at h2
        rcases List.mem_cons.1 hy with rfl | hy
        · exact h2.2
        · exact Int.lt_trans h2.2 (h5 x rfl y hy)
    · rintro ⟨h3, ⟨h5, h4⟩, h6⟩
      refine ⟨?_, fun y hy => h3 y (List.mem_cons_of_mem _ hy), h4, fun q hq y hy => ?_⟩
      · cases p with
        | none => rw [h0]; exact h3 x List.mem_cons_self
        | some q => rw [h1, Bool.and_eq_true, decide_eq_true_eq]; exact ⟨h3 x List.mem_cons_self, h6 q rfl x List.mem_cons_self⟩
      · cases hq; exact h5 y hy
theorem hasId_true {r : Room} {n : Int} : hasId r n = true ↔ ∃ m ∈ r.members, m.id = n := by
  unfold hasId
  rw [decide_eq_true_eq]
  constructor
  · intro h
    obtain ⟨k, m, _, _, h1, h2⟩ := idxP_found h
    exact ⟨m, List.mem_of_getElem? h1, by simpa [idIs] using h2⟩
  · rintro ⟨m, hm, rfl⟩
    rcases idxP_cases (idIs m.id) r.members with h | ⟨k, x, h, _⟩
    · exfalso
      unfold idxP at h
      rcases hf : r.members.findIdx? (idIs m.id) with _ | k
      · rw [List.findIdx?_eq_none_iff] at hf
        have := hf m hm
        simp [idIs] at this
      · rw [hf] at h; simp at h <;> omega
    · omega
theorem invd_true {r : Room} {n : Int} : invd r n = true ↔ ∃ m ∈ r.invites, m.id = n := by
  unfold invd
  rw [decide_eq_true_eq]
  constructor
  · intro h
    obtain ⟨k, m, _, _, h1, h2⟩ := idxP_found h
    exact ⟨m, List.mem_of_getElem? h1, by simpa [invIs] using h2⟩
  · rintro ⟨m, hm, rfl⟩
    rcases idxP_cases (invIs m.id) r.invites with h | ⟨k, x, h, _⟩
    · exfalso
      unfold idxP at h
      rcases hf : r.invites.findIdx? (invIs m.id) with _ | k
      · rw [List.findIdx?_eq_none_iff] at hf
        have := hf m hm
        simp [invIs] at this
      · rw [hf] at h; simp at h <;> omega
    · omega
/-- A valid room, told plainly. -/
structure VRoom (r : Room) : Prop where
  m1 : 1 ≤ r.members.length
  m32 : r.members.length ≤ 32
  i16 : r.invites.length ≤ 16
  b16 : r.bans.length ≤ 16
  mok : ∀ m ∈ r.members, memOkB m = true
  mp : r.members.Pairwise fun x y => x.id < y.id
  iok : ∀ v ∈ r.invites, invOkB r v = true
  ip : r.invites.Pairwise fun x y => x.id < y.id
  bok : ∀ b ∈ r.bans, banOkB r b = true
  bp : r.bans.Pairwise fun x y => x.id < y.id
  own : ownB r.members = true
theorem valid_iff {r : Room} : validRoomB r = true ↔ VRoom r := by
  have e1 := adj_pair Member.id memOkB memF (fun x => by simp [memF]) (fun x y => by simp [memF]) r.members none
  have e2 := adj_pair Invite.id (invOkB r) (invF r) (fun x => by simp [invF]) (fun x y => by simp [invF]) r.invites none
  have e3 := adj_pair Ban.id (banOkB r) (banF r) (fun x => by simp [banF]) (fun x y => by simp [banF]) r.bans none
  simp only [validRoomB, Bool.and_eq_true, decide_eq_true_eq, e1, e2, e3]
  constructor
  · rintro ⟨⟨⟨⟨⟨⟨⟨h1, h2⟩, h3⟩, h4⟩, a1, a2, _⟩, b1, b2, _⟩, c1, c2, _⟩, h5⟩
    exact ⟨by omega, by omega, by omega, by omega, a1, a2, b1, b2, c1, c2, h5⟩
  · rintro ⟨h1, h2, h3, h4, a1, a2, b1, b2, c1, c2, h5⟩
    exact ⟨⟨⟨⟨⟨⟨⟨by omega, by omega⟩, by omega⟩, by omega⟩, a1, a2, by simp⟩, b1, b2, by simp⟩, c1, c2, by simp⟩, h5⟩
end Go.Proofs.Ytglhepbcbildpaa
