/- Rows of flat structs: a whole row is appended, a row is copied. -/
import Derived.Test.YtccgjnanphonnaaFlat
import Derived.Test.YtccgjnanphonnaaTyRoom
namespace Go.Proofs.Ytccgjnanphonnaa
open Go Go.RowKit
set_option linter.unusedVariables false
set_option linter.unusedSimpArgs false

theorem infoMember : (Try.prog.info? 69).map (fun i => (i.zero, i.size, i.bytes)) = some (some (.agg #[(.int .i64 0), (.int .i64 0), (.int .i64 0), (.int .i64 0)]), 4, 32) := by kernel_rfl
theorem sizeMemberI : ∃ i, Try.prog.info? 69 = some i := by
  obtain ⟨i, hi, _⟩ := info_parts infoMember; exact ⟨i, hi⟩
theorem eqlNilMember (A : Option Addr) (n c : Nat) (w : World) : (binOp .eql 28 (.slice A n c) (.slice none 0 0)).run Try.prog w = .ok (.bool A.isNone) w := Go.Lib.run_eql_slice_nil w _ _ A n c 0 0 Try.underlying28
attribute [local go_sem] eqlNilMember
set_option maxHeartbeats 1000000 in
theorem cloneMember_c (v : Value) (l : List Member) (w : World) (h : SliceK memberD w v l) (hlen : l.length ≤ 1048576) :
    Calls Try.prog 93 #[v] w (RetMade memberD 69 w l) := by
  obtain ⟨A, c, rfl, hl, hm, hra⟩ := h
  have HA := hide hra
  clear hra
  by_cases h0 : l = []
  · subst h0
    obtain ⟨i, hi⟩ := sizeMemberI
    cases A with
    | none =>
      go_enter Try.func93, Try.ntmps93
      go_wp2_with fail
      go_ret
      exact ⟨_, rfl, ⟨[], .inl ⟨rfl, rfl, rfl⟩, by simp, by simp⟩, Below.refl _ _⟩
    | some a =>
      go_enter Try.func93, Try.ntmps93
      go_wp2_with (at_builtin
                   refine wpList_app0 _ rfl _ _ _ _ rfl i Try.underlying28 hi _ _ _ (Nat.le_refl _) rfl _ _ rfl ?_)
      go_ret
      exact ⟨_, rfl, ⟨_, emptyM _, by simp, by simp⟩, (Below.refl _ _).alloc (Nat.le_refl _) _⟩
  · have hp : 0 < l.length := List.length_pos_iff.2 h0
    rcases HA.out with hnil | ⟨b, o, rfl, hr⟩
    · exact absurd hnil h0
    have HR := hide hr
    clear hr HA h0
    go_enter Try.func93, Try.ntmps93
    go_wp2_with (at_builtin
                 refine wpList_app_flat _ rfl _ _ _ rfl (.agg #[(.int .i64 0), (.int .i64 0), (.int .i64 0), (.int .i64 0)]) 32 Try.underlying28 infoMember rfl (by omega) (by omega) _ [] _ rfl (emptyM _) (by simp) _ _ _ l rfl (HR.out.below ((Below.refl _ _).alloc (Nat.le_refl _) _)) hp (by simpa using hlen) ?_
                 intro g2 cap2 w2 F2 hap
                 have HAP := hide hap
                 clear hap)
    go_ret
    have hap := HAP.out
    simp only [List.length_nil, Nat.zero_add, List.nil_append] at hap
    refine ⟨_, rfl, ⟨F2, (by have h := hap.m; exact h), hap.nodup, fun x hx => ?_⟩, ((Below.refl _ _).alloc (Nat.le_refl _) _).trans (hap.chg.below (by simp) (by simp))⟩
    rcases hap.from_ x hx with h | h | h
    · simp at h; omega
    · simp at h
    · rw [h]; simp
theorem infoInvite : (Try.prog.info? 65).map (fun i => (i.zero, i.size, i.bytes)) = some (some (.agg #[(.int .i64 0), (.int .i64 0), (.int .i64 0)]), 3, 24) := by kernel_rfl
theorem sizeInviteI : ∃ i, Try.prog.info? 65 = some i := by
  obtain ⟨i, hi, _⟩ := info_parts infoInvite; exact ⟨i, hi⟩
theorem eqlNilInvite (A : Option Addr) (n c : Nat) (w : World) : (binOp .eql 29 (.slice A n c) (.slice none 0 0)).run Try.prog w = .ok (.bool A.isNone) w := Go.Lib.run_eql_slice_nil w _ _ A n c 0 0 Try.underlying29
attribute [local go_sem] eqlNilInvite
set_option maxHeartbeats 1000000 in
theorem cloneInvite_c (v : Value) (l : List Invite) (w : World) (h : SliceK inviteD w v l) (hlen : l.length ≤ 1048576) :
    Calls Try.prog 94 #[v] w (RetMade inviteD 65 w l) := by
  obtain ⟨A, c, rfl, hl, hm, hra⟩ := h
  have HA := hide hra
  clear hra
  by_cases h0 : l = []
  · subst h0
    obtain ⟨i, hi⟩ := sizeInviteI
    cases A with
    | none =>
      go_enter Try.func94, Try.ntmps94
      go_wp2_with fail
      go_ret
      exact ⟨_, rfl, ⟨[], .inl ⟨rfl, rfl, rfl⟩, by simp, by simp⟩, Below.refl _ _⟩
    | some a =>
      go_enter Try.func94, Try.ntmps94
      go_wp2_with (at_builtin
                   refine wpList_app0 _ rfl _ _ _ _ rfl i Try.underlying29 hi _ _ _ (Nat.le_refl _) rfl _ _ rfl ?_)
      go_ret
      exact ⟨_, rfl, ⟨_, emptyM _, by simp, by simp⟩, (Below.refl _ _).alloc (Nat.le_refl _) _⟩
  · have hp : 0 < l.length := List.length_pos_iff.2 h0
    rcases HA.out with hnil | ⟨b, o, rfl, hr⟩
    · exact absurd hnil h0
    have HR := hide hr
    clear hr HA h0
    go_enter Try.func94, Try.ntmps94
    go_wp2_with (at_builtin
                 refine wpList_app_flat _ rfl _ _ _ rfl (.agg #[(.int .i64 0), (.int .i64 0), (.int .i64 0)]) 24 Try.underlying29 infoInvite rfl (by omega) (by omega) _ [] _ rfl (emptyM _) (by simp) _ _ _ l rfl (HR.out.below ((Below.refl _ _).alloc (Nat.le_refl _) _)) hp (by simpa using hlen) ?_
                 intro g2 cap2 w2 F2 hap
                 have HAP := hide hap
                 clear hap)
    go_ret
    have hap := HAP.out
    simp only [List.length_nil, Nat.zero_add, List.nil_append] at hap
    refine ⟨_, rfl, ⟨F2, (by have h := hap.m; exact h), hap.nodup, fun x hx => ?_⟩, ((Below.refl _ _).alloc (Nat.le_refl _) _).trans (hap.chg.below (by simp) (by simp))⟩
    rcases hap.from_ x hx with h | h | h
    · simp at h; omega
    · simp at h
    · rw [h]; simp
theorem infoBan : (Try.prog.info? 67).map (fun i => (i.zero, i.size, i.bytes)) = some (some (.agg #[(.int .i64 0), (.int .i64 0)]), 2, 16) := by kernel_rfl
theorem sizeBanI : ∃ i, Try.prog.info? 67 = some i := by
  obtain ⟨i, hi, _⟩ := info_parts infoBan; exact ⟨i, hi⟩
theorem eqlNilBan (A : Option Addr) (n c : Nat) (w : World) : (binOp .eql 30 (.slice A n c) (.slice none 0 0)).run Try.prog w = .ok (.bool A.isNone) w := Go.Lib.run_eql_slice_nil w _ _ A n c 0 0 Try.underlying30
attribute [local go_sem] eqlNilBan
set_option maxHeartbeats 1000000 in
theorem cloneBan_c (v : Value) (l : List Ban) (w : World) (h : SliceK banD w v l) (hlen : l.length ≤ 1048576) :
    Calls Try.prog 95 #[v] w (RetMade banD 67 w l) := by
  obtain ⟨A, c, rfl, hl, hm, hra⟩ := h
  have HA := hide hra
  clear hra
  by_cases h0 : l = []
  · subst h0
    obtain ⟨i, hi⟩ := sizeBanI
    cases A with
    | none =>
      go_enter Try.func95, Try.ntmps95
      go_wp2_with fail
      go_ret
      exact ⟨_, rfl, ⟨[], .inl ⟨rfl, rfl, rfl⟩, by simp, by simp⟩, Below.refl _ _⟩
    | some a =>
      go_enter Try.func95, Try.ntmps95
      go_wp2_with (at_builtin
                   refine wpList_app0 _ rfl _ _ _ _ rfl i Try.underlying30 hi _ _ _ (Nat.le_refl _) rfl _ _ rfl ?_)
      go_ret
      exact ⟨_, rfl, ⟨_, emptyM _, by simp, by simp⟩, (Below.refl _ _).alloc (Nat.le_refl _) _⟩
  · have hp : 0 < l.length := List.length_pos_iff.2 h0
    rcases HA.out with hnil | ⟨b, o, rfl, hr⟩
    · exact absurd hnil h0
    have HR := hide hr
    clear hr HA h0
    go_enter Try.func95, Try.ntmps95
    go_wp2_with (at_builtin
                 refine wpList_app_flat _ rfl _ _ _ rfl (.agg #[(.int .i64 0), (.int .i64 0)]) 16 Try.underlying30 infoBan rfl (by omega) (by omega) _ [] _ rfl (emptyM _) (by simp) _ _ _ l rfl (HR.out.below ((Below.refl _ _).alloc (Nat.le_refl _) _)) hp (by simpa using hlen) ?_
                 intro g2 cap2 w2 F2 hap
                 have HAP := hide hap
                 clear hap)
    go_ret
    have hap := HAP.out
    simp only [List.length_nil, Nat.zero_add, List.nil_append] at hap
    refine ⟨_, rfl, ⟨F2, (by have h := hap.m; exact h), hap.nodup, fun x hx => ?_⟩, ((Below.refl _ _).alloc (Nat.le_refl _) _).trans (hap.chg.below (by simp) (by simp))⟩
    rcases hap.from_ x hx with h | h | h
    · simp at h; omega
    · simp at h
    · rw [h]; simp
end Go.Proofs.Ytccgjnanphonnaa
