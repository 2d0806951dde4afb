/- Rows of flat structs: a whole row is appended, a row is copied. -/
import Derived.Test.YtdmhjfajicclaaaRGround
import Derived.Test.YtdmhjfajicclaaaRTypes
namespace Go.Proofs.Ytdmhjfajicclaaa
open Go Go.RowKit
set_option linter.unusedVariables false
set_option linter.unusedSimpArgs false

theorem sizeParcelI : ∃ i, Try.prog.info? 68 = some i := by
  obtain ⟨i, hi, _⟩ := info_parts infoParcel; exact ⟨i, hi⟩
theorem eqlNilParcel (A : Option Addr) (n c : Nat) (w : World) : (binOp .eql 35 (.slice A n c) (.slice none 0 0)).run Try.prog w = .ok (.bool A.isNone) w := Go.Lib.run_eql_slice_nil w _ _ A n c 0 0 Try.underlying35
attribute [local go_sem] eqlNilParcel
set_option maxHeartbeats 1000000 in
theorem cloneParcel_c (v : Value) (l : List Parcel) (w : World) (h : SliceK parcelD w v l) (hlen : l.length ≤ 1048576) :
    Calls Try.prog 63 #[v] w (RetMade parcelD 68 w l) := by
  obtain ⟨A, c, rfl, hl, hm, hra⟩ := h
  have HA := hide hra
  clear hra
  by_cases h0 : l = []
  · subst h0
    obtain ⟨i, hi⟩ := sizeParcelI
    cases A with
    | none =>
      go_enter Try.func63, Try.ntmps63
      go_wp2_with fail
      go_ret
      exact ⟨_, rfl, ⟨[], .inl ⟨rfl, rfl, rfl⟩, by simp, by simp⟩, Below.refl _ _⟩
    | some a =>
      go_enter Try.func63, Try.ntmps63
      go_wp2_with (at_builtin
                   refine wpList_app0 _ rfl _ _ _ _ rfl i Try.underlying35 hi _ _ _ (Nat.le_refl _) rfl _ _ rfl ?_)
      go_ret
      exact ⟨_, rfl, ⟨_, emptyM _, by simp, by simp⟩, (Below.refl _ _).alloc (Nat.le_refl _) _⟩
  · have hp : 0 < l.length := List.length_pos_iff.2 h0
    rcases HA.out with hnil | ⟨b, o, rfl, hr⟩
    · exact absurd hnil h0
    have HR := hide hr
    clear hr HA h0
    go_enter Try.func63, Try.ntmps63
    go_wp2_with (at_builtin
                 refine wpList_app_flat _ rfl _ _ _ rfl (.agg #[(.int .i64 0), (.int .i64 0)]) 16 Try.underlying35 infoParcel rfl (by omega) (by omega) _ [] _ rfl (emptyM _) (by simp) _ _ _ l rfl (HR.out.below ((Below.refl _ _).alloc (Nat.le_refl _) _)) hp (by simpa using hlen) ?_
                 intro g2 cap2 w2 F2 hap
                 have HAP := hide hap
                 clear hap)
    go_ret
    have hap := HAP.out
    simp only [List.length_nil, Nat.zero_add, List.nil_append] at hap
    refine ⟨_, rfl, ⟨F2, (by have h := hap.m; exact h), hap.nodup, fun x hx => ?_⟩, ((Below.refl _ _).alloc (Nat.le_refl _) _).trans (hap.chg.below (by simp) (by simp))⟩
    rcases hap.from_ x hx with h | h | h
    · simp at h; omega
    · simp at h
    · rw [h]; simp
end Go.Proofs.Ytdmhjfajicclaaa
