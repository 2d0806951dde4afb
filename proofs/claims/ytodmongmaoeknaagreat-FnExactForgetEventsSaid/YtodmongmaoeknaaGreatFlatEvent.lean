/- Rows of flat structs: a whole row is appended, a row is copied. -/
import Derived.Test.YtodmongmaoeknaaGreatRGround
import Derived.Test.YtodmongmaoeknaaGreatRTypes
namespace Go.Proofs.YtodmongmaoeknaaGreat
open Go Go.RowKit
set_option linter.unusedVariables false
set_option linter.unusedSimpArgs false

theorem sizeEventI : ∃ i, Tryz.prog.info? 55 = some i := by
  obtain ⟨i, hi, _⟩ := info_parts infoEvent; exact ⟨i, hi⟩
theorem eqlNilEvent (A : Option Addr) (n c : Nat) (w : World) : (binOp .eql 32 (.slice A n c) (.slice none 0 0)).run Tryz.prog w = .ok (.bool A.isNone) w := Go.Lib.run_eql_slice_nil w _ _ A n c 0 0 Tryz.underlying32
attribute [local go_sem] eqlNilEvent
set_option maxHeartbeats 1000000 in
theorem cloneEvent_c (v : Value) (l : List Event) (w : World) (h : SliceK eventD w v l) (hlen : l.length ≤ 1048576) :
    Calls Tryz.prog 21 #[v] w (RetMade eventD 55 w l) := by
  obtain ⟨A, c, rfl, hl, hm, hra⟩ := h
  have HA := hide hra
  clear hra
  by_cases h0 : l = []
  · subst h0
    obtain ⟨i, hi⟩ := sizeEventI
    cases A with
    | none =>
      go_enter Tryz.func21, Tryz.ntmps21
      go_wp2_with fail
      go_ret
      exact ⟨_, rfl, ⟨[], .inl ⟨rfl, rfl, rfl⟩, by simp, by simp⟩, Below.refl _ _⟩
    | some a =>
      go_enter Tryz.func21, Tryz.ntmps21
      go_wp2_with (at_builtin
                   refine wpList_app0 _ rfl _ _ _ _ rfl i Tryz.underlying32 hi _ _ _ (Nat.le_refl _) rfl _ _ rfl ?_)
      go_ret
      exact ⟨_, rfl, ⟨_, emptyM _, by simp, by simp⟩, (Below.refl _ _).alloc (Nat.le_refl _) _⟩
  · have hp : 0 < l.length := List.length_pos_iff.2 h0
    rcases HA.out with hnil | ⟨b, o, rfl, hr⟩
    · exact absurd hnil h0
    have HR := hide hr
    clear hr HA h0
    go_enter Tryz.func21, Tryz.ntmps21
    go_wp2_with (at_builtin
                 refine wpList_app_flat _ rfl _ _ _ rfl (.agg #[(.int .i64 0), (.int .i64 0), (.int .i64 0), (.int .i64 0), (.string ⟨#[]⟩), (.int .i64 0)]) 56 Tryz.underlying32 infoEvent rfl (by omega) (by omega) _ [] _ rfl (emptyM _) (by simp) _ _ _ l rfl (HR.out.below ((Below.refl _ _).alloc (Nat.le_refl _) _)) hp (by simpa using hlen) ?_
                 intro g2 cap2 w2 F2 hap
                 have HAP := hide hap
                 clear hap)
    go_ret
    have hap := HAP.out
    simp only [List.length_nil, Nat.zero_add, List.nil_append] at hap
    refine ⟨_, rfl, ⟨F2, (by have h := hap.m; exact h), hap.nodup, fun x hx => ?_⟩, ((Below.refl _ _).alloc (Nat.le_refl _) _).trans (hap.chg.below (by simp) (by simp))⟩
    rcases hap.from_ x hx with h | h | h
    · simp at h; omega
    · simp at h
    · rw [h]; simp
end Go.Proofs.YtodmongmaoeknaaGreat
