/- Bytes of words: the program's tests and the reference's. -/
import Derived.Test.YticjphaagmnahaaRGround
namespace Go.Proofs.Yticjphaagmnahaa
open Go Go.RowKit
set_option linter.unusedVariables false
set_option linter.unusedSimpArgs false

def digB (c : UInt8) : Bool := decide (48 ≤ c.toNat) && decide (c.toNat ≤ 57)
def lowB (c : UInt8) : Bool := decide (97 ≤ c.toNat) && decide (c.toNat ≤ 122)
def upB (c : UInt8) : Bool := decide (65 ≤ c.toNat) && decide (c.toNat ≤ 90)
/-- A byte of a word. -/
def wbB (c : UInt8) : Bool := digB c || lowB c
def lowerC (c : UInt8) : UInt8 := if upB c then c + 32 else c
def l06C (c : UInt8) : UInt8 := if upB c then c + 32 else if wbB c then c else 0
theorem byte7 (c : UInt8) : c.toNat ≤ 47 ∨ (48 ≤ c.toNat ∧ c.toNat ≤ 57) ∨ (58 ≤ c.toNat ∧ c.toNat ≤ 64) ∨ (65 ≤ c.toNat ∧ c.toNat ≤ 90) ∨ (91 ≤ c.toNat ∧ c.toNat ≤ 96) ∨ (97 ≤ c.toNat ∧ c.toNat ≤ 122) ∨ 123 ≤ c.toNat := by omega
theorem add32 {c : UInt8} (h : c.toNat ≤ 90) : (c + 32).toNat = c.toNat + 32 := by
  rw [UInt8.toNat_add]; simp; omega
set_option maxHeartbeats 4000000 in
theorem isDigit_c (c : UInt8) (w : World) : Calls Try.prog 182 #[.int .u8 (c.toNat : Int)] w fun e w' => e = .returned (.bool (digB c)) ∧ w = w' := by
  rcases byte7 c with h | h | h | h | h | h | h
  · have hg48 : ¬ (48 : Int) ≤ (c.toNat : Int) := by omega
    have hg65 : ¬ (65 : Int) ≤ (c.toNat : Int) := by omega
    have hg97 : ¬ (97 : Int) ≤ (c.toNat : Int) := by omega
    have hl57 : (c.toNat : Int) ≤ 57 := by omega
    have hl90 : (c.toNat : Int) ≤ 90 := by omega
    have hl122 : (c.toNat : Int) ≤ 122 := by omega
    have hD : digB c = false := by simp [digB]; omega
    have hL : lowB c = false := by simp [lowB]; omega
    have hU : upB c = false := by simp [upB]; omega
    have ha : True := trivial
    have HV := hide (show digB c = false by exact hD)
    clear hD hL hU h ha
    go_enter Try.func182, Try.ntmps182
    go_wp2_with fail
    go_ret
    exact ⟨by rw [HV.out]; rfl, rfl⟩
  · have hg48 : (48 : Int) ≤ (c.toNat : Int) := by omega
    have hg65 : ¬ (65 : Int) ≤ (c.toNat : Int) := by omega
    have hg97 : ¬ (97 : Int) ≤ (c.toNat : Int) := by omega
    have hl57 : (c.toNat : Int) ≤ 57 := by omega
    have hl90 : (c.toNat : Int) ≤ 90 := by omega
    have hl122 : (c.toNat : Int) ≤ 122 := by omega
    have hD : digB c = true := by simp [digB]; omega
    have hL : lowB c = false := by simp [lowB]; omega
    have hU : upB c = false := by simp [upB]; omega
    have ha : True := trivial
    have HV := hide (show digB c = true by exact hD)
    clear hD hL hU h ha
    go_enter Try.func182, Try.ntmps182
    go_wp2_with fail
    go_ret
    exact ⟨by rw [HV.out]; rfl, rfl⟩
  · have hg48 : (48 : Int) ≤ (c.toNat : Int) := by omega
    have hg65 : ¬ (65 : Int) ≤ (c.toNat : Int) := by omega
    have hg97 : ¬ (97 : Int) ≤ (c.toNat : Int) := by omega
    have hl57 : ¬ (c.toNat : Int) ≤ 57 := by omega
    have hd57 : decide ((c.toNat : Int) ≤ 57) = false := decide_eq_false hl57
    have hl90 : (c.toNat : Int) ≤ 90 := by omega
    have hl122 : (c.toNat : Int) ≤ 122 := by omega
    have hD : digB c = false := by simp [digB]; omega
    have hL : lowB c = false := by simp [lowB]; omega
    have hU : upB c = false := by simp [upB]; omega
    have ha : True := trivial
    have HV := hide (show digB c = false by exact hD)
    clear hD hL hU h ha
    go_enter Try.func182, Try.ntmps182
    go_wp2_with fail
    go_ret
    exact ⟨by rw [HV.out]; rfl, rfl⟩
  · have hg48 : (48 : Int) ≤ (c.toNat : Int) := by omega
    have hg65 : (65 : Int) ≤ (c.toNat : Int) := by omega
    have hg97 : ¬ (97 : Int) ≤ (c.toNat : Int) := by omega
    have hl57 : ¬ (c.toNat : Int) ≤ 57 := by omega
    have hd57 : decide ((c.toNat : Int) ≤ 57) = false := decide_eq_false hl57
    have hl90 : (c.toNat : Int) ≤ 90 := by omega
    have hl122 : (c.toNat : Int) ≤ 122 := by omega
    have hD : digB c = false := by simp [digB]; omega
    have hL : lowB c = false := by simp [lowB]; omega
    have hU : upB c = true := by simp [upB]; omega
    have hw : IntKind.u8.wrap ((c.toNat : Int) + 32) = (c.toNat : Int) + 32 := by simp [IntKind.wrap, IntKind.signed, IntKind.bits]; omega
    have ha := add32 (c := c) (by omega)
    have HV := hide (show digB c = false by exact hD)
    clear hD hL hU h ha
    go_enter Try.func182, Try.ntmps182
    go_wp2_with fail
    go_ret
    exact ⟨by rw [HV.out]; rfl, rfl⟩
  · have hg48 : (48 : Int) ≤ (c.toNat : Int) := by omega
    have hg65 : (65 : Int) ≤ (c.toNat : Int) := by omega
    have hg97 : ¬ (97 : Int) ≤ (c.toNat : Int) := by omega
    have hl57 : ¬ (c.toNat : Int) ≤ 57 := by omega
    have hd57 : decide ((c.toNat : Int) ≤ 57) = false := decide_eq_false hl57
    have hl90 : ¬ (c.toNat : Int) ≤ 90 := by omega
    have hd90 : decide ((c.toNat : Int) ≤ 90) = false := decide_eq_false hl90
    have hl122 : (c.toNat : Int) ≤ 122 := by omega
    have hD : digB c = false := by simp [digB]; omega
    have hL : lowB c = false := by simp [lowB]; omega
    have hU : upB c = false := by simp [upB]; omega
    have ha : True := trivial
    have HV := hide (show digB c = false by exact hD)
    clear hD hL hU h ha
    go_enter Try.func182, Try.ntmps182
    go_wp2_with fail
    go_ret
    exact ⟨by rw [HV.out]; rfl, rfl⟩
  · have hg48 : (48 : Int) ≤ (c.toNat : Int) := by omega
    have hg65 : (65 : Int) ≤ (c.toNat : Int) := by omega
    have hg97 : (97 : Int) ≤ (c.toNat : Int) := by omega
    have hl57 : ¬ (c.toNat : Int) ≤ 57 := by omega
    have hd57 : decide ((c.toNat : Int) ≤ 57) = false := decide_eq_false hl57
    have hl90 : ¬ (c.toNat : Int) ≤ 90 := by omega
    have hd90 : decide ((c.toNat : Int) ≤ 90) = false := decide_eq_false hl90
    have hl122 : (c.toNat : Int) ≤ 122 := by omega
    have hD : digB c = false := by simp [digB]; omega
    have hL : lowB c = true := by simp [lowB]; omega
    have hU : upB c = false := by simp [upB]; omega
    have ha : True := trivial
    have HV := hide (show digB c = false by exact hD)
    clear hD hL hU h ha
    go_enter Try.func182, Try.ntmps182
    go_wp2_with fail
    go_ret
    exact ⟨by rw [HV.out]; rfl, rfl⟩
  · have hg48 : (48 : Int) ≤ (c.toNat : Int) := by omega
    have hg65 : (65 : Int) ≤ (c.toNat : Int) := by omega
    have hg97 : (97 : Int) ≤ (c.toNat : Int) := by omega
    have hl57 : ¬ (c.toNat : Int) ≤ 57 := by omega
    have hd57 : decide ((c.toNat : Int) ≤ 57) = false := decide_eq_false hl57
    have hl90 : ¬ (c.toNat : Int) ≤ 90 := by omega
    have hd90 : decide ((c.toNat : Int) ≤ 90) = false := decide_eq_false hl90
    have hl122 : ¬ (c.toNat : Int) ≤ 122 := by omega
    have hd122 : decide ((c.toNat : Int) ≤ 122) = false := decide_eq_false hl122
    have hD : digB c = false := by simp [digB]; omega
    have hL : lowB c = false := by simp [lowB]; omega
    have hU : upB c = false := by simp [upB]; omega
    have ha : True := trivial
    have HV := hide (show digB c = false by exact hD)
    clear hD hL hU h ha
    go_enter Try.func182, Try.ntmps182
    go_wp2_with fail
    go_ret
    exact ⟨by rw [HV.out]; rfl, rfl⟩
set_option maxHeartbeats 4000000 in
theorem wordByte_c (c : UInt8) (w : World) : Calls Try.prog 145 #[.int .u8 (c.toNat : Int)] w fun e w' => e = .returned (.bool (wbB c)) ∧ w = w' := by
  rcases byte7 c with h | h | h | h | h | h | h
  · have hg48 : ¬ (48 : Int) ≤ (c.toNat : Int) := by omega
    have hg65 : ¬ (65 : Int) ≤ (c.toNat : Int) := by omega
    have hg97 : ¬ (97 : Int) ≤ (c.toNat : Int) := by omega
    have hl57 : (c.toNat : Int) ≤ 57 := by omega
    have hl90 : (c.toNat : Int) ≤ 90 := by omega
    have hl122 : (c.toNat : Int) ≤ 122 := by omega
    have hD : digB c = false := by simp [digB]; omega
    have hL : lowB c = false := by simp [lowB]; omega
    have hU : upB c = false := by simp [upB]; omega
    have ha : True := trivial
    have HDG := hide hD
    have HV := hide (show wbB c = false by simp [wbB, hD, hL])
    clear hD hL hU h ha
    go_enter Try.func145, Try.ntmps145
    go_wp2_with (go_at_call 182; refine (isDigit_c c _).mono ?_; rintro e w' ⟨rfl, rfl⟩; rw [HDG.out])
    go_ret
    exact ⟨by rw [HV.out]; rfl, rfl⟩
  · have hg48 : (48 : Int) ≤ (c.toNat : Int) := by omega
    have hg65 : ¬ (65 : Int) ≤ (c.toNat : Int) := by omega
    have hg97 : ¬ (97 : Int) ≤ (c.toNat : Int) := by omega
    have hl57 : (c.toNat : Int) ≤ 57 := by omega
    have hl90 : (c.toNat : Int) ≤ 90 := by omega
    have hl122 : (c.toNat : Int) ≤ 122 := by omega
    have hD : digB c = true := by simp [digB]; omega
    have hL : lowB c = false := by simp [lowB]; omega
    have hU : upB c = false := by simp [upB]; omega
    have ha : True := trivial
    have HDG := hide hD
    have HV := hide (show wbB c = true by simp [wbB, hD, hL])
    clear hD hL hU h ha
    go_enter Try.func145, Try.ntmps145
    go_wp2_with (go_at_call 182; refine (isDigit_c c _).mono ?_; rintro e w' ⟨rfl, rfl⟩; rw [HDG.out])
    go_ret
    exact ⟨by rw [HV.out]; rfl, rfl⟩
  · have hg48 : (48 : Int) ≤ (c.toNat : Int) := by omega
    have hg65 : ¬ (65 : Int) ≤ (c.toNat : Int) := by omega
    have hg97 : ¬ (97 : Int) ≤ (c.toNat : Int) := by omega
    have hl57 : ¬ (c.toNat : Int) ≤ 57 := by omega
    have hd57 : decide ((c.toNat : Int) ≤ 57) = false := decide_eq_false hl57
    have hl90 : (c.toNat : Int) ≤ 90 := by omega
    have hl122 : (c.toNat : Int) ≤ 122 := by omega
    have hD : digB c = false := by simp [digB]; omega
    have hL : lowB c = false := by simp [lowB]; omega
    have hU : upB c = false := by simp [upB]; omega
    have ha : True := trivial
    have HDG := hide hD
    have HV := hide (show wbB c = false by simp [wbB, hD, hL])
    clear hD hL hU h ha
    go_enter Try.func145, Try.ntmps145
    go_wp2_with (go_at_call 182; refine (isDigit_c c _).mono ?_; rintro e w' ⟨rfl, rfl⟩; rw [HDG.out])
    go_ret
    exact ⟨by rw [HV.out]; rfl, rfl⟩
  · have hg48 : (48 : Int) ≤ (c.toNat : Int) := by omega
    have hg65 : (65 : Int) ≤ (c.toNat : Int) := by omega
    have hg97 : ¬ (97 : Int) ≤ (c.toNat : Int) := by omega
    have hl57 : ¬ (c.toNat : Int) ≤ 57 := by omega
    have hd57 : decide ((c.toNat : Int) ≤ 57) = false := decide_eq_false hl57
    have hl90 : (c.toNat : Int) ≤ 90 := by omega
    have hl122 : (c.toNat : Int) ≤ 122 := by omega
    have hD : digB c = false := by simp [digB]; omega
    have hL : lowB c = false := by simp [lowB]; omega
    have hU : upB c = true := by simp [upB]; omega
    have hw : IntKind.u8.wrap ((c.toNat : Int) + 32) = (c.toNat : Int) + 32 := by simp [IntKind.wrap, IntKind.signed, IntKind.bits]; omega
    have ha := add32 (c := c) (by omega)
    have HDG := hide hD
    have HV := hide (show wbB c = false by simp [wbB, hD, hL])
    clear hD hL hU h ha
    go_enter Try.func145, Try.ntmps145
    go_wp2_with (go_at_call 182; refine (isDigit_c c _).mono ?_; rintro e w' ⟨rfl, rfl⟩; rw [HDG.out])
    go_ret
    exact ⟨by rw [HV.out]; rfl, rfl⟩
  · have hg48 : (48 : Int) ≤ (c.toNat : Int) := by omega
    have hg65 : (65 : Int) ≤ (c.toNat : Int) := by omega
    have hg97 : ¬ (97 : Int) ≤ (c.toNat : Int) := by omega
    have hl57 : ¬ (c.toNat : Int) ≤ 57 := by omega
    have hd57 : decide ((c.toNat : Int) ≤ 57) = false := decide_eq_false hl57
    have hl90 : ¬ (c.toNat : Int) ≤ 90 := by omega
    have hd90 : decide ((c.toNat : Int) ≤ 90) = false := decide_eq_false hl90
    have hl122 : (c.toNat : Int) ≤ 122 := by omega
    have hD : digB c = false := by simp [digB]; omega
    have hL : lowB c = false := by simp [lowB]; omega
    have hU : upB c = false := by simp [upB]; omega
    have ha : True := trivial
    have HDG := hide hD
    have HV := hide (show wbB c = false by simp [wbB, hD, hL])
    clear hD hL hU h ha
    go_enter Try.func145, Try.ntmps145
    go_wp2_with (go_at_call 182; refine (isDigit_c c _).mono ?_; rintro e w' ⟨rfl, rfl⟩; rw [HDG.out])
    go_ret
    exact ⟨by rw [HV.out]; rfl, rfl⟩
  · have hg48 : (48 : Int) ≤ (c.toNat : Int) := by omega
    have hg65 : (65 : Int) ≤ (c.toNat : Int) := by omega
    have hg97 : (97 : Int) ≤ (c.toNat : Int) := by omega
    have hl57 : ¬ (c.toNat : Int) ≤ 57 := by omega
    have hd57 : decide ((c.toNat : Int) ≤ 57) = false := decide_eq_false hl57
    have hl90 : ¬ (c.toNat : Int) ≤ 90 := by omega
    have hd90 : decide ((c.toNat : Int) ≤ 90) = false := decide_eq_false hl90
    have hl122 : (c.toNat : Int) ≤ 122 := by omega
    have hD : digB c = false := by simp [digB]; omega
    have hL : lowB c = true := by simp [lowB]; omega
    have hU : upB c = false := by simp [upB]; omega
    have ha : True := trivial
    have HDG := hide hD
    have HV := hide (show wbB c = true by simp [wbB, hD, hL])
    clear hD hL hU h ha
    go_enter Try.func145, Try.ntmps145
    go_wp2_with (go_at_call 182; refine (isDigit_c c _).mono ?_; rintro e w' ⟨rfl, rfl⟩; rw [HDG.out])
    go_ret
    exact ⟨by rw [HV.out]; rfl, rfl⟩
  · have hg48 : (48 : Int) ≤ (c.toNat : Int) := by omega
    have hg65 : (65 : Int) ≤ (c.toNat : Int) := by omega
    have hg97 : (97 : Int) ≤ (c.toNat : Int) := by omega
    have hl57 : ¬ (c.toNat : Int) ≤ 57 := by omega
    have hd57 : decide ((c.toNat : Int) ≤ 57) = false := decide_eq_false hl57
    have hl90 : ¬ (c.toNat : Int) ≤ 90 := by omega
    have hd90 : decide ((c.toNat : Int) ≤ 90) = false := decide_eq_false hl90
    have hl122 : ¬ (c.toNat : Int) ≤ 122 := by omega
    have hd122 : decide ((c.toNat : Int) ≤ 122) = false := decide_eq_false hl122
    have hD : digB c = false := by simp [digB]; omega
    have hL : lowB c = false := by simp [lowB]; omega
    have hU : upB c = false := by simp [upB]; omega
    have ha : True := trivial
    have HDG := hide hD
    have HV := hide (show wbB c = false by simp [wbB, hD, hL])
    clear hD hL hU h ha
    go_enter Try.func145, Try.ntmps145
    go_wp2_with (go_at_call 182; refine (isDigit_c c _).mono ?_; rintro e w' ⟨rfl, rfl⟩; rw [HDG.out])
    go_ret
    exact ⟨by rw [HV.out]; rfl, rfl⟩
set_option maxHeartbeats 4000000 in
theorem lower_c (c : UInt8) (w : World) : Calls Try.prog 155 #[.int .u8 (c.toNat : Int)] w fun e w' => e = .returned (.int .u8 ((lowerC c).toNat : Int)) ∧ w = w' := by
  rcases byte7 c with h | h | h | h | h | h | h
  · have hg48 : ¬ (48 : Int) ≤ (c.toNat : Int) := by omega
    have hg65 : ¬ (65 : Int) ≤ (c.toNat : Int) := by omega
    have hg97 : ¬ (97 : Int) ≤ (c.toNat : Int) := by omega
    have hl57 : (c.toNat : Int) ≤ 57 := by omega
    have hl90 : (c.toNat : Int) ≤ 90 := by omega
    have hl122 : (c.toNat : Int) ≤ 122 := by omega
    have hD : digB c = false := by simp [digB]; omega
    have hL : lowB c = false := by simp [lowB]; omega
    have hU : upB c = false := by simp [upB]; omega
    have ha : True := trivial
    have HV := hide (show ((lowerC c).toNat : Int) = (c.toNat : Int) by simp [lowerC, hU])
    clear hD hL hU h ha
    go_enter Try.func155, Try.ntmps155
    go_wp2_with fail
    go_ret
    exact ⟨by rw [HV.out]; rfl, rfl⟩
  · have hg48 : (48 : Int) ≤ (c.toNat : Int) := by omega
    have hg65 : ¬ (65 : Int) ≤ (c.toNat : Int) := by omega
    have hg97 : ¬ (97 : Int) ≤ (c.toNat : Int) := by omega
    have hl57 : (c.toNat : Int) ≤ 57 := by omega
    have hl90 : (c.toNat : Int) ≤ 90 := by omega
    have hl122 : (c.toNat : Int) ≤ 122 := by omega
    have hD : digB c = true := by simp [digB]; omega
    have hL : lowB c = false := by simp [lowB]; omega
    have hU : upB c = false := by simp [upB]; omega
    have ha : True := trivial
    have HV := hide (show ((lowerC c).toNat : Int) = (c.toNat : Int) by simp [lowerC, hU])
    clear hD hL hU h ha
    go_enter Try.func155, Try.ntmps155
    go_wp2_with fail
    go_ret
    exact ⟨by rw [HV.out]; rfl, rfl⟩
  · have hg48 : (48 : Int) ≤ (c.toNat : Int) := by omega
    have hg65 : ¬ (65 : Int) ≤ (c.toNat : Int) := by omega
    have hg97 : ¬ (97 : Int) ≤ (c.toNat : Int) := by omega
    have hl57 : ¬ (c.toNat : Int) ≤ 57 := by omega
    have hd57 : decide ((c.toNat : Int) ≤ 57) = false := decide_eq_false hl57
    have hl90 : (c.toNat : Int) ≤ 90 := by omega
    have hl122 : (c.toNat : Int) ≤ 122 := by omega
    have hD : digB c = false := by simp [digB]; omega
    have hL : lowB c = false := by simp [lowB]; omega
    have hU : upB c = false := by simp [upB]; omega
    have ha : True := trivial
    have HV := hide (show ((lowerC c).toNat : Int) = (c.toNat : Int) by simp [lowerC, hU])
    clear hD hL hU h ha
    go_enter Try.func155, Try.ntmps155
    go_wp2_with fail
    go_ret
    exact ⟨by rw [HV.out]; rfl, rfl⟩
  · have hg48 : (48 : Int) ≤ (c.toNat : Int) := by omega
    have hg65 : (65 : Int) ≤ (c.toNat : Int) := by omega
    have hg97 : ¬ (97 : Int) ≤ (c.toNat : Int) := by omega
    have hl57 : ¬ (c.toNat : Int) ≤ 57 := by omega
    have hd57 : decide ((c.toNat : Int) ≤ 57) = false := decide_eq_false hl57
    have hl90 : (c.toNat : Int) ≤ 90 := by omega
    have hl122 : (c.toNat : Int) ≤ 122 := by omega
    have hD : digB c = false := by simp [digB]; omega
    have hL : lowB c = false := by simp [lowB]; omega
    have hU : upB c = true := by simp [upB]; omega
    have hw : IntKind.u8.wrap ((c.toNat : Int) + 32) = (c.toNat : Int) + 32 := by simp [IntKind.wrap, IntKind.signed, IntKind.bits]; omega
    have ha := add32 (c := c) (by omega)
    have HV := hide (show ((lowerC c).toNat : Int) = (c.toNat : Int) + 32 by simp [lowerC, hU]; omega)
    clear hD hL hU h ha
    go_enter Try.func155, Try.ntmps155
    go_wp2_with fail
    go_ret
    exact ⟨by rw [HV.out]; rfl, rfl⟩
  · have hg48 : (48 : Int) ≤ (c.toNat : Int) := by omega
    have hg65 : (65 : Int) ≤ (c.toNat : Int) := by omega
    have hg97 : ¬ (97 : Int) ≤ (c.toNat : Int) := by omega
    have hl57 : ¬ (c.toNat : Int) ≤ 57 := by omega
    have hd57 : decide ((c.toNat : Int) ≤ 57) = false := decide_eq_false hl57
    have hl90 : ¬ (c.toNat : Int) ≤ 90 := by omega
    have hd90 : decide ((c.toNat : Int) ≤ 90) = false := decide_eq_false hl90
    have hl122 : (c.toNat : Int) ≤ 122 := by omega
    have hD : digB c = false := by simp [digB]; omega
    have hL : lowB c = false := by simp [lowB]; omega
    have hU : upB c = false := by simp [upB]; omega
    have ha : True := trivial
    have HV := hide (show ((lowerC c).toNat : Int) = (c.toNat : Int) by simp [lowerC, hU])
    clear hD hL hU h ha
    go_enter Try.func155, Try.ntmps155
    go_wp2_with fail
    go_ret
    exact ⟨by rw [HV.out]; rfl, rfl⟩
  · have hg48 : (48 : Int) ≤ (c.toNat : Int) := by omega
    have hg65 : (65 : Int) ≤ (c.toNat : Int) := by omega
    have hg97 : (97 : Int) ≤ (c.toNat : Int) := by omega
    have hl57 : ¬ (c.toNat : Int) ≤ 57 := by omega
    have hd57 : decide ((c.toNat : Int) ≤ 57) = false := decide_eq_false hl57
    have hl90 : ¬ (c.toNat : Int) ≤ 90 := by omega
    have hd90 : decide ((c.toNat : Int) ≤ 90) = false := decide_eq_false hl90
    have hl122 : (c.toNat : Int) ≤ 122 := by omega
    have hD : digB c = false := by simp [digB]; omega
    have hL : lowB c = true := by simp [lowB]; omega
    have hU : upB c = false := by simp [upB]; omega
    have ha : True := trivial
    have HV := hide (show ((lowerC c).toNat : Int) = (c.toNat : Int) by simp [lowerC, hU])
    clear hD hL hU h ha
    go_enter Try.func155, Try.ntmps155
    go_wp2_with fail
    go_ret
    exact ⟨by rw [HV.out]; rfl, rfl⟩
  · have hg48 : (48 : Int) ≤ (c.toNat : Int) := by omega
    have hg65 : (65 : Int) ≤ (c.toNat : Int) := by omega
    have hg97 : (97 : Int) ≤ (c.toNat : Int) := by omega
    have hl57 : ¬ (c.toNat : Int) ≤ 57 := by omega
    have hd57 : decide ((c.toNat : Int) ≤ 57) = false := decide_eq_false hl57
    have hl90 : ¬ (c.toNat : Int) ≤ 90 := by omega
    have hd90 : decide ((c.toNat : Int) ≤ 90) = false := decide_eq_false hl90
    have hl122 : ¬ (c.toNat : Int) ≤ 122 := by omega
    have hd122 : decide ((c.toNat : Int) ≤ 122) = false := decide_eq_false hl122
    have hD : digB c = false := by simp [digB]; omega
    have hL : lowB c = false := by simp [lowB]; omega
    have hU : upB c = false := by simp [upB]; omega
    have ha : True := trivial
    have HV := hide (show ((lowerC c).toNat : Int) = (c.toNat : Int) by simp [lowerC, hU])
    clear hD hL hU h ha
    go_enter Try.func155, Try.ntmps155
    go_wp2_with fail
    go_ret
    exact ⟨by rw [HV.out]; rfl, rfl⟩
set_option maxHeartbeats 4000000 in
theorem l06Low_c (c : UInt8) (w : World) : Calls Try.prog 144 #[.int .u8 (c.toNat : Int)] w fun e w' => e = .returned (.int .u8 ((l06C c).toNat : Int)) ∧ w = w' := by
  rcases byte7 c with h | h | h | h | h | h | h
  · have hg48 : ¬ (48 : Int) ≤ (c.toNat : Int) := by omega
    have hg65 : ¬ (65 : Int) ≤ (c.toNat : Int) := by omega
    have hg97 : ¬ (97 : Int) ≤ (c.toNat : Int) := by omega
    have hl57 : (c.toNat : Int) ≤ 57 := by omega
    have hl90 : (c.toNat : Int) ≤ 90 := by omega
    have hl122 : (c.toNat : Int) ≤ 122 := by omega
    have hD : digB c = false := by simp [digB]; omega
    have hL : lowB c = false := by simp [lowB]; omega
    have hU : upB c = false := by simp [upB]; omega
    have ha : True := trivial
    have HV := hide (show ((l06C c).toNat : Int) = 0 by simp [l06C, wbB, hU, hD, hL])
    clear hD hL hU h ha
    go_enter Try.func144, Try.ntmps144
    go_wp2_with fail
    go_ret
    exact ⟨by rw [HV.out]; rfl, rfl⟩
  · have hg48 : (48 : Int) ≤ (c.toNat : Int) := by omega
    have hg65 : ¬ (65 : Int) ≤ (c.toNat : Int) := by omega
    have hg97 : ¬ (97 : Int) ≤ (c.toNat : Int) := by omega
    have hl57 : (c.toNat : Int) ≤ 57 := by omega
    have hl90 : (c.toNat : Int) ≤ 90 := by omega
    have hl122 : (c.toNat : Int) ≤ 122 := by omega
    have hD : digB c = true := by simp [digB]; omega
    have hL : lowB c = false := by simp [lowB]; omega
    have hU : upB c = false := by simp [upB]; omega
    have ha : True := trivial
    have HV := hide (show ((l06C c).toNat : Int) = (c.toNat : Int) by simp [l06C, wbB, hU, hD, hL])
    clear hD hL hU h ha
    go_enter Try.func144, Try.ntmps144
    go_wp2_with fail
    go_ret
    exact ⟨by rw [HV.out]; rfl, rfl⟩
  · have hg48 : (48 : Int) ≤ (c.toNat : Int) := by omega
    have hg65 : ¬ (65 : Int) ≤ (c.toNat : Int) := by omega
    have hg97 : ¬ (97 : Int) ≤ (c.toNat : Int) := by omega
    have hl57 : ¬ (c.toNat : Int) ≤ 57 := by omega
    have hd57 : decide ((c.toNat : Int) ≤ 57) = false := decide_eq_false hl57
    have hl90 : (c.toNat : Int) ≤ 90 := by omega
    have hl122 : (c.toNat : Int) ≤ 122 := by omega
    have hD : digB c = false := by simp [digB]; omega
    have hL : lowB c = false := by simp [lowB]; omega
    have hU : upB c = false := by simp [upB]; omega
    have ha : True := trivial
    have HV := hide (show ((l06C c).toNat : Int) = 0 by simp [l06C, wbB, hU, hD, hL])
    clear hD hL hU h ha
    go_enter Try.func144, Try.ntmps144
    go_wp2_with fail
    go_ret
    exact ⟨by rw [HV.out]; rfl, rfl⟩
  · have hg48 : (48 : Int) ≤ (c.toNat : Int) := by omega
    have hg65 : (65 : Int) ≤ (c.toNat : Int) := by omega
    have hg97 : ¬ (97 : Int) ≤ (c.toNat : Int) := by omega
    have hl57 : ¬ (c.toNat : Int) ≤ 57 := by omega
    have hd57 : decide ((c.toNat : Int) ≤ 57) = false := decide_eq_false hl57
    have hl90 : (c.toNat : Int) ≤ 90 := by omega
    have hl122 : (c.toNat : Int) ≤ 122 := by omega
    have hD : digB c = false := by simp [digB]; omega
    have hL : lowB c = false := by simp [lowB]; omega
    have hU : upB c = true := by simp [upB]; omega
    have hw : IntKind.u8.wrap ((c.toNat : Int) + 32) = (c.toNat : Int) + 32 := by simp [IntKind.wrap, IntKind.signed, IntKind.bits]; omega
    have ha := add32 (c := c) (by omega)
    have HV := hide (show ((l06C c).toNat : Int) = (c.toNat : Int) + 32 by simp [l06C, wbB, hU, hD, hL]; omega)
    clear hD hL hU h ha
    go_enter Try.func144, Try.ntmps144
    go_wp2_with fail
    go_ret
    exact ⟨by rw [HV.out]; rfl, rfl⟩
  · have hg48 : (48 : Int) ≤ (c.toNat : Int) := by omega
    have hg65 : (65 : Int) ≤ (c.toNat : Int) := by omega
    have hg97 : ¬ (97 : Int) ≤ (c.toNat : Int) := by omega
    have hl57 : ¬ (c.toNat : Int) ≤ 57 := by omega
    have hd57 : decide ((c.toNat : Int) ≤ 57) = false := decide_eq_false hl57
    have hl90 : ¬ (c.toNat : Int) ≤ 90 := by omega
    have hd90 : decide ((c.toNat : Int) ≤ 90) = false := decide_eq_false hl90
    have hl122 : (c.toNat : Int) ≤ 122 := by omega
    have hD : digB c = false := by simp [digB]; omega
    have hL : lowB c = false := by simp [lowB]; omega
    have hU : upB c = false := by simp [upB]; omega
    have ha : True := trivial
    have HV := hide (show ((l06C c).toNat : Int) = 0 by simp [l06C, wbB, hU, hD, hL])
    clear hD hL hU h ha
    go_enter Try.func144, Try.ntmps144
    go_wp2_with fail
    go_ret
    exact ⟨by rw [HV.out]; rfl, rfl⟩
  · have hg48 : (48 : Int) ≤ (c.toNat : Int) := by omega
    have hg65 : (65 : Int) ≤ (c.toNat : Int) := by omega
    have hg97 : (97 : Int) ≤ (c.toNat : Int) := by omega
    have hl57 : ¬ (c.toNat : Int) ≤ 57 := by omega
    have hd57 : decide ((c.toNat : Int) ≤ 57) = false := decide_eq_false hl57
    have hl90 : ¬ (c.toNat : Int) ≤ 90 := by omega
    have hd90 : decide ((c.toNat : Int) ≤ 90) = false := decide_eq_false hl90
    have hl122 : (c.toNat : Int) ≤ 122 := by omega
    have hD : digB c = false := by simp [digB]; omega
    have hL : lowB c = true := by simp [lowB]; omega
    have hU : upB c = false := by simp [upB]; omega
    have ha : True := trivial
    have HV := hide (show ((l06C c).toNat : Int) = (c.toNat : Int) by simp [l06C, wbB, hU, hD, hL])
    clear hD hL hU h ha
    go_enter Try.func144, Try.ntmps144
    go_wp2_with fail
    go_ret
    exact ⟨by rw [HV.out]; rfl, rfl⟩
  · have hg48 : (48 : Int) ≤ (c.toNat : Int) := by omega
    have hg65 : (65 : Int) ≤ (c.toNat : Int) := by omega
    have hg97 : (97 : Int) ≤ (c.toNat : Int) := by omega
    have hl57 : ¬ (c.toNat : Int) ≤ 57 := by omega
    have hd57 : decide ((c.toNat : Int) ≤ 57) = false := decide_eq_false hl57
    have hl90 : ¬ (c.toNat : Int) ≤ 90 := by omega
    have hd90 : decide ((c.toNat : Int) ≤ 90) = false := decide_eq_false hl90
    have hl122 : ¬ (c.toNat : Int) ≤ 122 := by omega
    have hd122 : decide ((c.toNat : Int) ≤ 122) = false := decide_eq_false hl122
    have hD : digB c = false := by simp [digB]; omega
    have hL : lowB c = false := by simp [lowB]; omega
    have hU : upB c = false := by simp [upB]; omega
    have ha : True := trivial
    have HV := hide (show ((l06C c).toNat : Int) = 0 by simp [l06C, wbB, hU, hD, hL])
    clear hD hL hU h ha
    go_enter Try.func144, Try.ntmps144
    go_wp2_with fail
    go_ret
    exact ⟨by rw [HV.out]; rfl, rfl⟩
/-- What the reference asks of a byte of a word. -/
theorem l06_same (c : UInt8) : wbB c = (!decide (c = 0) && decide (l06C c = c)) := by
  rcases byte7 c with h | h | h | h | h | h | h
  · have hD : digB c = false := by simp [digB]; omega
    have hL : lowB c = false := by simp [lowB]; omega
    have hU : upB c = false := by simp [upB]; omega
    by_cases h0 : c = 0
    · subst h0; simp [wbB, hD, hL]
    · have h1 : ¬ (0 : UInt8) = c := fun e => h0 e.symm
      simp [wbB, l06C, hD, hL, hU, h0, h1]
  · have hD : digB c = true := by simp [digB]; omega
    have hL : lowB c = false := by simp [lowB]; omega
    have hU : upB c = false := by simp [upB]; omega
    have hne : ¬ c = 0 := fun e => by subst e; simp at h
    simp [wbB, l06C, hD, hL, hU, hne]
  · have hD : digB c = false := by simp [digB]; omega
    have hL : lowB c = false := by simp [lowB]; omega
    have hU : upB c = false := by simp [upB]; omega
    by_cases h0 : c = 0
    · subst h0; simp [wbB, hD, hL]
    · have h1 : ¬ (0 : UInt8) = c := fun e => h0 e.symm
      simp [wbB, l06C, hD, hL, hU, h0, h1]
  · have hD : digB c = false := by simp [digB]; omega
    have hL : lowB c = false := by simp [lowB]; omega
    have hU : upB c = true := by simp [upB]; omega
    have ha := add32 (c := c) (by omega)
    have hne : ¬ c + 32 = c := fun e => by rw [e] at ha; omega
    simp [wbB, l06C, hD, hL, hU, hne]
  · have hD : digB c = false := by simp [digB]; omega
    have hL : lowB c = false := by simp [lowB]; omega
    have hU : upB c = false := by simp [upB]; omega
    by_cases h0 : c = 0
    · subst h0; simp [wbB, hD, hL]
    · have h1 : ¬ (0 : UInt8) = c := fun e => h0 e.symm
      simp [wbB, l06C, hD, hL, hU, h0, h1]
  · have hD : digB c = false := by simp [digB]; omega
    have hL : lowB c = true := by simp [lowB]; omega
    have hU : upB c = false := by simp [upB]; omega
    have hne : ¬ c = 0 := fun e => by subst e; simp at h
    simp [wbB, l06C, hD, hL, hU, hne]
  · have hD : digB c = false := by simp [digB]; omega
    have hL : lowB c = false := by simp [lowB]; omega
    have hU : upB c = false := by simp [upB]; omega
    by_cases h0 : c = 0
    · subst h0; simp [wbB, hD, hL]
    · have h1 : ¬ (0 : UInt8) = c := fun e => h0 e.symm
      simp [wbB, l06C, hD, hL, hU, h0, h1]
/-- The word that a run of a text's bytes is. -/
theorem l06_low {c : UInt8} (h : wbB (lowerC c) = true) : l06C c = lowerC c := by
  unfold l06C lowerC at *
  split
  · rfl
  · rename_i hu
    rw [if_neg hu] at h
    rw [if_pos h]
theorem l06_zero (c : UInt8) : decide (l06C c = 0) = !wbB (lowerC c) := by
  rcases byte7 c with h | h | h | h | h | h | h
  · have hD : digB c = false := by simp [digB]; omega
    have hL : lowB c = false := by simp [lowB]; omega
    have hU : upB c = false := by simp [upB]; omega
    simp [wbB, l06C, lowerC, hD, hL, hU]
  · have hD : digB c = true := by simp [digB]; omega
    have hL : lowB c = false := by simp [lowB]; omega
    have hU : upB c = false := by simp [upB]; omega
    have hne : ¬ c = 0 := fun e => by subst e; simp at h
    simp [wbB, l06C, lowerC, hD, hL, hU, hne]
  · have hD : digB c = false := by simp [digB]; omega
    have hL : lowB c = false := by simp [lowB]; omega
    have hU : upB c = false := by simp [upB]; omega
    simp [wbB, l06C, lowerC, hD, hL, hU]
  · have hD : digB c = false := by simp [digB]; omega
    have hL : lowB c = false := by simp [lowB]; omega
    have hU : upB c = true := by simp [upB]; omega
    have ha := add32 (c := c) (by omega)
    have hne : ¬ c + 32 = 0 := fun e => by rw [e] at ha; simp at ha <;> omega
    have hw : wbB (c + 32) = true := by simp [wbB, lowB, digB, ha]; omega
    simp [l06C, lowerC, hD, hL, hU, hne, hw]
  · have hD : digB c = false := by simp [digB]; omega
    have hL : lowB c = false := by simp [lowB]; omega
    have hU : upB c = false := by simp [upB]; omega
    simp [wbB, l06C, lowerC, hD, hL, hU]
  · have hD : digB c = false := by simp [digB]; omega
    have hL : lowB c = true := by simp [lowB]; omega
    have hU : upB c = false := by simp [upB]; omega
    have hne : ¬ c = 0 := fun e => by subst e; simp at h
    simp [wbB, l06C, lowerC, hD, hL, hU, hne]
  · have hD : digB c = false := by simp [digB]; omega
    have hL : lowB c = false := by simp [lowB]; omega
    have hU : upB c = false := by simp [upB]; omega
    simp [wbB, l06C, lowerC, hD, hL, hU]
end Go.Proofs.Yticjphaagmnahaa
