/- The answers to a message: the program and the reference. -/
import Derived.Test.YtadcmiinjepdcaaGreatLogs
import Derived.Test.YtadcmiinjepdcaaGreatSpecLog
namespace Go.Proofs.YtadcmiinjepdcaaGreat
open Go Go.RowKit Go.BigFrame
attribute [local go_sem] Calm.cell Calm.frozen
set_option linter.unusedVariables false
set_option linter.unusedSimpArgs false

def answersP (n : Int) (m : Message) : Bool := decide (m.reply = n)
def hasNum (l : Log) (n : Int) : Bool := decide (0 ≤ idxP (numIs n) l.messages)
def answersOk (l : Log) (n : Int) : Bool := validLogB l && hasNum l n
def answersL (l : Log) (n : Int) : List Int := if answersOk l n then pickNums (answersP n) l.messages else []
theorem answersL_yes {l : Log} {n : Int} (h : answersOk l n = true) : answersL l n = pickNums (answersP n) l.messages := by simp [answersL, h]
theorem answersL_no {l : Log} {n : Int} (h : answersOk l n = false) : answersL l n = [] := by simp [answersL, h]

theorem answersL_len (l : Log) (n : Int) : (answersL l n).length ≤ l.messages.length := by
  unfold answersL; split
  · exact pickNums_len _ _
  · simp

end Go.Proofs.YtadcmiinjepdcaaGreat
