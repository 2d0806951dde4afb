/- The log behind a history: the reference and the program. -/
import Derived.Test.YtodmongmaoeknaaGreatHist
namespace Go.Proofs.YtodmongmaoeknaaGreat
open Go Go.RowKit Go.BigFrame
attribute [local go_sem] Calm.cell Calm.frozen
set_option linter.unusedVariables false
set_option linter.unusedSimpArgs false

def curL (h : History) : Log := reL h.base h.events
theorem cur_cnt (h : History) : tcntLog (curL h) ≤ 1080 := re_cnt _ _
theorem hist_valid {h : History} (hh : histB h = true) : validLogB h.base = true ∧ eventsB h.events = true ∧ runOk h.base h.events = true := by
  simp only [histB, reOk, Bool.and_eq_true] at hh; exact ⟨hh.2.1, hh.1, hh.2.2⟩
end Go.Proofs.YtodmongmaoeknaaGreat
