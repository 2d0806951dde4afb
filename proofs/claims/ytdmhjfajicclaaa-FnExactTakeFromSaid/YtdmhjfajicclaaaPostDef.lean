/- Valid posts, as plain data. -/
import Derived.Test.YtdmhjfajicclaaaRGround
import Derived.Test.YtdmhjfajicclaaaRTypes
namespace Go.Proofs.Ytdmhjfajicclaaa
open Go Go.RowKit
set_option linter.unusedVariables false
set_option linter.unusedSimpArgs false

/-- One token ahead of another. -/
def tokLt (a b : ByteArray) : Bool := Op.bytesLess a.toList b.toList
def tokIs (t : ByteArray) (b : Box) : Bool := b.token.toList == t.toList
def parOkB (p : Parcel) : Bool := inB p.room 1 1000 && inB p.number 1 1000000
def parsOkB (l : List Parcel) : Bool := decide ((l.length : Int) ≤ 64) && l.all parOkB
def boxOkB (lim : Int) (b : Box) : Bool := decide ((b.token.size : Int) = 16) && inB b.member 1 1000 && inB b.missed 0 1000000000 && parsOkB b.held && decide ((b.held.length : Int) ≤ lim)
def boxF (lim : Int) (b : Box) (p : Option Box) : Bool := boxOkB lim b && match p with | none => true | some q => tokLt q.token b.token
/-- A valid post. -/
def validPostB (p : Post) : Bool := inB p.limit 1 64 && decide ((p.boxes.length : Int) ≤ 32) && adjB (boxF p.limit) none p.boxes
theorem boxF_no {lim : Int} {b : Box} {p : Option Box} (h : boxOkB lim b = false) : boxF lim b p = false := by simp [boxF, h]
theorem boxF_none {lim : Int} {b : Box} (h : boxOkB lim b = true) : boxF lim b none = true := by simp [boxF, h]
theorem boxF_some {lim : Int} {b q : Box} (h : boxOkB lim b = true) (h2 : tokLt q.token b.token = true) : boxF lim b (some q) = true := by simp [boxF, h, h2]
theorem boxF_ord {lim : Int} {b q : Box} (h2 : tokLt q.token b.token = false) : boxF lim b (some q) = false := by simp [boxF, h2]
end Go.Proofs.Ytdmhjfajicclaaa
