/- Plain: what two poses have in common. -/
import Derived.Test.YtdhhbpnnahdofaaDoorSe3
import Derived.LoopN

namespace Go.Proofs.YtdhhbpnnahdofaaDoor
open Go.RowKit
set_option linter.unusedVariables false
set_option linter.unusedSimpArgs false

/-- two poses have frames in common -/
def okQ (p1 p2 p3 p4 p5 p6 q1 q2 q3 q4 q5 q6 : Rat) : Bool := decide (maxQ p1 q1 ≤ minQ p2 q2 ∧ maxQ p3 q3 ≤ minQ p4 q4 ∧ maxQ p5 q5 ≤ minQ p6 q6)
/-- what two poses have in common -/
def meQ (p1 p2 p3 p4 p5 p6 q1 q2 q3 q4 q5 q6 : Rat) : Array Value := PW (rt (maxQ p1 q1)) (rt (minQ p2 q2)) (rt (maxQ p3 q3)) (rt (minQ p4 q4)) (rt (maxQ p5 q5)) (rt (minQ p6 q6))
def z18 : Array Value := PW rz0 rz0 rz0 rz0 rz0 rz0
def mRQ (p1 p2 p3 p4 p5 p6 q1 q2 q3 q4 q5 q6 : Rat) : Value := if okQ p1 p2 p3 p4 p5 p6 q1 q2 q3 q4 q5 q6 = true then .tuple #[.agg (meQ p1 p2 p3 p4 p5 p6 q1 q2 q3 q4 q5 q6), .bool true] else .tuple #[.agg z18, .bool false]
end Go.Proofs.YtdhhbpnnahdofaaDoor
