/- Spans and poses that came in; poses as values. -/
import Derived.Test.YtekbpiooecdopaaDoorRwD
import Derived.Test.YtekbpiooecdopaaDoorSpL
import Derived.LoopN

namespace Go.Proofs.YtekbpiooecdopaaDoor
universe u
open Go.RowKit
set_option linter.unusedVariables false
set_option linter.unusedSimpArgs false

theorem St.f1 {W w : World} {x0 a : Own} {l : List Own} (h : St W (x0 :: a :: l) w) : St W (a :: x0 :: l) w := St.perm h (List.perm_middle (l₁ := [x0]))
theorem St.f2 {W w : World} {x0 x1 a : Own} {l : List Own} (h : St W (x0 :: x1 :: a :: l) w) : St W (a :: x0 :: x1 :: l) w := St.perm h (List.perm_middle (l₁ := [x0, x1]))
theorem St.f3 {W w : World} {x0 x1 x2 a : Own} {l : List Own} (h : St W (x0 :: x1 :: x2 :: a :: l) w) : St W (a :: x0 :: x1 :: x2 :: l) w := St.perm h (List.perm_middle (l₁ := [x0, x1, x2]))
/-- two, three, six numbers, cell by cell -/
def SW (a b : RT) : Array Value := #[.bool a.s, .string a.a, .string a.d, .bool b.s, .string b.a, .string b.d]
/-- a frame: where it is, whether it is the half turn, the joint value -/
def FW (x y : RT) (h : Bool) (t : RT) : Array Value := #[.bool x.s, .string x.a, .string x.d, .bool y.s, .string y.a, .string y.d, .bool h, .bool t.s, .string t.a, .string t.d]
section
variable {k l : Nat} {lo hi : Rat} {g : Bool} {a b : RT}
end
section
variable {o : Oper} {c : Act} {X Y Z : Operand}
end
end Go.Proofs.YtekbpiooecdopaaDoor
