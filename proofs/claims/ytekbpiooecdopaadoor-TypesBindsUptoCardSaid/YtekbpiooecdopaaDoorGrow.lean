/- Rows of the call's own that grow by append: all of them under one word. -/
import Derived.Test.YtekbpiooecdopaaDoorBunLib
import Derived.Deep.Onto

namespace Go.Proofs.YtekbpiooecdopaaDoor
open Go.RowKit
set_option linter.unusedVariables false

/-- a row: the slice value, the type of the elements, cells of an element, how many elements, the cells -/
structure Rw where
  v : Value
  e : TypeId
  s : Nat
  n : Nat
  xs : List Value
section
variable {W w w' : World} {rs : List Rw}
end

section
variable {P : Program} {W : World} {rs : List Rw}
end
end Go.Proofs.YtekbpiooecdopaaDoor
