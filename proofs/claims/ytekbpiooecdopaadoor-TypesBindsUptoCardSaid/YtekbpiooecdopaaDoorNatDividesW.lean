/- Joined texts. -/
import Derived.Test.YtekbpiooecdopaaDoorBunNatA
import Derived.Test.YtekbpiooecdopaaDoorNatY

/- The walk of NatDivides. -/
namespace Go.Proofs.YtekbpiooecdopaaDoor
open Go.RowKit
set_option linter.unusedVariables false
set_option linter.unusedSimpArgs false

theorem Sz.le {k m n : Nat} (h : Sz k m) (hn : n ≤ m) : Sz k n := Nat.le_trans (len_le_of_le hn) h
theorem Sz.more {k l m : Nat} (h : Sz k m) (hk : k ≤ l) : Sz l m := Nat.le_trans h hk

end Go.Proofs.YtekbpiooecdopaaDoor
