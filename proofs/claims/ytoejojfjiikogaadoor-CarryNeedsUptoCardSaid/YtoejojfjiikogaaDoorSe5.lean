/- Joined texts: Se4 Se5. -/
import Derived.Test.YtoejojfjiikogaaDoorSe3
import Derived.LoopN
namespace Go.Proofs.YtoejojfjiikogaaDoor
open Go.RowKit
set_option linter.unusedVariables false
set_option linter.unusedSimpArgs false

end Go.Proofs.YtoejojfjiikogaaDoor
namespace Go.Proofs.YtoejojfjiikogaaDoor
open Go.RowKit
set_option linter.unusedVariables false
set_option linter.unusedSimpArgs false

theorem ret_cells {P : Program} {fn : Func} {E : Ending → World → Prop} {a : Act} {w W : World} {l : List Own} {p ty q ty2 : Nat} {g n g2 n2 : Nat} {T T2 : TypeId} {cs cs2 : Array Value}
    (hr : fn.results = #[.cell p ty, .cell q ty2]) (hd : a.defers = []) (hp : a.tmps.getD p undef = .pointer (some ⟨g, 0, none⟩)) (hq : a.tmps.getD q undef = .pointer (some ⟨g2, 0, none⟩)) (hS : St W l w) (hm : (g, T, cs) ∈ l) (hm2 : (g2, T2, cs2) ∈ l) (hn : cs.size = n) (hn2 : cs2.size = n2) (ht : aggOf P ty n = true) (ht2 : aggOf P ty2 n2 = true)
    (h : E (.returned (.tuple #[.agg cs, .agg cs2])) w) : bodyPost P fn E .ret a w := by
  refine bodyPost_ret (v := .tuple #[.agg cs, .agg cs2]) ?_ hd h
  have hp' : a.tmps[p]?.getD undef = .pointer (some ⟨g, 0, none⟩) := by simpa using hp
  have hq' : a.tmps[q]?.getD undef = .pointer (some ⟨g2, 0, none⟩) := by simpa using hq
  simp [results, hr, hp', hq', asAddr, run_load_whole (hS.blk _ hm).2 hn ht, run_load_whole (hS.blk _ hm2).2 hn2 ht2]
end Go.Proofs.YtoejojfjiikogaaDoor
