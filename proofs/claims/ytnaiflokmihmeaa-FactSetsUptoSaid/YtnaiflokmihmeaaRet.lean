/- The end of a function whose first result lies in a variable of a struct's type. -/
import Derived.Test.YtnaiflokmihmeaaMem
namespace Go.Proofs.Ytnaiflokmihmeaa
open Go.RowKit
set_option linter.unusedVariables false

/-- the type t is a struct or an array of n cells -/
def agB (P : Program) (t : TypeId) (n : Nat) : Bool :=
  (match P.underlying t with | some (.struct _) => true | some (.array _ _) => true | _ => false) && ((P.info? t).map (·.size) == some n)
theorem run_load_blk {P : Program} {w : World} {t T : TypeId} {g n : Nat} {cs : Array Value} (hg : Blk w g T cs) (hn : cs.size = n) (ht : agB P t n = true) : (loadVar t ⟨g, 0, none⟩).run P w = .ok (.agg cs) w := by
  unfold agB at ht
  simp only [Bool.and_eq_true, beq_iff_eq] at ht
  cases hu : P.underlying t with
  | none => simp [hu] at ht
  | some d =>
    refine run_loadVar_row w g T t cs (0, 0) d hg hu ?_ (by rw [ht.2, hn])
    have h := ht.1
    rw [hu] at h
    cases d <;> simp_all
theorem ret_blk1 {P : Program} {fn : Func} {E : Ending → World → Prop} {a : Act} {w : World} {p ty g n : Nat} {T : TypeId} {cs : Array Value}
    (hr : fn.results = #[.cell p ty]) (hd : a.defers = []) (hp : a.tmps.getD p undef = .pointer (some ⟨g, 0, none⟩)) (hB : Blk w g T cs) (hn : cs.size = n) (ht : agB P ty n = true)
    (h : E (.returned (.agg cs)) w) : bodyPost P fn E .ret a w := by
  refine bodyPost_ret (v := .agg cs) ?_ hd h
  have hp' : a.tmps[p]?.getD undef = .pointer (some ⟨g, 0, none⟩) := by simpa using hp
  simp [results, hr, hp', asAddr, run_load_blk hB hn ht]
theorem ret_blk2 {P : Program} {fn : Func} {E : Ending → World → Prop} {a : Act} {w : World} {p ty q g n : Nat} {T : TypeId} {cs : Array Value} {v : Value}
    (hr : fn.results = #[.cell p ty, .tmp q]) (hd : a.defers = []) (hp : a.tmps.getD p undef = .pointer (some ⟨g, 0, none⟩)) (hq : a.tmps.getD q undef = v) (hB : Blk w g T cs) (hn : cs.size = n) (ht : agB P ty n = true)
    (h : E (.returned (.tuple #[.agg cs, v])) w) : bodyPost P fn E .ret a w := by
  refine bodyPost_ret (v := .tuple #[.agg cs, v]) ?_ hd h
  have hp' : a.tmps[p]?.getD undef = .pointer (some ⟨g, 0, none⟩) := by simpa using hp
  have hq' : a.tmps[q]?.getD undef = v := by simpa using hq
  simp [results, hr, hp', hq', asAddr, run_load_blk hB hn ht]
theorem ret_blk3 {P : Program} {fn : Func} {E : Ending → World → Prop} {a : Act} {w : World} {p ty q s g n : Nat} {T : TypeId} {cs : Array Value} {v u : Value}
    (hr : fn.results = #[.cell p ty, .tmp q, .tmp s]) (hd : a.defers = []) (hp : a.tmps.getD p undef = .pointer (some ⟨g, 0, none⟩)) (hq : a.tmps.getD q undef = v) (hs : a.tmps.getD s undef = u) (hB : Blk w g T cs) (hn : cs.size = n) (ht : agB P ty n = true)
    (h : E (.returned (.tuple #[.agg cs, v, u])) w) : bodyPost P fn E .ret a w := by
  refine bodyPost_ret (v := .tuple #[.agg cs, v, u]) ?_ hd h
  have hp' : a.tmps[p]?.getD undef = .pointer (some ⟨g, 0, none⟩) := by simpa using hp
  have hq' : a.tmps[q]?.getD undef = v := by simpa using hq
  have hs' : a.tmps[s]?.getD undef = u := by simpa using hs
  simp [results, hr, hp', hq', hs', asAddr, run_load_blk hB hn ht]
end Go.Proofs.Ytnaiflokmihmeaa
