/- Facts as keys of maps. -/
import Derived.Test.YtnaiflokmihmeaaFacP
import Derived.Test.YtnaiflokmihmeaaSetN
namespace Go.Proofs.Ytnaiflokmihmeaa
open Go.RowKit
set_option linter.unusedVariables false
set_option linter.unusedSimpArgs false

theorem checkF (e : Bool) (x y z : Int) (w : World) : (Instr.checkKey e 10000 45 (.agg #[.int .i64 x, .int .i64 y, .int .i64 z])).run Try.prog w = .ok () w := by kernel_rfl
theorem equalF (f g : Ft) (w : World) : (Op.equal 45 (valF f) (valF g)).run Try.prog w = .ok (decide (f = g)) w := equal_ft _ _ _ _ _ _ rfl w
theorem klaw_ft : KLaw Try.prog 45 valF := by
  refine ⟨fun e a w => checkF e _ _ _ w, fun en es l hl a w => ?_, fun a w => ?_⟩
  · have key : ∀ (es : List MapEntry) (l : List (Ft × _)) (i : Nat) (all : List MapEntry), es.map (fun e => (e.key, e.val)) = l.map (fun p => (valF p.1, en p.2)) → (∀ j, all[i + j]? = es[j]?) →
        (Instr.findAsking 45 (valF a) es i).run Try.prog w = .ok ((afind l a i).map fun i => (i, ((all[i]?).map (·.val)).getD undef)) w := by
      intro es
      induction es with
      | nil =>
        intro l i all hl _
        cases l with
        | nil => rfl
        | cons p r => simp at hl
      | cons x es ih =>
        intro l i all hl hall
        cases l with
        | nil => simp at hl
        | cons p r =>
          simp only [List.map_cons, List.cons.injEq, Prod.mk.injEq] at hl
          obtain ⟨⟨h1, h2⟩, h3⟩ := hl
          have h0 := hall 0
          simp only [Nat.add_zero, List.getElem?_cons_zero] at h0
          rw [Instr.findAsking, h1]
          simp only [Sem.run_bind, equalF, Result.andThen_ok]
          by_cases hap : a = p.1
          · simp [hap, afind, h0]
          · simp only [hap, decide_false, Bool.false_eq_true, if_false, afind]
            exact ih r (i + 1) all h3 (fun j => by have := hall (j + 1); rw [show i + 1 + j = i + (j + 1) by omega]; simpa using this)
    have hnow : es = [] ∨ Instr.findNow (.struct #[{ name := "Kind", type := 3, offset := 0, embedded := false, tag := "", pkgPath := "", byteOffset := 0 }]) (valF a) es 0 = none := by
      cases es with
      | nil => exact .inl rfl
      | cons x r => exact .inr rfl
    unfold Instr.findKey
    rw [Sem.run_bind, run_underlying Try.underlying45 w]
    simp only [Result.andThen_ok]
    cases es with
    | nil =>
      cases l with
      | nil => rfl
      | cons p r => simp at hl
    | cons x r =>
      show (Instr.findAsking 45 (valF a) (x :: r) 0).run Try.prog w = _
      exact key (x :: r) l 0 (x :: r) hl (fun j => by rw [Nat.zero_add])
  · simp [Instr.keyThatStays, Instr.sameBits, valF]
theorem zB (w : World) : (zeroValue 4).run Try.prog w = .ok (.bool false) w := by kernel_rfl
end Go.Proofs.Ytnaiflokmihmeaa
