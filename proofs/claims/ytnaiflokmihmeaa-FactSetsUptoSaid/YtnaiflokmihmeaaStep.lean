/- One operation of a region at a time. -/
import Derived.Test.YtnaiflokmihmeaaSeq
import Derived.Test.YtnaiflokmihmeaaMem
namespace Go.Proofs.Ytnaiflokmihmeaa
open Go.RowKit
set_option linter.unusedVariables false
set_option linter.unusedSimpArgs false

section
variable {P : Program} {ops : Array Oper} {W : World} {l : List Own} {Q : Exit → Act → World → Prop} {gs : List Nat} {k : Nat} {o : Oper} {rest : List Oper} {a : Act} {R : Reg}

theorem Seq.done (h : ∀ w, StR W l R w → Q .normal a w) : Seq P ops Q W l gs k [] a R := h
/-- not wanted -/
theorem Seq.nw (hw : wants ops o a = false) (h : Seq P ops Q W l gs (k + 1) rest (a.put o.dst undef) R) : Seq P ops Q W l gs k (o :: rest) a R := .inl (.inl ⟨hw, h⟩)
/-- no look at the memory -/
theorem Seq.pure {v : Value} (hk : kd gs k o = .val) (hw : wants ops o a = true) (hr : ∀ w, (execOp a.eval o).run P w = .ok (.value v) w)
    (h : Seq P ops Q W l gs (k + 1) rest (a.put o.dst v) R) : Seq P ops Q W l gs k (o :: rest) a R := by
  refine .inl (.inr ⟨hw, ?_⟩)
  rw [hk]
  exact ⟨v, .inl fun w _ => by rw [hr w]; exact ⟨rfl, Below.refl _ _⟩, h⟩
/-- a look at the memory -/
theorem Seq.look {v : Value} (hk : kd gs k o = .val) (hw : wants ops o a = true) (hr : ∀ w, St W l w → (execOp a.eval o).run P w = .ok (.value v) w)
    (h : Seq P ops Q W l gs (k + 1) rest (a.put o.dst v) R) : Seq P ops Q W l gs k (o :: rest) a R := by
  refine .inl (.inr ⟨hw, ?_⟩)
  rw [hk]
  exact ⟨v, .inl fun w hs => by rw [hr w hs]; exact ⟨rfl, Below.refl _ _⟩, h⟩
/-- the type t is a struct or an array of n cells -/
def aggOf (P : Program) (t : TypeId) (n : Nat) : Bool :=
  (match P.underlying t with | some (.struct _) => true | some (.array _ _) => true | _ => false) && ((P.info? t).map (·.size) == some n)
def cellOf (P : Program) (t : TypeId) : Bool :=
  (match P.underlying t with | some (.struct _) => false | some (.array _ _) => false | some _ => true | none => false)
theorem run_load_whole {w : World} {t T : TypeId} {g n : Nat} {cs : Array Value} (hg : Blk w g T cs) (hn : cs.size = n) (ht : aggOf P t n = true) : (loadVar t ⟨g, 0, none⟩).run P w = .ok (.agg cs) w := by
  unfold aggOf at ht
  simp only [Bool.and_eq_true, beq_iff_eq] at ht
  cases hu : P.underlying t with
  | none => simp [hu] at ht
  | some d =>
    refine run_loadVar_row w g T t cs (0, 0) d hg hu ?_ (by rw [ht.2, hn])
    have h := ht.1
    rw [hu] at h
    cases d <;> simp_all
/-- a variable of a struct's type, read whole -/
theorem Seq.load {t T : TypeId} {x : Operand} {g n : Nat} {cs : Array Value} (ho : o.op = .load t x) (hk : kd gs k o = .val) (hw : wants ops o a = true) (hx : a.eval x = .pointer (some ⟨g, 0, none⟩))
    (hm : (g, T, cs) ∈ l) (hn : cs.size = n) (ht : aggOf P t n = true)
    (h : Seq P ops Q W l gs (k + 1) rest (a.put o.dst (.agg cs)) R) : Seq P ops Q W l gs k (o :: rest) a R :=
  Seq.look hk hw (fun w hs => by
    unfold execOp
    simp only [ho, hx, Instr.loadAt, Instr.sureAddr, Sem.run_bind, Sem.run_pure, Result.andThen_ok, run_load_whole (hs.blk _ hm).2 hn ht]) h
/-- does the program hold function f with a body of its own? -/
def goesIn (P : Program) (f : FuncId) : Bool := match P.funcs[f]? with | some fn => fn.name != "runtime.NumGoroutine" && fn.body.isSome | none => false
theorem Seq.call {f : FuncId} {xs : List Operand} {ts : Array TypeId} {vs : Array Value} {v : Value} (ho : o.op = .call { callee := .value (.func f), args := xs.toArray, argTypes := ts }) (hk : kd gs k o = .val) (hw : wants ops o a = true)
    (hx : xs.map a.eval = vs.toList) (hf : goesIn P f = true)
    (hc : ∀ w, St W l w → Calls P f vs w (fun e w' => e = .returned v ∧ Below w.heap.size w w'))
    (h : Seq P ops Q W l gs (k + 1) rest (a.put o.dst v) R) : Seq P ops Q W l gs k (o :: rest) a R := by
  refine .inl (.inr ⟨hw, ?_⟩)
  rw [hk]
  refine ⟨v, .inr ⟨by simp [isCall, ho], fun w hs => ?_⟩, h⟩
  have hr : (execOp a.eval o).run P w = .ok (.enter f vs) w := by
    unfold goesIn at hf
    cases hp : P.funcs[f]? with
    | none => simp [hp] at hf
    | some fn =>
      simp only [hp, Bool.and_eq_true, bne_iff_ne, ne_eq] at hf
      have hb : fn.body.isNone = false := by cases hq : fn.body <;> simp_all
      have hv : (xs.map a.eval).toArray = vs := by rw [hx]
      simp [execOp, ho, resolve, invoke, callFunc, Deferred.ofValue, Act.eval, hp, hf.1, hb, hv, go_sem]
      intro hq; rw [hq] at hb; cases hb
  rw [hr]
  exact ⟨Below.refl _ _, hc w hs⟩

/-! ### parts of a block -/
theorem run_load_part {w : World} {t T : TypeId} {g f n : Nat} {cs : Array Value} (hg : Blk w g T cs) (hn : f + n ≤ cs.size) (ht : aggOf P t n = true) : (loadVar t ⟨g, f, none⟩).run P w = .ok (.agg (cs.extract f (f + n))) w := by
  unfold aggOf at ht
  simp only [Bool.and_eq_true, beq_iff_eq] at ht
  have hl : (loadCells ⟨g, f, none⟩ n).run P w = .ok (cs.extract f (f + n)) w := by
    have h := run_loadCells_list (P := P) w ⟨g, f, none⟩ (cs.extract f (f + n)).toList (fun j v hv => by
      have hadd : (⟨g, f, none⟩ : Addr).add j = ⟨g, f + j, none⟩ := by unfold Addr.add; split <;> simp_all
      rw [hadd, cell_of_row w g (f + j) cs T (0, 0) hg]
      have hj : j < n := by
        have := (List.getElem?_eq_some_iff.1 hv).1
        simp at this; omega
      have h2 : (cs.extract f (f + n))[j]? = some v := by rw [Array.getElem?_toList] at hv; exact hv
      rw [Array.getElem?_extract] at h2
      split at h2
      · exact h2
      · cases h2)
    have hln : (cs.extract f (f + n)).toList.length = n := by simp; omega
    rw [hln, Array.toArray_toList] at h
    exact h
  cases hu : P.underlying t with
  | none => simp [hu] at ht
  | some d =>
    cases hq : P.info? t with
    | none => simp [hq] at ht
    | some i =>
      have hs : i.size = n := by have := ht.2; rw [hq] at this; simpa using this
      have hagg : (isAgg t).run P w = .ok true w := by
        unfold isAgg
        rw [Sem.run_bind, run_underlying hu w]
        have h := ht.1
        rw [hu] at h
        cases d <;> simp_all
      simp [loadVar, Sem.run_bind, hagg, sizeOf, typeInfo, hq, hs, hl]
theorem run_load_cell {w : World} {t T : TypeId} {g f : Nat} {cs : Array Value} {v : Value} (hg : Blk w g T cs) (hv : cs[f]? = some v) (ht : cellOf P t = true) (h1 : v.oneCell' = true) : (loadVar t ⟨g, f, none⟩).run P w = .ok v w := by
  unfold cellOf at ht
  cases hu : P.underlying t with
  | none => simp [hu] at ht
  | some d =>
    have hagg : (isAgg t).run P w = .ok false w := by
      unfold isAgg
      rw [Sem.run_bind, run_underlying hu w]
      rw [hu] at ht
      cases d <;> simp_all
    have hc : w.cell? ⟨g, f, none⟩ = some v := (cell_of_row w g f cs T (0, 0) hg).trans hv
    have hr : (load ⟨g, f, none⟩).run P w = .ok v w := by
      have h := run_loadCells_list (P := P) w ⟨g, f, none⟩ [v] (fun j u hj => by
        have hj0 : j = 0 := by have := (List.getElem?_eq_some_iff.1 hj).1; simp at this; omega
        subst hj0
        have hadd : (⟨g, f, none⟩ : Addr).add 0 = ⟨g, f, none⟩ := rfl
        rw [hadd, hc]; simpa using hj)
      have hadd : (⟨g, f, none⟩ : Addr).add 0 = ⟨g, f, none⟩ := rfl
      simp only [loadCells, loadCellsFrom, List.length_cons, List.length_nil, Nat.zero_add, hadd, Sem.run_bind] at h
      cases hq : (load ⟨g, f, none⟩).run P w with
      | ok u w' =>
        rw [hq] at h
        simp at h
        rw [h.1, h.2]
      | halt x w' => rw [hq] at h; simp at h
    unfold loadVar
    rw [Sem.run_bind, hagg]
    exact hr
theorem run_store_part {w : World} {t T : TypeId} {g f : Nat} {cs : Array Value} {v : Value} (hg : Blk w g T cs) (hn : f + v.cells.size ≤ cs.size) (ht : (P.info? t).map (·.size) = some v.cells.size) (h1 : ∀ u ∈ v.cells, u.oneCell' = true) :
    (storeVar t ⟨g, f, none⟩ v).run P w = .ok () (w.setRow g (cs.toList.take f ++ v.cells.toList ++ cs.toList.drop (f + v.cells.size)).toArray) := by
  have := run_storeCells_at (P := P) g f T v.cells.toList 0 cs w hg (by simpa using hn) (fun u hu => h1 u (by simpa using hu))
  cases hq : P.info? t with
  | none => simp [hq] at ht
  | some i =>
    have hs : v.cells.size = i.size := by simp [hq] at ht; omega
    simp only [Nat.add_zero, Array.length_toList] at this
    rw [hs] at this ⊢
    simp [storeVar, sizeOf, typeInfo, hq, hs, this]
theorem size_setRow_ (w : World) (g : Nat) (cs : Array Value) : (w.setRow g cs).heap.size = w.heap.size := by simp [World.setRow]
theorem putK_store {t : TypeId} {x y : Operand} {p f : Nat} {T : TypeId} {cs cs' : Array Value} {v : Value} (ho : o.op = .store t x y) (hx : a.eval x = .pointer (some ⟨p, f, none⟩)) (hy : a.eval y = v)
    (hn : f + v.cells.size ≤ cs.size) (ht : (P.info? t).map (·.size) = some v.cells.size) (h1 : ∀ u ∈ v.cells, u.oneCell' = true)
    (hc : (cs.toList.take f ++ v.cells.toList ++ cs.toList.drop (f + v.cells.size)).toArray = cs') : PutK P o a p (T, cs) (T, cs') := by
  refine ⟨by simp [isStore, ho], fun w hb => ⟨w.setRow p cs', ?_, ?_, ?_, rfl, rfl, rfl, size_setRow_ _ _ _⟩⟩
  · unfold execOp
    simp only [ho, hx, hy, Instr.storeAt, Instr.sureAddr, Sem.run_bind, Sem.run_pure, Result.andThen_ok, run_store_part hb hn ht h1, hc]
  · exact setRow_heap w p cs cs' T (0, 0) hb
  · exact fun k hk => setRow_other w p k cs' hk
/-- a variable of a struct's type, written whole -/
theorem Seq.store {t T : TypeId} {x y : Operand} {p n : Nat} {cs cs' : Array Value} (ho : o.op = .store t x y) (hk : kd gs k o = .put) (hw : wants ops o a = true) (hx : a.eval x = .pointer (some ⟨p, 0, none⟩)) (hy : a.eval y = .agg cs')
    (hR : R p = some (T, cs)) (hn : cs.size = n) (hn' : cs'.size = n) (ht : (P.info? t).map (·.size) = some n) (h1 : ∀ u ∈ cs', u.oneCell' = true)
    (h : Seq P ops Q W l gs (k + 1) rest (a.put o.dst undef) (R.put p (T, cs'))) : Seq P ops Q W l gs k (o :: rest) a R := by
  refine .inl (.inr ⟨hw, ?_⟩)
  rw [hk]
  refine ⟨p, (T, cs), (T, cs'), hR, putK_store ho hx hy ?_ ?_ ?_ ?_, h⟩
  · show 0 + cs'.size ≤ cs.size; omega
  · rw [ht]; show some n = some cs'.size; rw [hn']
  · exact h1
  · show ([] ++ cs'.toList ++ cs.toList.drop (0 + cs'.size)).toArray = cs'
    rw [List.drop_of_length_le (by simp; omega)]; simp
/-- a part of a block is written -/
theorem Seq.storeAt {t T : TypeId} {x y : Operand} {p f : Nat} {cs cs' : Array Value} {v : Value} (ho : o.op = .store t x y) (hk : kd gs k o = .put) (hw : wants ops o a = true) (hx : a.eval x = .pointer (some ⟨p, f, none⟩)) (hy : a.eval y = v)
    (hR : R p = some (T, cs)) (hn : f + v.cells.size ≤ cs.size) (ht : (P.info? t).map (·.size) = some v.cells.size) (h1 : ∀ u ∈ v.cells, u.oneCell' = true)
    (hc : (cs.toList.take f ++ v.cells.toList ++ cs.toList.drop (f + v.cells.size)).toArray = cs')
    (h : Seq P ops Q W l gs (k + 1) rest (a.put o.dst undef) (R.put p (T, cs'))) : Seq P ops Q W l gs k (o :: rest) a R := by
  refine .inl (.inr ⟨hw, ?_⟩)
  rw [hk]
  exact ⟨p, (T, cs), (T, cs'), hR, putK_store ho hx hy hn ht h1 hc, h⟩
theorem Seq.loadAt {t T : TypeId} {x : Operand} {g f n : Nat} {cs cs' : Array Value} (ho : o.op = .load t x) (hk : kd gs k o = .val) (hw : wants ops o a = true) (hx : a.eval x = .pointer (some ⟨g, f, none⟩))
    (hm : (g, T, cs) ∈ l) (hn : f + n ≤ cs.size) (ht : aggOf P t n = true) (hc : cs.extract f (f + n) = cs')
    (h : Seq P ops Q W l gs (k + 1) rest (a.put o.dst (.agg cs')) R) : Seq P ops Q W l gs k (o :: rest) a R :=
  Seq.look hk hw (fun w hs => by
    unfold execOp
    simp only [ho, hx, Instr.loadAt, Instr.sureAddr, Sem.run_bind, Sem.run_pure, Result.andThen_ok, run_load_part (hs.blk _ hm).2 hn ht, hc]) h
theorem Seq.loadCell {t T : TypeId} {x : Operand} {g f : Nat} {cs : Array Value} {v : Value} (ho : o.op = .load t x) (hk : kd gs k o = .val) (hw : wants ops o a = true) (hx : a.eval x = .pointer (some ⟨g, f, none⟩))
    (hm : (g, T, cs) ∈ l) (hv : cs[f]? = some v) (ht : cellOf P t = true) (h1 : v.oneCell' = true)
    (h : Seq P ops Q W l gs (k + 1) rest (a.put o.dst v) R) : Seq P ops Q W l gs k (o :: rest) a R :=
  Seq.look hk hw (fun w hs => by
    unfold execOp
    simp only [ho, hx, Instr.loadAt, Instr.sureAddr, Sem.run_bind, Sem.run_pure, Result.andThen_ok, run_load_cell (hs.blk _ hm).2 hv ht h1]) h
/-- a block that the region has made or will write: read before it is written -/
theorem Seq.get {t T : TypeId} {x : Operand} {g n : Nat} {cs : Array Value} (ho : o.op = .load t x) (hk : kd gs k o = .get) (hw : wants ops o a = true) (hx : a.eval x = .pointer (some ⟨g, 0, none⟩))
    (hR : R g = some (T, cs)) (hn : cs.size = n) (ht : aggOf P t n = true)
    (h : Seq P ops Q W l gs (k + 1) rest (a.put o.dst (.agg cs)) R) : Seq P ops Q W l gs k (o :: rest) a R := by
  refine .inl (.inr ⟨hw, ?_⟩)
  rw [hk]
  refine ⟨g, (T, cs), _, hR, ⟨by simp [isLoad, ho], fun w hb => ?_⟩, h⟩
  unfold execOp
  simp only [ho, hx, Instr.loadAt, Instr.sureAddr, Sem.run_bind, Sem.run_pure, Result.andThen_ok, run_load_whole hb hn ht]
theorem Seq.getCell {t T : TypeId} {x : Operand} {g f : Nat} {cs : Array Value} {v : Value} (ho : o.op = .load t x) (hk : kd gs k o = .get) (hw : wants ops o a = true) (hx : a.eval x = .pointer (some ⟨g, f, none⟩))
    (hR : R g = some (T, cs)) (hv : cs[f]? = some v) (ht : cellOf P t = true) (h1 : v.oneCell' = true)
    (h : Seq P ops Q W l gs (k + 1) rest (a.put o.dst v) R) : Seq P ops Q W l gs k (o :: rest) a R := by
  refine .inl (.inr ⟨hw, ?_⟩)
  rw [hk]
  refine ⟨g, (T, cs), _, hR, ⟨by simp [isLoad, ho], fun w hb => ?_⟩, h⟩
  unfold execOp
  simp only [ho, hx, Instr.loadAt, Instr.sureAddr, Sem.run_bind, Sem.run_pure, Result.andThen_ok, run_load_cell hb hv ht h1]
theorem Seq.getAt {t T : TypeId} {x : Operand} {g f n : Nat} {cs cs' : Array Value} (ho : o.op = .load t x) (hk : kd gs k o = .get) (hw : wants ops o a = true) (hx : a.eval x = .pointer (some ⟨g, f, none⟩))
    (hR : R g = some (T, cs)) (hn : f + n ≤ cs.size) (ht : aggOf P t n = true) (hc : cs.extract f (f + n) = cs')
    (h : Seq P ops Q W l gs (k + 1) rest (a.put o.dst (.agg cs')) R) : Seq P ops Q W l gs k (o :: rest) a R := by
  refine .inl (.inr ⟨hw, ?_⟩)
  rw [hk]
  refine ⟨g, (T, cs), _, hR, ⟨by simp [isLoad, ho], fun w hb => ?_⟩, h⟩
  unfold execOp
  simp only [ho, hx, Instr.loadAt, Instr.sureAddr, Sem.run_bind, Sem.run_pure, Result.andThen_ok, run_load_part hb hn ht, hc]
/-! ### new blocks -/
theorem Seq.alloc {t : TypeId} {z : Value} {cs : Array Value} (ho : o.op = .alloc t) (hk : kd gs k o = .new) (hw : wants ops o a = true) (hz : (P.info? t).bind (·.zero) = some z) (hc : z.cells = cs)
    (h : ∀ p, W.heap.size ≤ p → (∀ e ∈ l, e.1 ≠ p) → R p = none → Seq P ops Q W l gs (k + 1) rest (a.put o.dst (.pointer (some ⟨p, 0, none⟩))) (R.put p (t, cs))) : Seq P ops Q W l gs k (o :: rest) a R := by
  refine .inl (.inr ⟨hw, ?_⟩)
  rw [hk]
  refine ⟨none, (t, cs), fun w => ?_, fun p hp => h p hp.1 hp.2.1 hp.2.2⟩
  cases hi : P.info? t with
  | none => simp [hi] at hz
  | some i =>
    simp only [hi, Option.bind_some] at hz
    subst hc
    simp [execOp, ho, Instr.alloc, zeroValue, typeInfo, hi, hz, newVar, newRow, mk, go_sem]
theorem Seq.box {t : TypeId} {x : Operand} {v : Value} {cs : Array Value} (ho : o.op = .box t x) (hk : kd gs k o = .new) (hw : wants ops o a = true) (hx : a.eval x = v) (hc : v.cells = cs)
    (h : ∀ p, W.heap.size ≤ p → (∀ e ∈ l, e.1 ≠ p) → R p = none → Seq P ops Q W l gs (k + 1) rest (a.put o.dst (.pointer (some ⟨p, 0, none⟩))) (R.put p (t, cs))) : Seq P ops Q W l gs k (o :: rest) a R := by
  refine .inl (.inr ⟨hw, ?_⟩)
  rw [hk]
  refine ⟨none, (t, cs), fun w => ?_, fun p hp => h p hp.1 hp.2.1 hp.2.2⟩
  subst hc
  unfold execOp
  simp only [ho, hx]
  simp [Instr.box, newVar, newRow, mk, go_sem]
end

theorem Reg.ne_of_put {R : Reg} {p q : Nat} {x : TypeId × Array Value} (h : R.put p x q = none) : q ≠ p ∧ R q = none := by
  by_cases hq : q = p
  · subst hq; rw [Reg.put_same] at h; cases h
  · exact ⟨hq, by rwa [Reg.put_ne _ _ hq] at h⟩
/-- the blocks ns join the list -/
theorem StR.list {W w : World} {l : List Own} {R : Reg} (h : StR W l R w) (ns : List Own) (hd : ns.Pairwise (fun x y => x.1 ≠ y.1)) (hr : ∀ e ∈ ns, R e.1 = some e.2) : St W (ns ++ l) w := by
  refine ⟨h.st.below, fun e he => ?_, List.pairwise_append.2 ⟨hd, h.st.apart, fun x hx y hy => ?_⟩⟩
  · rcases List.mem_append.1 he with he | he
    · have := h.reg e.1 e.2.1 e.2.2 (hr e he); exact ⟨this.1, this.2.2⟩
    · exact h.st.blk e he
  · have := h.reg x.1 x.2.1 x.2.2 (hr x hx)
    exact Ne.symm (this.2.1 y hy)
theorem StR.list1 {W w : World} {l : List Own} {R : Reg} (h : StR W l R w) {p : Nat} {x : TypeId × Array Value} (hr : R p = some x) : St W ((p, x) :: l) w :=
  h.list [(p, x)] (List.pairwise_singleton _ _) (fun e he => by rw [List.mem_singleton.1 he]; exact hr)
theorem StR.list2 {W w : World} {l : List Own} {R : Reg} (h : StR W l R w) {p q : Nat} {x y : TypeId × Array Value} (hp : R p = some x) (hq : R q = some y) (hne : p ≠ q) : St W ((p, x) :: (q, y) :: l) w :=
  h.list [(p, x), (q, y)] (List.pairwise_cons.2 ⟨fun e he => by rw [List.mem_singleton.1 he]; exact hne, List.pairwise_singleton _ _⟩) (fun e he => by
    rcases List.mem_cons.1 he with rfl | he
    · exact hp
    · rw [List.mem_singleton.1 he]; exact hq)
theorem StR.list3 {W w : World} {l : List Own} {R : Reg} (h : StR W l R w) {p q r : Nat} {x y z : TypeId × Array Value} (hp : R p = some x) (hq : R q = some y) (hr : R r = some z) (h1 : p ≠ q) (h2 : p ≠ r) (h3 : q ≠ r) : St W ((p, x) :: (q, y) :: (r, z) :: l) w :=
  h.list [(p, x), (q, y), (r, z)] (List.pairwise_cons.2 ⟨fun e he => by
    rcases List.mem_cons.1 he with rfl | he
    · exact h1
    · rw [List.mem_singleton.1 he]; exact h2, List.pairwise_cons.2 ⟨fun e he => by rw [List.mem_singleton.1 he]; exact h3, List.pairwise_singleton _ _⟩⟩) (fun e he => by
    rcases List.mem_cons.1 he with rfl | he
    · exact hp
    · rcases List.mem_cons.1 he with rfl | he
      · exact hq
      · rw [List.mem_singleton.1 he]; exact hr)
theorem StR.listN {W w : World} {l : List Own} {R : Reg} (h : StR W l R w) (ns : List Own) (hd : ns.Pairwise (fun x y => x.1 ≠ y.1)) (hr : ∀ e ∈ ns, R e.1 = some e.2) : St W (ns ++ l) w := h.list ns hd hr
theorem StR.move2 {W w : World} {l : List Own} {e f : Own} (h : St W (e :: f :: l) w) : StR W l ((Reg.no.put e.1 e.2).put f.1 f.2) w := (StR.no h).move.move

/-! ### blocks that came in -/
section
variable {P : Program} {ops : Array Oper} {W : World} {l : List Own} {Q : Exit → Act → World → Prop} {gs : List Nat} {k : Nat} {o : Oper} {rest : List Oper} {a : Act} {R : Reg}
theorem St.came {w : World} {g : Nat} {T : TypeId} {cs : Array Value} (h : St W l w) (hF : Blk W g T cs) : Blk w g T cs := hF.belowB h.below
theorem Seq.loadAtF {t T : TypeId} {x : Operand} {g f n : Nat} {cs cs' : Array Value} (ho : o.op = .load t x) (hk : kd gs k o = .val) (hw : wants ops o a = true) (hx : a.eval x = .pointer (some ⟨g, f, none⟩))
    (hF : Blk W g T cs) (hn : f + n ≤ cs.size) (ht : aggOf P t n = true) (hc : cs.extract f (f + n) = cs')
    (h : Seq P ops Q W l gs (k + 1) rest (a.put o.dst (.agg cs')) R) : Seq P ops Q W l gs k (o :: rest) a R :=
  Seq.look hk hw (fun w hs => by
    unfold execOp
    simp only [ho, hx, Instr.loadAt, Instr.sureAddr, Sem.run_bind, Sem.run_pure, Result.andThen_ok, run_load_part (hs.came hF) hn ht, hc]) h
theorem Seq.loadCellF {t T : TypeId} {x : Operand} {g f : Nat} {cs : Array Value} {v : Value} (ho : o.op = .load t x) (hk : kd gs k o = .val) (hw : wants ops o a = true) (hx : a.eval x = .pointer (some ⟨g, f, none⟩))
    (hF : Blk W g T cs) (hv : cs[f]? = some v) (ht : cellOf P t = true) (h1 : v.oneCell' = true)
    (h : Seq P ops Q W l gs (k + 1) rest (a.put o.dst v) R) : Seq P ops Q W l gs k (o :: rest) a R :=
  Seq.look hk hw (fun w hs => by
    unfold execOp
    simp only [ho, hx, Instr.loadAt, Instr.sureAddr, Sem.run_bind, Sem.run_pure, Result.andThen_ok, run_load_cell (hs.came hF) hv ht h1]) h
end
/-! ### calls that look at a block of the region; slices; values of a struct's type -/
section
variable {P : Program} {ops : Array Oper} {W : World} {l : List Own} {Q : Exit → Act → World → Prop} {gs : List Nat} {k : Nat} {o : Oper} {rest : List Oper} {a : Act} {R : Reg}
theorem Seq.callV {f : FuncId} {y : Operand} {xs : List Operand} {ts : Array TypeId} {vs : Array Value} {v : Value} (ho : o.op = .call { callee := .value y, args := xs.toArray, argTypes := ts }) (hk : kd gs k o = .val) (hw : wants ops o a = true)
    (hy : a.eval y = .func (.func f) #[] #[]) (hx : xs.map a.eval = vs.toList) (hf : goesIn P f = true)
    (hc : ∀ w, St W l w → Calls P f vs w (fun e w' => e = .returned v ∧ Below w.heap.size w w'))
    (h : Seq P ops Q W l gs (k + 1) rest (a.put o.dst v) R) : Seq P ops Q W l gs k (o :: rest) a R := by
  refine .inl (.inr ⟨hw, ?_⟩)
  rw [hk]
  refine ⟨v, .inr ⟨by simp [isCall, ho], fun w hs => ?_⟩, h⟩
  have hr : (execOp a.eval o).run P w = .ok (.enter f vs) w := by
    unfold goesIn at hf
    cases hp : P.funcs[f]? with
    | none => simp [hp] at hf
    | some fn =>
      simp only [hp, Bool.and_eq_true, bne_iff_ne, ne_eq] at hf
      have hb : fn.body.isNone = false := by cases hq : fn.body <;> simp_all
      have hv : (xs.map a.eval).toArray = vs := by rw [hx]
      unfold execOp
      simp only [ho, resolve, hy]
      simp [invoke, callFunc, Deferred.ofValue, hp, hf.1, hb, hv, go_sem]
      intro hq; rw [hq] at hb; cases hb
  rw [hr]
  exact ⟨Below.refl _ _, hc w hs⟩
theorem Seq.callAny {f : FuncId} {xs : List Operand} {ts : Array TypeId} {vs : Array Value} {v : Value} (ho : o.op = .call { callee := .value (.func f), args := xs.toArray, argTypes := ts }) (hk : kd gs k o = .any) (hw : wants ops o a = true)
    (hx : xs.map a.eval = vs.toList) (hf : goesIn P f = true)
    (hc : ∀ w, StR W l R w → Calls P f vs w (fun e w' => e = .returned v ∧ Below w.heap.size w w'))
    (h : Seq P ops Q W l gs (k + 1) rest (a.put o.dst v) R) : Seq P ops Q W l gs k (o :: rest) a R := by
  refine .inl (.inr ⟨hw, ?_⟩)
  rw [hk]
  refine ⟨v, ⟨by simp [isCall, ho], fun w hs => ?_⟩, h⟩
  have hr : (execOp a.eval o).run P w = .ok (.enter f vs) w := by
    unfold goesIn at hf
    cases hp : P.funcs[f]? with
    | none => simp [hp] at hf
    | some fn =>
      simp only [hp, Bool.and_eq_true, bne_iff_ne, ne_eq] at hf
      have hb : fn.body.isNone = false := by cases hq : fn.body <;> simp_all
      have hv : (xs.map a.eval).toArray = vs := by rw [hx]
      simp [execOp, ho, resolve, invoke, callFunc, Deferred.ofValue, Act.eval, hp, hf.1, hb, hv, go_sem]
      intro hq; rw [hq] at hb; cases hb
  rw [hr]
  exact ⟨Below.refl _ _, hc w hs⟩
/-- a call that gives a slice of a block of its own -/
theorem Seq.callFresh {f : FuncId} {xs : List Operand} {ts : Array TypeId} {vs : Array Value} {n : Option Nat} {x : TypeId × Array Value} (ho : o.op = .call { callee := .value (.func f), args := xs.toArray, argTypes := ts }) (hk : kd gs k o = .fresh) (hw : wants ops o a = true)
    (hx : xs.map a.eval = vs.toList) (hf : goesIn P f = true)
    (hc : ∀ w, StR W l R w → Calls P f vs w (fun e w' => ∃ p, w.heap.size ≤ p ∧ e = .returned (mk n p) ∧ Below w.heap.size w w' ∧ Blk w' p x.1 x.2))
    (h : ∀ p, W.heap.size ≤ p → (∀ e ∈ l, e.1 ≠ p) → R p = none → Seq P ops Q W l gs (k + 1) rest (a.put o.dst (mk n p)) (R.put p x)) : Seq P ops Q W l gs k (o :: rest) a R := by
  refine .inl (.inr ⟨hw, ?_⟩)
  rw [hk]
  refine ⟨n, x, ⟨by simp [isCall, ho], fun w hs => ?_⟩, fun p hp => h p hp.1 hp.2.1 hp.2.2⟩
  have hr : (execOp a.eval o).run P w = .ok (.enter f vs) w := by
    unfold goesIn at hf
    cases hp : P.funcs[f]? with
    | none => simp [hp] at hf
    | some fn =>
      simp only [hp, Bool.and_eq_true, bne_iff_ne, ne_eq] at hf
      have hb : fn.body.isNone = false := by cases hq : fn.body <;> simp_all
      have hv : (xs.map a.eval).toArray = vs := by rw [hx]
      simp [execOp, ho, resolve, invoke, callFunc, Deferred.ofValue, Act.eval, hp, hf.1, hb, hv, go_sem]
      intro hq; rw [hq] at hb; cases hb
  rw [hr]
  exact ⟨Below.refl _ _, hc w hs⟩
theorem Seq.slice {n : Nat} {e : TypeId} {cs : Array Value} (hk : kd gs k o = .new) (hw : wants ops o a = true)
    (hr : ∀ w : World, (execOp a.eval o).run P w = .ok (.value (.slice (some ⟨w.heap.size, 0, none⟩) n n)) (w.alloc (.cells cs e)))
    (h : ∀ p, W.heap.size ≤ p → (∀ e ∈ l, e.1 ≠ p) → R p = none → Seq P ops Q W l gs (k + 1) rest (a.put o.dst (.slice (some ⟨p, 0, none⟩) n n)) (R.put p (e, cs))) : Seq P ops Q W l gs k (o :: rest) a R := by
  refine .inl (.inr ⟨hw, ?_⟩)
  rw [hk]
  exact ⟨some n, (e, cs), fun w => hr w, fun p hp => h p hp.1 hp.2.1 hp.2.2⟩
/-- a field of a struct value, itself of a struct's type -/
def fieldIs (P : Program) (t : TypeId) (f off n : Nat) : Bool := match P.underlying t with
  | some (.struct fs) => (match fs[f]? with | some d => d.offset == off && aggOf P d.type n | none => false)
  | _ => false
theorem run_field {t : TypeId} {f off n : Nat} {cs : Array Value} (h : fieldIs P t f off n = true) (w : World) : (Instr.field t (.agg cs) f).run P w = .ok (.agg (cs.extract off (off + n))) w := by
  unfold fieldIs at h
  cases hu : P.underlying t with
  | none => simp [hu] at h
  | some d =>
    cases d <;> simp only [hu, Bool.false_eq_true] at h
    rename_i fs
    cases hf : fs[f]? with
    | none => simp [hf] at h
    | some d =>
      simp only [hf, Bool.and_eq_true, beq_iff_eq, aggOf] at h
      obtain ⟨rfl, h1, h2⟩ := h
      have hagg : (isAgg d.type).run P w = .ok true w := by
        unfold isAgg
        cases hu2 : P.underlying d.type with
        | none => simp [hu2] at h1
        | some d2 =>
          rw [Sem.run_bind, run_underlying hu2 w]
          rw [hu2] at h1
          cases d2 <;> simp_all
      cases hq : P.info? d.type with
      | none => simp [hq] at h2
      | some i =>
        have hs : i.size = n := by rw [hq] at h2; simpa using h2
        simp [Instr.field, Sem.run_bind, run_underlying hu w, hf, part, asAgg, hagg, sizeOf, typeInfo, hq, hs]
theorem Seq.field {t : TypeId} {x : Operand} {f off n : Nat} {cs cs' : Array Value} (ho : o.op = .field t x f) (hk : kd gs k o = .val) (hw : wants ops o a = true) (hx : a.eval x = .agg cs)
    (hf : fieldIs P t f off n = true) (hc : cs.extract off (off + n) = cs')
    (h : Seq P ops Q W l gs (k + 1) rest (a.put o.dst (.agg cs')) R) : Seq P ops Q W l gs k (o :: rest) a R :=
  Seq.pure hk hw (fun w => by
    unfold execOp
    simp only [ho, hx, Sem.run_bind, run_field hf w, hc, Result.andThen_ok, Sem.run_pure]) h
end
/-! ### the end of a function -/
theorem ret_own {P : Program} {fn : Func} {E : Ending → World → Prop} {a : Act} {w W : World} {l : List Own} {p ty : Nat} {g n : Nat} {T : TypeId} {cs : Array Value}
    (hr : fn.results = #[.cell p ty]) (hd : a.defers = []) (hp : a.tmps.getD p undef = .pointer (some ⟨g, 0, none⟩)) (hS : St W l w) (hm : (g, T, cs) ∈ l) (hn : cs.size = n) (ht : aggOf P ty n = true)
    (h : E (.returned (.agg cs)) w) : bodyPost P fn E .ret a w := by
  unfold aggOf at ht
  simp only [Bool.and_eq_true, beq_iff_eq] at ht
  cases hu : P.underlying ty with
  | none => simp [hu] at ht
  | some d =>
    refine bodyPost_ret (v := .agg cs) (results_cell_row hr a.tmps w g T cs (0, 0) d hp (hS.blk _ hm).2 hu ?_ (by rw [ht.2, hn])) hd h
    have h := ht.1
    rw [hu] at h
    cases d <;> simp_all
theorem ret_own2 {P : Program} {fn : Func} {E : Ending → World → Prop} {a : Act} {w W : World} {l : List Own} {p ty q : Nat} {g n : Nat} {T : TypeId} {cs : Array Value} {v : Value}
    (hr : fn.results = #[.cell p ty, .tmp q]) (hd : a.defers = []) (hp : a.tmps.getD p undef = .pointer (some ⟨g, 0, none⟩)) (hq : a.tmps.getD q undef = v) (hS : St W l w) (hm : (g, T, cs) ∈ l) (hn : cs.size = n) (ht : aggOf P ty n = true)
    (h : E (.returned (.tuple #[.agg cs, v])) w) : bodyPost P fn E .ret a w := by
  refine bodyPost_ret (v := .tuple #[.agg cs, v]) ?_ hd h
  have hp' : a.tmps[p]?.getD undef = .pointer (some ⟨g, 0, none⟩) := by simpa using hp
  have hq' : a.tmps[q]?.getD undef = v := by simpa using hq
  simp [results, hr, hp', hq', asAddr, run_load_whole (hS.blk _ hm).2 hn ht]
/-! ### fields -/
def fieldOff (P : Program) (t : TypeId) (f : Nat) : Option Nat := match P.underlying t with | some (.struct fs) => (fs[f]?).map (·.offset) | _ => none
/-! ### in the order of the text: any step -/
section
variable {P : Program} {ops : Array Oper} {W : World} {l : List Own} {Q : Exit → Act → World → Prop} {gs : List Nat} {k : Nat} {o : Oper} {rest : List Oper} {a : Act} {R : Reg}
theorem Seq.gen (hg : gs.contains 3000000 = true) (hw : wants ops o a = true) (h : ∀ w, StR W l R w → o.wp P a w (fun a' w' => ∃ R', StR W l R' w' ∧ Seq P ops Q W l gs (k + 1) rest a' R') Q) : Seq P ops Q W l gs k (o :: rest) a R := .inr ⟨hg, hw, h⟩
/-- a call that changes blocks of R -/
theorem Seq.callW {f : FuncId} {xs : List Operand} {ts : Array TypeId} {vs : Array Value} {v : Value} (R' : Reg) (ho : o.op = .call { callee := .value (.func f), args := xs.toArray, argTypes := ts }) (hg : gs.contains 3000000 = true) (hw : wants ops o a = true)
    (hx : xs.map a.eval = vs.toList) (hf : goesIn P f = true)
    (hc : ∀ w, StR W l R w → Calls P f vs w (fun e w' => e = .returned v ∧ StR W l R' w'))
    (h : Seq P ops Q W l gs (k + 1) rest (a.put o.dst v) R') : Seq P ops Q W l gs k (o :: rest) a R := by
  refine Seq.gen hg hw fun w hs => ?_
  have hr : (execOp a.eval o).run P w = .ok (.enter f vs) w := by
    unfold goesIn at hf
    cases hp : P.funcs[f]? with
    | none => simp [hp] at hf
    | some fn =>
      simp only [hp, Bool.and_eq_true, bne_iff_ne, ne_eq] at hf
      have hb : fn.body.isNone = false := by cases hq : fn.body <;> simp_all
      have hv : (xs.map a.eval).toArray = vs := by rw [hx]
      simp [execOp, ho, resolve, invoke, callFunc, Deferred.ofValue, Act.eval, hp, hf.1, hb, hv, go_sem]
      intro hq; rw [hq] at hb; cases hb
  unfold Oper.wp
  rw [hr]
  simp only [Oper.upon]
  refine Calls.mono (hc w hs) fun e w' he => ?_
  obtain ⟨rfl, h2⟩ := he
  exact ⟨R', h2, h⟩
/-- an operation that runs through, whatever it does -/
theorem Seq.run {v : Value → Prop} (hg : gs.contains 3000000 = true) (hw : wants ops o a = true)
    (hr : ∀ w, StR W l R w → ∃ u R' w', (execOp a.eval o).run P w = .ok (.value u) w' ∧ StR W l R' w' ∧ Seq P ops Q W l gs (k + 1) rest (a.put o.dst u) R') : Seq P ops Q W l gs k (o :: rest) a R := by
  refine Seq.gen hg hw fun w hs => ?_
  obtain ⟨u, R', w', h1, h2, h3⟩ := hr w hs
  unfold Oper.wp
  rw [h1]
  exact ⟨R', h2, h3⟩
end
end Go.Proofs.Ytnaiflokmihmeaa
