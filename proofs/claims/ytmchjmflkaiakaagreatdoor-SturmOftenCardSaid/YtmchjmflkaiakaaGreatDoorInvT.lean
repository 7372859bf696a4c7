/- Joined texts: Inv InvS InvT InvO. -/
import Derived.Test.YtmchjmflkaiakaaGreatDoorBunSeq
import Derived.Test.YtmchjmflkaiakaaGreatDoorChecked
namespace Go.Proofs.YtmchjmflkaiakaaGreatDoor
open Go.RowKit
set_option linter.unusedVariables false
set_option linter.unusedSimpArgs false
abbrev Told := Value → World → Prop
section
variable (P : Program) (ops : Array Oper) (Q : Exit → Act → World → Prop) (S : World → Prop) (V : Nat → Told) (a0 : Act)
def dstOf (i : Nat) : Option Nat := (ops[i]?).bind (·.dst)
structure Fr (a : Act) : Prop where
 defers : a.defers = a0.defers
 size : a.tmps.size = a0.tmps.size
 keep : ∀ t, (ops.all fun o => o.dst != some t) = true → a.tmps.getD t undef = a0.tmps.getD t undef
def StepI (o : Oper) (G : Told) (a : Act) (w : World) : Prop :=
 (wants ops o a = false ∧ G undef w) ∨ (wants ops o a = true ∧ o.wp P a w (fun a' w' => ∃ v, a' = a.put o.dst v ∧ G v w' ∧ Below w.heap.size w w') Q)
end
def chkI (md : Region.Mode) (ops : Array Oper) (n : Nat) : Bool :=
 (List.range ops.size).all fun i => match ops[i]? with
  | none => false
  | some oi => (oi.after.all fun e => !Region.binds md e || decide (e.on < i)) && (match oi.dst with | none => true | some d => decide (d < n)) &&
    (List.range ops.size).all fun j => decide (i = j) || match oi.dst, (ops[j]?).bind (·.dst) with
     | some d, some d' => d != d'
     | _, _ => true
section
variable {P : Program} {ops : Array Oper} {Q : Exit → Act → World → Prop} {S : World → Prop} {V : Nat → Told} {a0 : Act} {md : Region.Mode}
theorem chkI_after {n i : Nat} {o : Oper} (h : chkI md ops n = true) (hi : ops[i]? = some o) {e : Edge} (he : e ∈ o.after) (hb : Region.binds md e = true) : e.on < i := by
 have hlt := (Array.getElem?_eq_some_iff.1 hi).1
 have h1 := List.all_eq_true.1 h i (by simpa using hlt)
 simp only [hi, Bool.and_eq_true] at h1
 have h2 := (Array.all_eq_true_iff_forall_mem.1 h1.1.1) e he
 simpa [hb] using h2
theorem chkI_lt {n i d : Nat} {o : Oper} (h : chkI md ops n = true) (hi : ops[i]? = some o) (hd : o.dst = some d) : d < n := by
 have hlt := (Array.getElem?_eq_some_iff.1 hi).1
 have h1 := List.all_eq_true.1 h i (by simpa using hlt)
 simp only [hi, hd, Bool.and_eq_true] at h1
 simpa using h1.1.2
theorem chkI_ne {n i j d d' : Nat} {o : Oper} (h : chkI md ops n = true) (hi : ops[i]? = some o) (hd : o.dst = some d) (hj : dstOf ops j = some d') (hij : i ≠ j) : d ≠ d' := by
 have hlt := (Array.getElem?_eq_some_iff.1 hi).1
 have hjl : j < ops.size := by
  rcases Nat.lt_or_ge j ops.size with h' | h'
  ·exact h'
  ·unfold dstOf at hj; rw [Array.getElem?_eq_none h'] at hj; cases hj
 have h1 := List.all_eq_true.1 h i (by simpa using hlt)
 simp only [hi, Bool.and_eq_true] at h1
 have h2 := List.all_eq_true.1 h1.2 j (by simpa using hjl)
 unfold dstOf at hj
 rw [hd, hj] at h2
 simpa [hij] using h2
theorem ready_none {n : Nat} (h : chkI md ops n = true) {listed : Array Bool} (hsz : listed.size = ops.size) (hr : Region.ready md ops listed = []) : ∀ i, i < ops.size → listed.getD i false = true := by
 intro i
 induction i using Nat.strongRecOn with
 | ind i ih =>
   intro hi
   cases hl : listed.getD i false with
   | true => rfl
   | false =>
     exfalso
     have : i ∈ Region.ready md ops listed := by
      refine mem_ready.2 ⟨?_, ops[i], Array.getElem?_eq_getElem hi, fun e he hb => ?_⟩
      ·have hil : i < listed.size := by omega
       simp [hil] at hl ⊢; exact hl
      ·have h1 := chkI_after h (Array.getElem?_eq_getElem hi) he hb
       exact ih _ h1 (by omega)
     rw [hr] at this
     cases this
def cntI (listed : Array Bool) (n : Nat) : Nat := ((List.range n).filter fun i => !listed.getD i false).length
theorem cntI_set {listed : Array Bool} {i n : Nat} (hsz : listed.size = n) (hi : i < n) (hl : listed.getD i false = false) : cntI (listed.setIfInBounds i true) n + 1 ≤ cntI listed n := by
 unfold cntI
 have h1 : ∀ (l : List Nat), l.Nodup → i ∈ l → (l.filter fun j => !(listed.setIfInBounds i true).getD j false).length + 1 ≤ (l.filter fun j => !listed.getD j false).length := by
  intro l
  induction l with
  | nil => intro _ h; cases h
  | cons x l ih =>
    intro hn hm
    have hn' := List.nodup_cons.1 hn
    by_cases hx : x = i
    ·subst hx
     have e1 : (listed.setIfInBounds x true).getD x false = true := by simp [hsz, hi]
     rw [List.filter_cons, List.filter_cons, e1, hl]
     simp only [Bool.not_true, Bool.false_eq_true, if_false, Bool.not_false, if_true, List.length_cons]
     refine Nat.succ_le_succ ?_
     have : (l.filter fun j => !(listed.setIfInBounds x true).getD j false) = l.filter fun j => !listed.getD j false := by
      refine List.filter_congr fun y hy => ?_
      have hne : x ≠ y := fun e => hn'.1 (e ▸ hy)
      simp [Array.getElem?_setIfInBounds, hne]
     rw [this]
     exact Nat.le_refl _
    ·have hm' : i ∈ l := by rcases List.mem_cons.1 hm with h | h; exact absurd h.symm hx; exact h
     have e1 : (listed.setIfInBounds i true).getD x false = listed.getD x false := by
      have hne : i ≠ x := Ne.symm hx
      simp [Array.getElem?_setIfInBounds, hne]
     have := ih hn'.2 hm'
     rw [List.filter_cons, List.filter_cons, e1]
     split
     ·simp only [List.length_cons]; omega
     ·exact this
 exact h1 _ List.nodup_range (by simpa using hi)
def tellI (Gs : List Told) (i : Nat) : Told := (Gs[i]?).getD (fun _ _ => True)
theorem rep_false (n i : Nat) : (Array.replicate n false).getD i false = false := by
 by_cases h : i < n <;> simp [Array.getElem?_replicate, h]
end
theorem args1 {f : Operand → Value} {x : Operand} {u : Value} (h : f x = u) : [x].map f = (#[u] : Array Value).toList := by simp [h]
theorem args2 {f : Operand → Value} {x y : Operand} {u v : Value} (h : f x = u) (h2 : f y = v) : [x, y].map f = (#[u, v] : Array Value).toList := by simp [h, h2]
theorem args3 {f : Operand → Value} {x y z : Operand} {u v w : Value} (h : f x = u) (h2 : f y = v) (h3 : f z = w) : [x, y, z].map f = (#[u, v, w] : Array Value).toList := by simp [h, h2, h3]
def isV (v : Value) : Told := fun u _ => u = v
def anyV : Told := fun _ _ => True
section
variable {P : Program} {ops : Array Oper} {Q : Exit → Act → World → Prop} {S : World → Prop} {V : Nat → Told} {a0 : Act} {md : Region.Mode} {k : Nat} {o : Oper} {G : Told} {a : Act} {w : World}
theorem wants_none (hg : o.guard = none) : wants ops o a = true := by simp [wants, Region.wanted, hg]
theorem StepI.nw (hw : wants ops o a = false) (hg : G undef w) : StepI P ops Q o G a w := .inl ⟨hw, hg⟩
theorem StepI.val {v : Value} (hw : wants ops o a = true) (hr : (execOp a.eval o).run P w = .ok (.value v) w) (hg : G v w) : StepI P ops Q o G a w := by
 refine .inr ⟨hw, ?_⟩
 unfold Oper.wp
 rw [hr]
 exact ⟨v, rfl, hg, Below.refl _ _⟩
theorem StepI.new {v : Value} {w' : World} (hw : wants ops o a = true) (hr : (execOp a.eval o).run P w = .ok (.value v) w') (hb : Below w.heap.size w w') (hg : G v w') : StepI P ops Q o G a w := by
 refine .inr ⟨hw, ?_⟩
 unfold Oper.wp
 rw [hr]
 exact ⟨v, rfl, hg, hb⟩
theorem StepI.mov {x : Operand} (ho : o.op = .move x) (hw : wants ops o a = true) (hg : G (a.eval x) w) : StepI P ops Q o G a w :=
 StepI.val hw (by simp [execOp, ho]) hg
theorem StepI.asg {x : Operand} (ho : o.op = .assign x) (hw : wants ops o a = true) (hg : G (a.eval x) w) : StepI P ops Q o G a w :=
 StepI.val hw (by simp [execOp, ho]) hg
theorem StepI.not {t : TypeId} {x : Operand} {p : Bool} (ho : o.op = .unOp .not t x) (hw : wants ops o a = true) (hx : a.eval x = .bool p) (hg : G (.bool !p) w) : StepI P ops Q o G a w :=
 StepI.val (v := .bool !p) hw (by
  simp only [execOp, ho, hx]
  simp [Op.unary, asBool]) hg
theorem StepI.bin {b : BinOp} {t ty : TypeId} {x y : Operand} {u v r : Value} (ho : o.op = .binOp b t x y ty) (hw : wants ops o a = true) (hx : a.eval x = u) (hy : a.eval y = v)
  (hr : ((do eqGuard b t x y u v; binOp b t u v : Sem Value)).run P w = .ok r w) (hg : G r w) : StepI P ops Q o G a w :=
 StepI.val (v := r) hw (by
  simp only [execOp, ho, hx, hy]
  rw [Sem.run_bind, hr]
  rfl) hg
theorem StepI.load {t : TypeId} {x : Operand} {v : Value} {p : Addr} (ho : o.op = .load t x) (hw : wants ops o a = true) (hx : a.eval x = .pointer (some p)) (hr : (loadVar t p).run P w = .ok v w) (hg : G v w) : StepI P ops Q o G a w :=
 StepI.val (v := v) hw (by
  unfold execOp
  simp only [ho, hx, Instr.loadAt, Instr.sureAddr, Sem.run_bind, Sem.run_pure, Result.andThen_ok, hr]) hg
theorem StepI.call {f : FuncId} {xs : List Operand} {ts : Array TypeId} {vs : Array Value} (ho : o.op = .call { callee := .value (.func f), args := xs.toArray, argTypes := ts }) (hw : wants ops o a = true)
  (hx : xs.map a.eval = vs.toList) (hf : goesIn P f = true) (hc : Calls P f vs w fun e w' => ∃ v, e = .returned v ∧ G v w' ∧ Below w.heap.size w w') : StepI P ops Q o G a w := by
 have hr : (execOp a.eval o).run P w = .ok (.enter f vs) w := by
  unfold goesIn at hf
  cases hp : P.funcs[f]? with
  | none => simp [hp] at hf
  | some fn =>
    simp only [hp, Bool.and_eq_true, bne_iff_ne, ne_eq] at hf
    have hb : fn.body.isNone = false := by cases hq : fn.body <;> simp_all
    have hv : (xs.map a.eval).toArray = vs := by rw [hx]
    simp [execOp, ho, resolve, invoke, callFunc, Deferred.ofValue, Act.eval, hp, hf.1, hb, hv, go_sem]
    intro hq; rw [hq] at hb; cases hb
 refine .inr ⟨hw, ?_⟩
 unfold Oper.wp
 rw [hr]
 simp only [Oper.upon]
 refine Calls.mono hc fun e w' he => ?_
 obtain ⟨v, rfl, h2, h3⟩ := he
 exact ⟨v, rfl, h2, h3⟩
theorem StepI.callV {f : FuncId} {xs : List Operand} {ts : Array TypeId} {vs : Array Value} {v : Value} (ho : o.op = .call { callee := .value (.func f), args := xs.toArray, argTypes := ts }) (hw : wants ops o a = true)
  (hx : xs.map a.eval = vs.toList) (hf : goesIn P f = true) (hc : Calls P f vs w fun e w' => e = .returned v ∧ Below w.heap.size w w') : StepI P ops Q o (isV v) a w :=
 StepI.call ho hw hx hf (hc.mono fun e w' h => ⟨v, h.1, rfl, h.2⟩)
end
def puts : Act → List (Nat × Value) → Act
 | a, [] => a
 | a, (d, v) :: L => puts (a.put (some d) v) L
theorem puts_size : ∀ (L : List (Nat × Value)) (a : Act), (puts a L).tmps.size = a.tmps.size
 | [], a => rfl
 | (d, v) :: L, a => by rw [puts, puts_size L]; simp [Act.put]
theorem puts_defers : ∀ (L : List (Nat × Value)) (a : Act), (puts a L).defers = a.defers
 | [], a => rfl
 | (d, v) :: L, a => by rw [puts, puts_defers L]; rfl
theorem puts_other : ∀ (L : List (Nat × Value)) (a : Act) (t : Nat), t ∉ L.map (·.1) → (puts a L).tmps.getD t undef = a.tmps.getD t undef
 | [], a, t, _ => rfl
 | (d, v) :: L, a, t, h => by
   simp only [List.map_cons, List.mem_cons, not_or] at h
   rw [puts, puts_other L _ t h.2]
   have hne : d ≠ t := Ne.symm h.1
   simp [Act.put, Array.getElem?_setIfInBounds, hne]
theorem puts_same : ∀ (L : List (Nat × Value)) (a : Act) (t : Nat) (v : Value), (L.map (·.1)).Nodup → (t, v) ∈ L → t < a.tmps.size → (puts a L).tmps.getD t undef = v
 | (d, u) :: L, a, t, v, hn, hm, ht => by
   have hn' := List.nodup_cons.1 hn
   rw [puts]
   rcases List.mem_cons.1 hm with h | h
   ·injection h with h1 h2
    subst h1 h2
    rw [puts_other L _ _ hn'.1]
    simp [Act.put, ht]
   ·exact puts_same L _ t v hn'.2 h (by simpa [Act.put] using ht)
def chkP (ops : Array Oper) (n : Nat) (L : List Nat) : Bool := (ops.all fun o => match o.dst with | none => true | some d => L.contains d) && L.all (fun d => decide (d < n)) && decide L.Nodup
theorem Fr.puts {ops : Array Oper} {a0 a : Act} (hf : Fr ops a0 a) (L : List (Nat × Value)) (hc : chkP ops a0.tmps.size (L.map (·.1)) = true) (hv : ∀ p ∈ L, a.tmps.getD p.1 undef = p.2) : a = puts a0 L := by
 unfold chkP at hc
 simp only [Bool.and_eq_true, decide_eq_true_eq] at hc
 have hsz : a.tmps.size = (Go.Proofs.YtmchjmflkaiakaaGreatDoor.puts a0 L).tmps.size := by rw [puts_size, hf.size]
 have hget : ∀ t, t < a.tmps.size → a.tmps.getD t undef = (Go.Proofs.YtmchjmflkaiakaaGreatDoor.puts a0 L).tmps.getD t undef := by
  intro t ht
  by_cases hm : t ∈ L.map (·.1)
  ·obtain ⟨p, hp, hpt⟩ := List.mem_map.1 hm
   subst hpt
   rw [hv p hp, puts_same L a0 p.1 p.2 hc.2 hp (by rw [← hf.size]; exact ht)]
  ·rw [puts_other L a0 t hm, hf.keep t]
   rw [Array.all_eq_true_iff_forall_mem]
   intro o ho
   have h1 := (Array.all_eq_true_iff_forall_mem.1 hc.1.1) o ho
   cases hd : o.dst with
   | none => simp
   | some d =>
     rw [hd] at h1
     simp only [bne_iff_ne, ne_eq, Option.some.injEq]
     intro e
     subst e
     exact hm (by simpa using h1)
 have ht : a.tmps = (Go.Proofs.YtmchjmflkaiakaaGreatDoor.puts a0 L).tmps := by
  apply Array.ext hsz
  intro i h1 h2
  have := hget i h1
  simpa [h1, h2] using this
 have hd : a.defers = (Go.Proofs.YtmchjmflkaiakaaGreatDoor.puts a0 L).defers := by rw [puts_defers, hf.defers]
 cases a
 simp only at ht hd
 rw [ht, hd]
theorem StepI.fld {P : Program} {ops : Array Oper} {Q : Exit → Act → World → Prop} {G : Told} {o : Oper} {a : Act} {w : World} {t : TypeId} {x : Operand} {f : Nat} {p : Value} {v : Value} (ho : o.op = .fieldAddr t x f) (hw : wants ops o a = true) (hx : a.eval x = p) (hr : (Instr.fieldAt t p f).run P w = .ok v w) (hg : G v w) : StepI P ops Q o G a w :=
 StepI.val (v := v) hw (by
  unfold execOp
  simp only [ho, hx, Sem.run_bind, Sem.run_pure, hr, Result.andThen_ok]) hg
theorem StepI.idx {P : Program} {ops : Array Oper} {Q : Exit → Act → World → Prop} {G : Told} {o : Oper} {a : Act} {w : World} {t : TypeId} {x y : Operand} {p q : Value} {v : Value} (ho : o.op = .indexAddr t x y) (hw : wants ops o a = true) (hx : a.eval x = p) (hy : a.eval y = q) (hr : (Instr.indexAt t p q).run P w = .ok v w) (hg : G v w) : StepI P ops Q o G a w :=
 StepI.val (v := v) hw (by
  unfold execOp
  simp only [ho, hx, hy, Sem.run_bind, Sem.run_pure, hr, Result.andThen_ok]) hg
def chainW (P : Program) (ops : Array Oper) (Q : Exit → Act → World → Prop) : List Oper → Act → World → Prop
 | [], a, w => Q .normal a w
 | o :: r, a, w => wants ops o a = true ∧ o.wp P a w (fun a' w' => chainW P ops Q r a' w') Q
section
variable {P : Program} {ops : Array Oper} {Q : Exit → Act → World → Prop} {S : World → Prop} {V : Nat → Told} {a0 : Act} {md : Region.Mode}
theorem chain_sound {n m : Nat} (hc : chkI md ops n = true) (hwait : ∀ i j, i < j → m ≤ j → j < ops.size → (reach md ops i).contains j = true) :
  ∀ (post : List Oper) (k : Nat) (fuel : Nat) (listed : Array Bool) (a : Act) (w : World), m ≤ k → ops.toList.drop k = post → listed.size = ops.size → Closed md ops listed → cntI listed ops.size ≤ fuel → (∀ q, q < k → q < ops.size → listed.getD q false = true) → (∀ q, k ≤ q → listed.getD q false = false) → chainW P ops Q post a w → wpAny P md ops Q fuel listed a w
 | [], k, fuel, listed, a, w, hmk, hd, hsz, hcl, hcnt, hlo, hhi, hq => by
   have hk : ops.size ≤ k := by have := List.drop_eq_nil_iff.1 hd; simpa using this
   have hr0 : Region.ready md ops listed = [] := by
    refine List.eq_nil_iff_forall_not_mem.2 fun q hq => ?_
    obtain ⟨hql, oq, hoq, _⟩ := mem_ready.1 hq
    have hqs := (Array.getElem?_eq_some_iff.1 hoq).1
    have h1 := hlo q (by omega) hqs
    have h3 := getD_tf hql
    rw [h1] at h3; cases h3
   cases fuel with
   | zero => exact ⟨hr0, hq⟩
   | succ f => exact ⟨fun _ => hq, fun q hq2 => by rw [hr0] at hq2; cases hq2⟩
 | o :: r, k, fuel, listed, a, w, hmk, hd, hsz, hcl, hcnt, hlo, hhi, hq => by
   have hk : k < ops.size := by
    rcases Nat.lt_or_ge k ops.size with h' | h'
    ·exact h'
    ·rw [List.drop_eq_nil_of_le (by simpa using h')] at hd; cases hd
   have hok : ops[k]? = some o := by
    rw [← Array.getElem?_toList]
    have := congrArg (fun l => l[0]?) hd
    simpa [List.getElem?_drop] using this
   have hdr : ops.toList.drop (k + 1) = r := by
    have := congrArg List.tail hd
    simpa [List.tail_drop] using this
   have hcnt' := cntI_set hsz hk (hhi k (Nat.le_refl _))
   cases fuel with
   | zero => omega
   | succ f =>
     refine ⟨fun hr => (by have := ready_none hc hsz hr k hk; rw [hhi k (Nat.le_refl _)] at this; cases this), fun i hi => ?_⟩
     obtain ⟨hl, oi, ho, ha⟩ := mem_ready.1 hi
     have hil := (Array.getElem?_eq_some_iff.1 ho).1
     have hik : i = k := by
      rcases Nat.lt_trichotomy i k with h1 | h1 | h1
      ·have h2 := hlo i h1 hil
       have h3 := getD_tf hl
       rw [h2] at h3; cases h3
      ·exact h1
      ·have h2 : listed.getD k false = true := (reach_sound (by have := hwait k i h1 (by omega) hil; simpa using this)).not_ready hcl hi
       rw [hhi k (Nat.le_refl _)] at h2; cases h2
     subst hik
     have ho2 : oi = o := by rw [hok] at ho; exact (Option.some.inj ho).symm
     subst ho2
     obtain ⟨hw, hwp⟩ := hq
     unfold Go.wpOp
     simp only [hok]
     unfold wants at hw
     rw [hw]
     simp only [if_true]
     refine .inl (Oper.wp_mono (fun a' w' hq' => ?_) hwp)
     refine chain_sound hc hwait r (i + 1) f _ a' w' (by omega) hdr (by simpa using hsz) (hcl.set hi) (by omega) (fun q hq1 hq2 => ?_) (fun q hq1 => ?_) hq'
     ·by_cases hqi : i = q
      ·subst hqi; simp [hsz, hil]
      ·rw [getD_set_ne false hqi]; exact hlo q (by omega) hq2
     ·rw [getD_set_ne false (by omega)]; exact hhi q (by omega)
structure UponJ (ops fops : Array Oper) (S : World → Prop) (V : Nat → Told) (a0 : Act) (listed : Array Bool) (a : Act) (w : World) : Prop where
 s : S w
 fr : Fr fops a0 a
 v : ∀ i, listed.getD i false = true → ∀ d, dstOf ops i = some d → V i (a.tmps.getD d undef) w
def OpJ (P : Program) (ops fops : Array Oper) (Q : Exit → Act → World → Prop) (S : World → Prop) (V : Nat → Told) (a0 : Act) (md : Region.Mode) (k : Nat) (o : Oper) (G : Told) : Prop :=
 (∀ v w w', G v w → Below w.heap.size w w' → G v w') ∧
 ∀ a w, S w → Fr fops a0 a → (∀ i d, (reach md ops i).contains k = true → dstOf ops i = some d → V i (a.tmps.getD d undef) w) → StepI P ops Q o G a w
def PlanJ (P : Program) (ops fops : Array Oper) (Q : Exit → Act → World → Prop) (S : World → Prop) (V : Nat → Told) (a0 : Act) (md : Region.Mode) : Nat → List Oper → List Told → Prop
 | _, [], _ => True
 | k, o :: rest, G :: Gs => OpJ P ops fops Q S V a0 md k o G ∧ PlanJ P ops fops Q S V a0 md (k + 1) rest Gs
 | _, _ :: _, [] => False
theorem PlanJ.at_ {fops : Array Oper} : ∀ {m k : Nat} {rest : List Oper} {Gs : List Told}, PlanJ P ops fops Q S V a0 md k rest Gs → ∀ {i : Nat} {o : Oper}, rest[i]? = some o → ∃ G, Gs[i]? = some G ∧ OpJ P ops fops Q S V a0 md (k + i) o G
 | m, k, [], Gs, h, i, o, hi => by simp at hi
 | m, k, x :: rest, [], h, i, o, hi => h.elim
 | m, k, x :: rest, G :: Gs, h, 0, o, hi => by simp at hi; subst hi; exact ⟨G, rfl, h.1⟩
 | m, k, x :: rest, G :: Gs, h, i + 1, o, hi => by
   simp at hi
   obtain ⟨G', h1, h2⟩ := PlanJ.at_ (m := m) h.2 hi
   exact ⟨G', by simpa using h1, by rw [show k + (i + 1) = k + 1 + i by omega]; exact h2⟩
theorem PlanJ.nil {fops : Array Oper} {n : Nat} : PlanJ P ops fops Q S V a0 md n [] [] := trivial
theorem PlanJ.cons {fops : Array Oper} {n : Nat} {o : Oper} {G : Told} {rest : List Oper} {Gs : List Told} (h : OpJ P ops fops Q S V a0 md n o G) (ht : PlanJ P ops fops Q S V a0 md (n + 1) rest Gs) : PlanJ P ops fops Q S V a0 md n (o :: rest) (G :: Gs) := ⟨h, ht⟩
theorem OpJ.mk {fops : Array Oper} {k : Nat} {o : Oper} {G : Told} (hst : ∀ v w w', G v w → Below w.heap.size w w' → G v w')
  (h : ∀ a w, S w → Fr fops a0 a → (∀ i d, (reach md ops i).contains k = true → dstOf ops i = some d → V i (a.tmps.getD d undef) w) → StepI P ops Q o G a w) : OpJ P ops fops Q S V a0 md k o G := ⟨hst, h⟩
theorem OpJ.mkV {fops : Array Oper} {k : Nat} {o : Oper} {v : Value} (h : ∀ a w, S w → Fr fops a0 a → (∀ i d, (reach md ops i).contains k = true → dstOf ops i = some d → V i (a.tmps.getD d undef) w) → StepI P ops Q o (isV v) a w) : OpJ P ops fops Q S V a0 md k o (isV v) := ⟨fun _ _ _ h _ => h, h⟩
theorem inv_sound_chainJ {fops : Array Oper} {rest post : List Oper} {n : Nat} {Gs : List Told} (hops : ops = rest.toArray) (hfo : fops = (rest.take n).toArray) (hpost : rest.drop n = post) (hn : n ≤ rest.length) (hwait : ∀ i j, i < j → n ≤ j → j < ops.size → (reach md ops i).contains j = true) (hc : chkI md ops a0.tmps.size = true) (hGs : ∀ q, n ≤ q → Gs[q]? = none) (hS : ∀ w w', S w → Below w.heap.size w w' → S w')
  (hp : PlanJ P ops fops Q S (tellI Gs) a0 md 0 (rest.take n) Gs) (hlast : ∀ a w, S w → Fr fops a0 a → (∀ i d, i < n → dstOf ops i = some d → tellI Gs i (a.tmps.getD d undef) w) → chainW P ops Q post a w) :
  ∀ (fuel : Nat) (listed : Array Bool) (a : Act) (w : World), listed.size = ops.size → Closed md ops listed → cntI listed ops.size ≤ fuel → UponJ ops fops S (tellI Gs) a0 listed a w → (∀ q, n ≤ q → listed.getD q false = false) → wpAny P md ops Q fuel listed a w := by
 have hsize : n ≤ ops.size := by rw [hops]; simpa using hn
 intro fuel
 induction fuel with
 | zero =>
   intro listed a w hsz hcl hcnt hu hhi
   by_cases hall : ∀ q, q < n → listed.getD q false = true
   ·exact chain_sound hc hwait post n _ listed a w (Nat.le_refl _) (by rw [hops]; exact hpost) hsz hcl hcnt (fun q hq _ => hall q hq) hhi (hlast a w hu.s hu.fr fun i d hi hd => hu.v i (hall i hi) d hd)
   ·exfalso
    obtain ⟨q, hq⟩ := Classical.not_forall.1 hall
    obtain ⟨hq1, hq2⟩ := Classical.not_imp.1 hq
    have := cntI_set hsz (i := q) (by omega) (by simpa using hq2)
    omega
 | succ fuel ih =>
   intro listed a w hsz hcl hcnt hu hhi
   by_cases hall : ∀ q, q < n → listed.getD q false = true
   ·exact chain_sound hc hwait post n _ listed a w (Nat.le_refl _) (by rw [hops]; exact hpost) hsz hcl hcnt (fun q hq _ => hall q hq) hhi (hlast a w hu.s hu.fr fun i d hi hd => hu.v i (hall i hi) d hd)
   refine ⟨fun hr => absurd (fun q hq => ready_none hc hsz hr q (by omega)) hall, fun i hi => ?_⟩
   obtain ⟨hl, o, ho, ha⟩ := mem_ready.1 hi
   have hil := (Array.getElem?_eq_some_iff.1 ho).1
   have hl' : listed.getD i false = false := by simp [hsz, hil] at hl ⊢; exact hl
   have hcnt' := cntI_set hsz hil hl'
   have hin : i < n := by
    rcases Nat.lt_or_ge i n with h' | h'
    ·exact h'
    ·exact absurd (fun q hq => (reach_sound (by have := hwait q i (by omega) h' hil; simpa using this)).not_ready hcl hi) hall
   have ho' : (rest.take n)[i]? = some o := by
    rw [List.getElem?_take, if_pos hin]
    rw [hops] at ho
    simpa using ho
   obtain ⟨G, hG, hst, hop⟩ := hp.at_ (m := 0) ho'
   rw [Nat.zero_add] at hop
   have hpast : ∀ q d, (reach md ops q).contains i = true → dstOf ops q = some d → tellI Gs q (a.tmps.getD d undef) w := fun q d hq hd =>
    hu.v q ((reach_sound (by simpa using hq)).not_ready hcl hi) d hd
   have hstep := hop a w hu.s hu.fr hpast
   have hstab : ∀ q d, dstOf ops q = some d → ∀ v w w', tellI Gs q v w → Below w.heap.size w w' → tellI Gs q v w' := by
    intro q d hq v w w' hv hb
    cases ho2 : (rest.take n)[q]? with
    | none =>
      unfold tellI
      have hG0 : Gs[q]? = none := by
       refine hGs q ?_
       have h1 := List.getElem?_eq_none_iff.1 ho2
       rw [List.length_take] at h1
       omega
      rw [hG0]; trivial
    | some o2 =>
      obtain ⟨G2, hG2, hst2, _⟩ := hp.at_ (m := 0) ho2
      unfold tellI at *
      rw [hG2] at hv ⊢
      exact hst2 v w w' hv hb
   have hput : ∀ v w', G v w' → Below w.heap.size w w' → wpAny P md ops Q fuel (listed.setIfInBounds i true) (a.put o.dst v) w' := by
    intro v w' hg hb
    refine ih _ _ _ (by simpa using hsz) (hcl.set hi) (by omega) ⟨hS _ _ hu.s hb, ?_, ?_⟩ (fun q hq => by rw [getD_set_ne false (by omega)]; exact hhi q hq)
    ·cases hd : o.dst with
     | none => exact ⟨hu.fr.defers, hu.fr.size, hu.fr.keep⟩
     | some d =>
       refine ⟨hu.fr.defers, by simp [Act.put, hu.fr.size], fun t ht => ?_⟩
       have hne : d ≠ t := fun e => by
        have := (Array.all_eq_true_iff_forall_mem.1 ht) o (by rw [hfo]; simpa using List.mem_of_getElem? ho')
        rw [hd, e] at this
        simp at this
       rw [← hu.fr.keep t ht]
       simp [Act.put, Array.getElem?_setIfInBounds, hne]
    ·intro q hq d' hd'
     by_cases hqi : i = q
     ·subst hqi
      have hd : o.dst = some d' := by unfold dstOf at hd'; rw [ho] at hd'; exact hd'
      have hlt := chkI_lt hc ho hd
      rw [hd]
      have : ((a.put (some d') v).tmps.getD d' undef) = v := by
       have h2 : d' < a.tmps.size := by rw [hu.fr.size]; exact hlt
       simp [Act.put, h2]
      rw [this]
      unfold tellI
      rw [hG]
      exact hg
     ·rw [getD_set_ne false hqi] at hq
      have h3 := hstab q d' hd' _ _ _ (hu.v q hq d' hd') hb
      cases hd : o.dst with
      | none => exact h3
      | some d =>
        have hne := chkI_ne hc ho hd hd' hqi
        have : ((a.put (some d) v).tmps.getD d' undef) = a.tmps.getD d' undef := by simp [Act.put, Array.getElem?_setIfInBounds, hne]
        rw [this]
        exact h3
   unfold Go.wpOp
   simp only [ho]
   rcases hstep with ⟨hw, hg⟩ | ⟨hw, hwp⟩
   ·unfold wants at hw
    rw [hw]
    simp only [Bool.false_eq_true, if_false]
    exact hput _ _ hg (Below.refl _ _)
   ·unfold wants at hw
    rw [hw]
    simp only [if_true]
    exact .inl (Oper.wp_mono (fun a' w' ⟨v, e, hg, hb⟩ => by rw [e]; exact hput v w' hg hb) hwp)
theorem wp_inv_chainJ {id : Nat} {rest post : List Oper} {w : World} (n : Nat) (Gs : List Told) (hpost : rest.drop n = post) (hm : P.follows .mixedOrders = true) (hc : chkI .any rest.toArray a0.tmps.size = true)
  (hwait : (decide (n ≤ rest.length) && (List.range rest.length).all fun j => decide (j < n) || (List.range j).all fun i => (reach .any rest.toArray i).contains j) = true) (hGs : decide (Gs.length ≤ n) = true)
  (hS : ∀ w w', S w → Below w.heap.size w w' → S w') (h0 : S w)
  (hp : PlanJ P rest.toArray (rest.take n).toArray Q S (tellI Gs) a0 .any 0 (rest.take n) Gs) (hlast : ∀ a w, S w → Fr (rest.take n).toArray a0 a → (∀ i d, i < n → dstOf rest.toArray i = some d → tellI Gs i (a.tmps.getD d undef) w) → chainW P rest.toArray Q post a w) :
  (Code.region id rest.toArray true).wp P Q a0 w := by
 rw [Bool.and_eq_true, decide_eq_true_eq] at hwait
 have hw2 : ∀ i j, i < j → n ≤ j → j < rest.toArray.size → (reach .any rest.toArray i).contains j = true := by
  intro i j hij hnj hj
  have h1 := List.all_eq_true.1 hwait.2 j (by simpa using hj)
  rw [Bool.or_eq_true] at h1
  rcases h1 with h1 | h1
  ·simp at h1; omega
  ·exact List.all_eq_true.1 h1 i (by simpa using hij)
 refine wp_region_any hm (inv_sound_chainJ (Gs := Gs) rfl rfl hpost hwait.1 hw2 hc (fun q hq => List.getElem?_eq_none (Nat.le_trans (of_decide_eq_true hGs) hq)) hS hp hlast _ _ _ _ (by simp) ?_ ?_ ⟨hS w w.drew h0 (Below.refl _ _).drew, ⟨rfl, rfl, fun _ _ => rfl⟩, fun i hi => ?_⟩ (fun q _ => rep_false _ _))
 ·intro j oj _ hl
  rw [rep_false] at hl
  cases hl
 ·unfold cntI
  exact Nat.le_trans (List.length_filter_le _ _) (by simp)
 ·rw [rep_false] at hi
  cases hi
end
section
variable {P : Program} {ops : Array Oper} {Q : Exit → Act → World → Prop} {S : World → Prop} {V : Nat → Told} {a0 : Act} {md : Region.Mode}
structure UponO (ops fops : Array Oper) (S : World → Prop) (V : Nat → Told) (k0 : Nat) (Pre : World → Prop) (a0 : Act) (listed : Array Bool) (a : Act) (w : World) : Prop where
 s : S w
 fr : Fr fops a0 a
 v : ∀ i, listed.getD i false = true → ∀ d, dstOf ops i = some d → V i (a.tmps.getD d undef) w
 pre : listed.getD k0 false = false → Pre w
def StepO (P : Program) (ops : Array Oper) (Q : Exit → Act → World → Prop) (TK : World → World → Prop) (o : Oper) (G : Told) (a : Act) (w : World) : Prop :=
 wants ops o a = true ∧ o.wp P a w (fun a' w' => ∃ v, a' = a.put o.dst v ∧ G v w' ∧ TK w w') Q
def OpA (P : Program) (ops fops : Array Oper) (Q : Exit → Act → World → Prop) (S : World → Prop) (V : Nat → Told) (TK : World → World → Prop) (Pre : World → Prop) (a0 : Act) (md : Region.Mode) (k : Nat) (o : Oper) (G : Told) : Prop :=
 (∀ v w w', G v w → Below w.heap.size w w' → G v w') ∧
 ∀ a w, S w → Pre w → Fr fops a0 a → (∀ i d, (reach md ops i).contains k = true → dstOf ops i = some d → V i (a.tmps.getD d undef) w) → StepO P ops Q TK o G a w
def OpB (P : Program) (ops fops : Array Oper) (Q : Exit → Act → World → Prop) (S : World → Prop) (V : Nat → Told) (TK : World → World → Prop) (a0 : Act) (md : Region.Mode) (k : Nat) (o : Oper) (G : Told) : Prop :=
 (∀ v w w', G v w → Below w.heap.size w w' → G v w') ∧ (∀ v w w', G v w → TK w w' → G v w') ∧
 ∀ a w, S w → Fr fops a0 a → (∀ i d, (reach md ops i).contains k = true → dstOf ops i = some d → V i (a.tmps.getD d undef) w) → StepI P ops Q o G a w
def PlanO (P : Program) (ops fops : Array Oper) (Q : Exit → Act → World → Prop) (S : World → Prop) (V : Nat → Told) (k0 : Nat) (TK : World → World → Prop) (Pre : World → Prop) (a0 : Act) (md : Region.Mode) : Nat → List Oper → List Told → Prop
 | _, [], _ => True
 | k, o :: rest, G :: Gs => ((k = k0 ∧ OpA P ops fops Q S V TK Pre a0 md k o G) ∨ (k ≠ k0 ∧ OpB P ops fops Q S V TK a0 md k o G)) ∧ PlanO P ops fops Q S V k0 TK Pre a0 md (k + 1) rest Gs
 | _, _ :: _, [] => False
variable {k0 : Nat} {TK : World → World → Prop} {Pre : World → Prop}
theorem PlanO.at_ {fops : Array Oper} : ∀ {m k : Nat} {rest : List Oper} {Gs : List Told}, PlanO P ops fops Q S V k0 TK Pre a0 md k rest Gs → ∀ {i : Nat} {o : Oper}, rest[i]? = some o →
  ∃ G, Gs[i]? = some G ∧ ((k + i = k0 ∧ OpA P ops fops Q S V TK Pre a0 md (k + i) o G) ∨ (k + i ≠ k0 ∧ OpB P ops fops Q S V TK a0 md (k + i) o G))
 | m, k, [], Gs, h, i, o, hi => by simp at hi
 | m, k, x :: rest, [], h, i, o, hi => h.elim
 | m, k, x :: rest, G :: Gs, h, 0, o, hi => by simp at hi; subst hi; exact ⟨G, rfl, h.1⟩
 | m, k, x :: rest, G :: Gs, h, i + 1, o, hi => by
   simp at hi
   obtain ⟨G', h1, h2⟩ := PlanO.at_ (m := m) h.2 hi
   exact ⟨G', by simpa using h1, by rw [show k + (i + 1) = k + 1 + i by omega]; exact h2⟩
theorem PlanO.nil {fops : Array Oper} {n : Nat} : PlanO P ops fops Q S V k0 TK Pre a0 md n [] [] := trivial
theorem PlanO.on {fops : Array Oper} {n : Nat} {o : Oper} {G : Told} {rest : List Oper} {Gs : List Told} (hk : n = k0) (hst : ∀ v w w', G v w → Below w.heap.size w w' → G v w')
  (h : ∀ a w, S w → Pre w → Fr fops a0 a → (∀ i d, (reach md ops i).contains n = true → dstOf ops i = some d → V i (a.tmps.getD d undef) w) → StepO P ops Q TK o G a w)
  (ht : PlanO P ops fops Q S V k0 TK Pre a0 md (n + 1) rest Gs) : PlanO P ops fops Q S V k0 TK Pre a0 md n (o :: rest) (G :: Gs) := ⟨.inl ⟨hk, hst, h⟩, ht⟩
theorem PlanO.off {fops : Array Oper} {n : Nat} {o : Oper} {G : Told} {rest : List Oper} {Gs : List Told} (hk : n ≠ k0) (hst : ∀ v w w', G v w → Below w.heap.size w w' → G v w') (hst2 : ∀ v w w', G v w → TK w w' → G v w')
  (h : ∀ a w, S w → Fr fops a0 a → (∀ i d, (reach md ops i).contains n = true → dstOf ops i = some d → V i (a.tmps.getD d undef) w) → StepI P ops Q o G a w)
  (ht : PlanO P ops fops Q S V k0 TK Pre a0 md (n + 1) rest Gs) : PlanO P ops fops Q S V k0 TK Pre a0 md n (o :: rest) (G :: Gs) := ⟨.inr ⟨hk, hst, hst2, h⟩, ht⟩
theorem PlanO.val {fops : Array Oper} {n : Nat} {o : Oper} {v : Value} {rest : List Oper} {Gs : List Told} (hk : n ≠ k0)
  (h : ∀ a w, S w → Fr fops a0 a → (∀ i d, (reach md ops i).contains n = true → dstOf ops i = some d → V i (a.tmps.getD d undef) w) → StepI P ops Q o (isV v) a w)
  (ht : PlanO P ops fops Q S V k0 TK Pre a0 md (n + 1) rest Gs) : PlanO P ops fops Q S V k0 TK Pre a0 md n (o :: rest) (isV v :: Gs) := ⟨.inr ⟨hk, fun _ _ _ h _ => h, fun _ _ _ h _ => h, h⟩, ht⟩
theorem inv_sound_chainO {fops : Array Oper} {rest post : List Oper} {n : Nat} {Gs : List Told} (hops : ops = rest.toArray) (hfo : fops = (rest.take n).toArray) (hpost : rest.drop n = post) (hn : n ≤ rest.length) (hwait : ∀ i j, i < j → n ≤ j → j < ops.size → (reach md ops i).contains j = true) (hc : chkI md ops a0.tmps.size = true) (hGs : ∀ q, n ≤ q → Gs[q]? = none)
  (hS : ∀ w w', S w → Below w.heap.size w w' → S w') (hSK : ∀ w w', S w → TK w w' → S w') (hPre : ∀ w w', Pre w → Below w.heap.size w w' → Pre w')
  (hp : PlanO P ops fops Q S (tellI Gs) k0 TK Pre a0 md 0 (rest.take n) Gs) (hlast : ∀ a w, S w → Fr fops a0 a → (∀ i d, i < n → dstOf ops i = some d → tellI Gs i (a.tmps.getD d undef) w) → chainW P ops Q post a w) :
  ∀ (fuel : Nat) (listed : Array Bool) (a : Act) (w : World), listed.size = ops.size → Closed md ops listed → cntI listed ops.size ≤ fuel → UponO ops fops S (tellI Gs) k0 Pre a0 listed a w → (∀ q, n ≤ q → listed.getD q false = false) → wpAny P md ops Q fuel listed a w := by
 have hsize : n ≤ ops.size := by rw [hops]; simpa using hn
 intro fuel
 induction fuel with
 | zero =>
   intro listed a w hsz hcl hcnt hu hhi
   by_cases hall : ∀ q, q < n → listed.getD q false = true
   ·exact chain_sound hc hwait post n _ listed a w (Nat.le_refl _) (by rw [hops]; exact hpost) hsz hcl hcnt (fun q hq _ => hall q hq) hhi (hlast a w hu.s hu.fr fun i d hi hd => hu.v i (hall i hi) d hd)
   ·exfalso
    obtain ⟨q, hq⟩ := Classical.not_forall.1 hall
    obtain ⟨hq1, hq2⟩ := Classical.not_imp.1 hq
    have := cntI_set hsz (i := q) (by omega) (by simpa using hq2)
    omega
 | succ fuel ih =>
   intro listed a w hsz hcl hcnt hu hhi
   by_cases hall : ∀ q, q < n → listed.getD q false = true
   ·exact chain_sound hc hwait post n _ listed a w (Nat.le_refl _) (by rw [hops]; exact hpost) hsz hcl hcnt (fun q hq _ => hall q hq) hhi (hlast a w hu.s hu.fr fun i d hi hd => hu.v i (hall i hi) d hd)
   refine ⟨fun hr => absurd (fun q hq => ready_none hc hsz hr q (by omega)) hall, fun i hi => ?_⟩
   obtain ⟨hl, o, ho, ha⟩ := mem_ready.1 hi
   have hil := (Array.getElem?_eq_some_iff.1 ho).1
   have hl' : listed.getD i false = false := by simp [hsz, hil] at hl ⊢; exact hl
   have hcnt' := cntI_set hsz hil hl'
   have hin : i < n := by
    rcases Nat.lt_or_ge i n with h' | h'
    ·exact h'
    ·exact absurd (fun q hq => (reach_sound (by have := hwait q i (by omega) h' hil; simpa using this)).not_ready hcl hi) hall
   have ho' : (rest.take n)[i]? = some o := by
    rw [List.getElem?_take, if_pos hin]
    rw [hops] at ho
    simpa using ho
   obtain ⟨G, hG, hop⟩ := hp.at_ (m := 0) ho'
   rw [Nat.zero_add] at hop
   have hpast : ∀ q d, (reach md ops q).contains i = true → dstOf ops q = some d → tellI Gs q (a.tmps.getD d undef) w := fun q d hq hd =>
    hu.v q ((reach_sound (by simpa using hq)).not_ready hcl hi) d hd
   -- the step's relation
   have hstab : ∀ q d, i ≠ q → dstOf ops q = some d → ∀ v w w', tellI Gs q v w → (i = k0 ∧ TK w w' ∨ Below w.heap.size w w') → tellI Gs q v w' := by
    intro q d hiq hq v w w' hv hb
    cases ho2 : (rest.take n)[q]? with
    | none =>
      unfold tellI
      have hG0 : Gs[q]? = none := by
       refine hGs q ?_
       have h1 := List.getElem?_eq_none_iff.1 ho2
       rw [List.length_take] at h1
       omega
      rw [hG0]; trivial
    | some o2 =>
      obtain ⟨G2, hG2, h2⟩ := hp.at_ (m := 0) ho2
      rw [Nat.zero_add] at h2
      unfold tellI at *
      rw [hG2] at hv ⊢
      rcases hb with ⟨hik, hb⟩ | hb
      ·rcases h2 with ⟨e, _⟩ | ⟨_, h3⟩
       ·exact absurd (hik.trans e.symm) hiq
       ·exact h3.2.1 v w w' hv hb
      ·rcases h2 with ⟨_, h3⟩ | ⟨_, h3⟩
       ·exact h3.1 v w w' hv hb
       ·exact h3.1 v w w' hv hb
   have hput : ∀ v w', G v w' → (i = k0 ∧ TK w w' ∨ i ≠ k0 ∧ Below w.heap.size w w') → wpAny P md ops Q fuel (listed.setIfInBounds i true) (a.put o.dst v) w' := by
    intro v w' hg hb
    have hb2 : i = k0 ∧ TK w w' ∨ Below w.heap.size w w' := by
     rcases hb with h | h
     ·exact .inl h
     ·exact .inr h.2
    refine ih _ _ _ (by simpa using hsz) (hcl.set hi) (by omega) ⟨?_, ?_, ?_, ?_⟩ (fun q hq => by rw [getD_set_ne false (by omega)]; exact hhi q hq)
    ·rcases hb with h | h
     ·exact hSK _ _ hu.s h.2
     ·exact hS _ _ hu.s h.2
    ·cases hd : o.dst with
     | none => exact ⟨hu.fr.defers, hu.fr.size, hu.fr.keep⟩
     | some d =>
       refine ⟨hu.fr.defers, by simp [Act.put, hu.fr.size], fun t ht => ?_⟩
       have hne : d ≠ t := fun e => by
        have := (Array.all_eq_true_iff_forall_mem.1 ht) o (by rw [hfo]; simpa using List.mem_of_getElem? ho')
        rw [hd, e] at this
        simp at this
       rw [← hu.fr.keep t ht]
       simp [Act.put, Array.getElem?_setIfInBounds, hne]
    ·intro q hq d' hd'
     by_cases hqi : i = q
     ·subst hqi
      have hd : o.dst = some d' := by unfold dstOf at hd'; rw [ho] at hd'; exact hd'
      have hlt := chkI_lt hc ho hd
      rw [hd]
      have : ((a.put (some d') v).tmps.getD d' undef) = v := by
       have h2 : d' < a.tmps.size := by rw [hu.fr.size]; exact hlt
       simp [Act.put, h2]
      rw [this]
      unfold tellI
      rw [hG]
      exact hg
     ·rw [getD_set_ne false hqi] at hq
      have h3 := hstab q d' hqi hd' _ _ _ (hu.v q hq d' hd') hb2
      cases hd : o.dst with
      | none => exact h3
      | some d =>
        have hne := chkI_ne hc ho hd hd' hqi
        have : ((a.put (some d) v).tmps.getD d' undef) = a.tmps.getD d' undef := by simp [Act.put, Array.getElem?_setIfInBounds, hne]
        rw [this]
        exact h3
    ·intro hk
     rcases hb with ⟨h, -⟩ | ⟨h, h9⟩
     ·subst h
      simp [hsz, hil] at hk
     ·rw [getD_set_ne false h] at hk
      exact hPre _ _ (hu.pre hk) h9
   unfold Go.wpOp
   simp only [ho]
   rcases hop with ⟨hik, hop⟩ | ⟨hik, hop⟩
   ·obtain ⟨hw, hwp⟩ := hop.2 a w hu.s (hu.pre (by rw [← hik]; exact hl')) hu.fr hpast
    unfold wants at hw
    rw [hw]
    simp only [if_true]
    exact .inl (Oper.wp_mono (fun a' w' ⟨v, e, hg, hb⟩ => by rw [e]; exact hput v w' hg (.inl ⟨hik, hb⟩)) hwp)
   ·rcases hop.2.2 a w hu.s hu.fr hpast with ⟨hw, hg⟩ | ⟨hw, hwp⟩
    ·unfold wants at hw
     rw [hw]
     simp only [Bool.false_eq_true, if_false]
     exact hput _ _ hg (.inr ⟨hik, Below.refl _ _⟩)
    ·unfold wants at hw
     rw [hw]
     simp only [if_true]
     exact .inl (Oper.wp_mono (fun a' w' ⟨v, e, hg, hb⟩ => by rw [e]; exact hput v w' hg (.inr ⟨hik, hb⟩)) hwp)
theorem wp_inv_chainO {id : Nat} {rest post : List Oper} {w : World} (n k0 : Nat) (TK : World → World → Prop) (Pre : World → Prop) (Gs : List Told) (hpost : rest.drop n = post) (hm : P.follows .mixedOrders = true) (hc : chkI .any rest.toArray a0.tmps.size = true)
  (hwait : (decide (n ≤ rest.length) && (List.range rest.length).all fun j => decide (j < n) || (List.range j).all fun i => (reach .any rest.toArray i).contains j) = true) (hGs : decide (Gs.length ≤ n) = true)
  (hS : ∀ w w', S w → Below w.heap.size w w' → S w') (hSK : ∀ w w', S w → TK w w' → S w') (hPre : ∀ w w', Pre w → Below w.heap.size w w' → Pre w') (h0 : S w) (h1 : Pre w)
  (hp : PlanO P rest.toArray (rest.take n).toArray Q S (tellI Gs) k0 TK Pre a0 .any 0 (rest.take n) Gs) (hlast : ∀ a w, S w → Fr (rest.take n).toArray a0 a → (∀ i d, i < n → dstOf rest.toArray i = some d → tellI Gs i (a.tmps.getD d undef) w) → chainW P rest.toArray Q post a w) :
  (Code.region id rest.toArray true).wp P Q a0 w := by
 rw [Bool.and_eq_true, decide_eq_true_eq] at hwait
 have hw2 : ∀ i j, i < j → n ≤ j → j < rest.toArray.size → (reach .any rest.toArray i).contains j = true := by
  intro i j hij hnj hj
  have h1 := List.all_eq_true.1 hwait.2 j (by simpa using hj)
  rw [Bool.or_eq_true] at h1
  rcases h1 with h1 | h1
  ·simp at h1; omega
  ·exact List.all_eq_true.1 h1 i (by simpa using hij)
 refine wp_region_any hm (inv_sound_chainO (k0 := k0) (TK := TK) (Pre := Pre) (Gs := Gs) rfl rfl hpost hwait.1 hw2 hc (fun q hq => List.getElem?_eq_none (Nat.le_trans (of_decide_eq_true hGs) hq)) hS hSK hPre hp hlast _ _ _ _ (by simp) ?_ ?_ ⟨hS w w.drew h0 (Below.refl _ _).drew, ⟨rfl, rfl, fun _ _ => rfl⟩, fun i hi => ?_, fun _ => hPre w w.drew h1 (Below.refl _ _).drew⟩ (fun q _ => rep_false _ _))
 ·intro j oj _ hl
  rw [rep_false] at hl
  cases hl
 ·unfold cntI
  exact Nat.le_trans (List.length_filter_le _ _) (by simp)
 ·rw [rep_false] at hi
  cases hi
end
end Go.Proofs.YtmchjmflkaiakaaGreatDoor
