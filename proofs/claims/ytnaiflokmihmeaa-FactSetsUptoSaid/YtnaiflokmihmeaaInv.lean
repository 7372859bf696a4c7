/- A region in whatever order it is drawn: of each operation is told what its slot holds, once it has been done. -/
import Derived.Test.YtnaiflokmihmeaaSeq
namespace Go.Proofs.Ytnaiflokmihmeaa
open Go.RowKit
set_option linter.unusedVariables false
set_option linter.unusedSimpArgs false

abbrev Told := Value → World → Prop
section
variable (P : Program) (ops : Array Oper) (Q : Exit → Act → World → Prop) (S : World → Prop) (V : Nat → Told) (a0 : Act)
def dstOf (i : Nat) : Option Nat := (ops[i]?).bind (·.dst)
/-- slots that the region does not write are as they were -/
structure Fr (a : Act) : Prop where
  defers : a.defers = a0.defers
  size : a.tmps.size = a0.tmps.size
  keep : ∀ t, (ops.all fun o => o.dst != some t) = true → a.tmps.getD t undef = a0.tmps.getD t undef
structure Upon (listed : Array Bool) (a : Act) (w : World) : Prop where
  s : S w
  fr : Fr ops a0 a
  v : ∀ i, listed.getD i false = true → ∀ d, dstOf ops i = some d → V i (a.tmps.getD d undef) w
/-- the operation is done: its value is told -/
def StepI (o : Oper) (G : Told) (a : Act) (w : World) : Prop :=
  (wants ops o a = false ∧ G undef w) ∨ (wants ops o a = true ∧ o.wp P a w (fun a' w' => ∃ v, a' = a.put o.dst v ∧ G v w' ∧ Below w.heap.size w w') Q)
/-- operation k, in whatever state it comes up -/
def OpI (md : Region.Mode) (k : Nat) (o : Oper) (G : Told) : Prop :=
  (∀ v w w', G v w → Below w.heap.size w w' → G v w') ∧
  ∀ a w, S w → Fr ops a0 a → (∀ i d, (reach md ops i).contains k = true → dstOf ops i = some d → V i (a.tmps.getD d undef) w) → StepI P ops Q o G a w
def PlanI (md : Region.Mode) : Nat → List Oper → List Told → Prop
  | _, [], _ => True
  | k, o :: rest, G :: Gs => OpI P ops Q S V a0 md k o G ∧ PlanI md (k + 1) rest Gs
  | _, _ :: _, [] => False
end
def chkI (md : Region.Mode) (ops : Array Oper) (n : Nat) : Bool :=
  (List.range ops.size).all fun i => match ops[i]? with
    | none => false
    | some oi => (oi.after.all fun e => !Region.binds md e || decide (e.on < i)) && (match oi.dst with | none => true | some d => decide (d < n)) &&
      (List.range ops.size).all fun j => decide (i = j) || match oi.dst, (ops[j]?).bind (·.dst) with
        | some d, some d' => d != d'
        | _, _ => true
section
variable {P : Program} {ops : Array Oper} {Q : Exit → Act → World → Prop} {S : World → Prop} {V : Nat → Told} {a0 : Act} {md : Region.Mode}
theorem chkI_after {n i : Nat} {o : Oper} (h : chkI md ops n = true) (hi : ops[i]? = some o) {e : Edge} (he : e ∈ o.after) (hb : Region.binds md e = true) : e.on < i := by
  have hlt := (Array.getElem?_eq_some_iff.1 hi).1
  have h1 := List.all_eq_true.1 h i (by simpa using hlt)
  simp only [hi, Bool.and_eq_true] at h1
  have h2 := (Array.all_eq_true_iff_forall_mem.1 h1.1.1) e he
  simpa [hb] using h2
theorem chkI_lt {n i d : Nat} {o : Oper} (h : chkI md ops n = true) (hi : ops[i]? = some o) (hd : o.dst = some d) : d < n := by
  have hlt := (Array.getElem?_eq_some_iff.1 hi).1
  have h1 := List.all_eq_true.1 h i (by simpa using hlt)
  simp only [hi, hd, Bool.and_eq_true] at h1
  simpa using h1.1.2
theorem chkI_ne {n i j d d' : Nat} {o : Oper} (h : chkI md ops n = true) (hi : ops[i]? = some o) (hd : o.dst = some d) (hj : dstOf ops j = some d') (hij : i ≠ j) : d ≠ d' := by
  have hlt := (Array.getElem?_eq_some_iff.1 hi).1
  have hjl : j < ops.size := by
    rcases Nat.lt_or_ge j ops.size with h' | h'
    · exact h'
    · unfold dstOf at hj; rw [Array.getElem?_eq_none h'] at hj; cases hj
  have h1 := List.all_eq_true.1 h i (by simpa using hlt)
  simp only [hi, Bool.and_eq_true] at h1
  have h2 := List.all_eq_true.1 h1.2 j (by simpa using hjl)
  unfold dstOf at hj
  rw [hd, hj] at h2
  simpa [hij] using h2
theorem ready_none {n : Nat} (h : chkI md ops n = true) {listed : Array Bool} (hsz : listed.size = ops.size) (hr : Region.ready md ops listed = []) : ∀ i, i < ops.size → listed.getD i false = true := by
  intro i
  induction i using Nat.strongRecOn with
  | ind i ih =>
    intro hi
    cases hl : listed.getD i false with
    | true => rfl
    | false =>
      exfalso
      have : i ∈ Region.ready md ops listed := by
        refine mem_ready.2 ⟨?_, ops[i], Array.getElem?_eq_getElem hi, fun e he hb => ?_⟩
        · have hil : i < listed.size := by omega
          simp [hil] at hl ⊢; exact hl
        · have h1 := chkI_after h (Array.getElem?_eq_getElem hi) he hb
          exact ih _ h1 (by omega)
      rw [hr] at this
      cases this
/-- how many are still to come -/
def cntI (listed : Array Bool) (n : Nat) : Nat := ((List.range n).filter fun i => !listed.getD i false).length
theorem cntI_set {listed : Array Bool} {i n : Nat} (hsz : listed.size = n) (hi : i < n) (hl : listed.getD i false = false) : cntI (listed.setIfInBounds i true) n + 1 ≤ cntI listed n := by
  unfold cntI
  have h1 : ∀ (l : List Nat), l.Nodup → i ∈ l → (l.filter fun j => !(listed.setIfInBounds i true).getD j false).length + 1 ≤ (l.filter fun j => !listed.getD j false).length := by
    intro l
    induction l with
    | nil => intro _ h; cases h
    | cons x l ih =>
      intro hn hm
      have hn' := List.nodup_cons.1 hn
      by_cases hx : x = i
      · subst hx
        have e1 : (listed.setIfInBounds x true).getD x false = true := by simp [hsz, hi]
        rw [List.filter_cons, List.filter_cons, e1, hl]
        simp only [Bool.not_true, Bool.false_eq_true, if_false, Bool.not_false, if_true, List.length_cons]
        refine Nat.succ_le_succ ?_
        have : (l.filter fun j => !(listed.setIfInBounds x true).getD j false) = l.filter fun j => !listed.getD j false := by
          refine List.filter_congr fun y hy => ?_
          have hne : x ≠ y := fun e => hn'.1 (e ▸ hy)
          simp [Array.getElem?_setIfInBounds, hne]
        rw [this]
        exact Nat.le_refl _
      · have hm' : i ∈ l := by rcases List.mem_cons.1 hm with h | h; exact absurd h.symm hx; exact h
        have e1 : (listed.setIfInBounds i true).getD x false = listed.getD x false := by
          have hne : i ≠ x := Ne.symm hx
          simp [Array.getElem?_setIfInBounds, hne]
        have := ih hn'.2 hm'
        rw [List.filter_cons, List.filter_cons, e1]
        split
        · simp only [List.length_cons]; omega
        · exact this
  exact h1 _ List.nodup_range (by simpa using hi)
theorem PlanI.at_ : ∀ {m k : Nat} {rest : List Oper} {Gs : List Told}, PlanI P ops Q S V a0 md k rest Gs → ∀ {i : Nat} {o : Oper}, rest[i]? = some o → ∃ G, Gs[i]? = some G ∧ OpI P ops Q S V a0 md (k + i) o G
  | m, k, [], Gs, h, i, o, hi => by simp at hi
  | m, k, x :: rest, [], h, i, o, hi => h.elim
  | m, k, x :: rest, G :: Gs, h, 0, o, hi => by simp at hi; subst hi; exact ⟨G, rfl, h.1⟩
  | m, k, x :: rest, G :: Gs, h, i + 1, o, hi => by
    simp at hi
    obtain ⟨G', h1, h2⟩ := PlanI.at_ (m := m) h.2 hi
    exact ⟨G', by simpa using h1, by rw [show k + (i + 1) = k + 1 + i by omega]; exact h2⟩
/-- what is told of slot i -/
def tellI (Gs : List Told) (i : Nat) : Told := (Gs[i]?).getD (fun _ _ => True)
theorem inv_sound {rest : List Oper} {Gs : List Told} (hops : ops = rest.toArray) (hc : chkI md ops a0.tmps.size = true) (hS : ∀ w w', S w → Below w.heap.size w w' → S w')
    (hp : PlanI P ops Q S (tellI Gs) a0 md 0 rest Gs) (hend : ∀ a w, S w → Fr ops a0 a → (∀ i d, dstOf ops i = some d → tellI Gs i (a.tmps.getD d undef) w) → Q .normal a w) :
    ∀ (fuel : Nat) (listed : Array Bool) (a : Act) (w : World), listed.size = ops.size → Closed md ops listed → cntI listed ops.size ≤ fuel → Upon ops S (tellI Gs) a0 listed a w → wpAny P md ops Q fuel listed a w := by
  have hall : ∀ (listed : Array Bool) (a : Act) (w : World), listed.size = ops.size → Upon ops S (tellI Gs) a0 listed a w → Region.ready md ops listed = [] → Q .normal a w := by
    intro listed a w hsz hu hr
    refine hend a w hu.s hu.fr fun i d hd => ?_
    have hil : i < ops.size := by
      rcases Nat.lt_or_ge i ops.size with h' | h'
      · exact h'
      · unfold dstOf at hd; rw [Array.getElem?_eq_none h'] at hd; cases hd
    exact hu.v i (ready_none hc hsz hr i hil) d hd
  intro fuel
  induction fuel with
  | zero =>
    intro listed a w hsz hcl hcnt hu
    have h0 : Region.ready md ops listed = [] := by
      refine List.eq_nil_iff_forall_not_mem.2 fun i hi => ?_
      obtain ⟨hl, o, ho, _⟩ := mem_ready.1 hi
      have hil := (Array.getElem?_eq_some_iff.1 ho).1
      have hl' : listed.getD i false = false := by simp [hsz, hil] at hl ⊢; exact hl
      have := cntI_set hsz hil hl'
      omega
    exact ⟨h0, hall listed a w hsz hu h0⟩
  | succ fuel ih =>
    intro listed a w hsz hcl hcnt hu
    refine ⟨fun hr => hall listed a w hsz hu hr, fun i hi => ?_⟩
    obtain ⟨hl, o, ho, ha⟩ := mem_ready.1 hi
    have hil := (Array.getElem?_eq_some_iff.1 ho).1
    have hl' : listed.getD i false = false := by simp [hsz, hil] at hl ⊢; exact hl
    have hcnt' := cntI_set hsz hil hl'
    have ho' : rest[i]? = some o := by rw [hops] at ho; simpa using ho
    obtain ⟨G, hG, hst, hop⟩ := hp.at_ (m := 0) ho'
    rw [Nat.zero_add] at hop
    have hpast : ∀ q d, (reach md ops q).contains i = true → dstOf ops q = some d → tellI Gs q (a.tmps.getD d undef) w := fun q d hq hd =>
      hu.v q ((reach_sound (by simpa using hq)).not_ready hcl hi) d hd
    have hstep := hop a w hu.s hu.fr hpast
    have hstab : ∀ q d, dstOf ops q = some d → ∀ v w w', tellI Gs q v w → Below w.heap.size w w' → tellI Gs q v w' := by
      intro q d hq v w w' hv hb
      cases ho2 : rest[q]? with
      | none => unfold dstOf at hq; rw [hops] at hq; simp [ho2] at hq
      | some o2 =>
        obtain ⟨G2, hG2, hst2, _⟩ := hp.at_ (m := 0) ho2
        unfold tellI at *
        rw [hG2] at hv ⊢
        exact hst2 v w w' hv hb
    have hput : ∀ v w', G v w' → Below w.heap.size w w' → wpAny P md ops Q fuel (listed.setIfInBounds i true) (a.put o.dst v) w' := by
      intro v w' hg hb
      refine ih _ _ _ (by simpa using hsz) (hcl.set hi) (by omega) ⟨hS _ _ hu.s hb, ?_, ?_⟩
      · cases hd : o.dst with
        | none => exact ⟨hu.fr.defers, hu.fr.size, hu.fr.keep⟩
        | some d =>
          refine ⟨hu.fr.defers, by simp [Act.put, hu.fr.size], fun t ht => ?_⟩
          have hne : d ≠ t := fun e => by
            have := (Array.all_eq_true_iff_forall_mem.1 ht) o (Array.mem_of_getElem? ho)
            rw [hd, e] at this
            simp at this
          rw [← hu.fr.keep t ht]
          simp [Act.put, Array.getElem?_setIfInBounds, hne]
      · intro q hq d' hd'
        by_cases hqi : i = q
        · subst hqi
          have hd : o.dst = some d' := by unfold dstOf at hd'; rw [ho] at hd'; exact hd'
          have hlt := chkI_lt hc ho hd
          rw [hd]
          have : ((a.put (some d') v).tmps.getD d' undef) = v := by
            have h2 : d' < a.tmps.size := by rw [hu.fr.size]; exact hlt
            simp [Act.put, h2]
          rw [this]
          unfold tellI
          rw [hG]
          exact hg
        · rw [getD_set_ne false hqi] at hq
          have h3 := hstab q d' hd' _ _ _ (hu.v q hq d' hd') hb
          cases hd : o.dst with
          | none => exact h3
          | some d =>
            have hne := chkI_ne hc ho hd hd' hqi
            have : ((a.put (some d) v).tmps.getD d' undef) = a.tmps.getD d' undef := by simp [Act.put, Array.getElem?_setIfInBounds, hne]
            rw [this]
            exact h3
    unfold Go.wpOp
    simp only [ho]
    rcases hstep with ⟨hw, hg⟩ | ⟨hw, hwp⟩
    · unfold wants at hw
      rw [hw]
      simp only [Bool.false_eq_true, if_false]
      exact hput _ _ hg (Below.refl _ _)
    · unfold wants at hw
      rw [hw]
      simp only [if_true]
      exact .inl (Oper.wp_mono (fun a' w' ⟨v, e, hg, hb⟩ => by rw [e]; exact hput v w' hg hb) hwp)
theorem rep_false (n i : Nat) : (Array.replicate n false).getD i false = false := by
  by_cases h : i < n <;> simp [Array.getElem?_replicate, h]
/-- a region that draws its order -/
theorem wp_inv {id : Nat} {rest : List Oper} {w : World} (Gs : List Told) (hm : P.follows .mixedOrders = true) (hc : chkI .any rest.toArray a0.tmps.size = true) (hS : ∀ w w', S w → Below w.heap.size w w' → S w') (h0 : S w)
    (hp : PlanI P rest.toArray Q S (tellI Gs) a0 .any 0 rest Gs) (hend : ∀ a w, S w → Fr rest.toArray a0 a → (∀ i d, dstOf rest.toArray i = some d → tellI Gs i (a.tmps.getD d undef) w) → Q .normal a w) :
    (Code.region id rest.toArray true).wp P Q a0 w := by
  refine wp_region_any hm (inv_sound (Gs := Gs) rfl hc hS hp hend _ _ _ _ (by simp) ?_ ?_ ⟨hS w w.drew h0 (Below.refl _ _).drew, ⟨rfl, rfl, fun _ _ => rfl⟩, fun i hi => ?_⟩)
  · intro j oj _ hl
    rw [rep_false] at hl
    cases hl
  · unfold cntI
    exact Nat.le_trans (List.length_filter_le _ _) (by simp)
  · rw [rep_false] at hi
    cases hi
end
end Go.Proofs.Ytnaiflokmihmeaa
