/- A region in whatever order it is drawn, whose last few operations wait for all that stand ahead of them: these may do what they like. -/
import Derived.Test.YtnaiflokmihmeaaMgD
namespace Go.Proofs.Ytnaiflokmihmeaa
open Go.RowKit
set_option linter.unusedVariables false
set_option linter.unusedSimpArgs false

/-- operations one after another -/
def chainW (P : Program) (ops : Array Oper) (Q : Exit → Act → World → Prop) : List Oper → Act → World → Prop
  | [], a, w => Q .normal a w
  | o :: r, a, w => wants ops o a = true ∧ o.wp P a w (fun a' w' => chainW P ops Q r a' w') Q
section
variable {P : Program} {ops : Array Oper} {Q : Exit → Act → World → Prop} {S : World → Prop} {V : Nat → Told} {a0 : Act} {md : Region.Mode}
theorem chain_sound {n m : Nat} (hc : chkI md ops n = true) (hwait : ∀ i j, i < j → m ≤ j → j < ops.size → (reach md ops i).contains j = true) :
    ∀ (post : List Oper) (k : Nat) (fuel : Nat) (listed : Array Bool) (a : Act) (w : World), m ≤ k → ops.toList.drop k = post → listed.size = ops.size → Closed md ops listed → cntI listed ops.size ≤ fuel → (∀ q, q < k → q < ops.size → listed.getD q false = true) → (∀ q, k ≤ q → listed.getD q false = false) → chainW P ops Q post a w → wpAny P md ops Q fuel listed a w
  | [], k, fuel, listed, a, w, hmk, hd, hsz, hcl, hcnt, hlo, hhi, hq => by
    have hk : ops.size ≤ k := by have := List.drop_eq_nil_iff.1 hd; simpa using this
    have hr0 : Region.ready md ops listed = [] := by
      refine List.eq_nil_iff_forall_not_mem.2 fun q hq => ?_
      obtain ⟨hql, oq, hoq, _⟩ := mem_ready.1 hq
      have hqs := (Array.getElem?_eq_some_iff.1 hoq).1
      have h1 := hlo q (by omega) hqs
      have h3 := getD_tf hql
      rw [h1] at h3; cases h3
    cases fuel with
    | zero => exact ⟨hr0, hq⟩
    | succ f => exact ⟨fun _ => hq, fun q hq2 => by rw [hr0] at hq2; cases hq2⟩
  | o :: r, k, fuel, listed, a, w, hmk, hd, hsz, hcl, hcnt, hlo, hhi, hq => by
    have hk : k < ops.size := by
      rcases Nat.lt_or_ge k ops.size with h' | h'
      · exact h'
      · rw [List.drop_eq_nil_of_le (by simpa using h')] at hd; cases hd
    have hok : ops[k]? = some o := by
      rw [← Array.getElem?_toList]
      have := congrArg (fun l => l[0]?) hd
      simpa [List.getElem?_drop] using this
    have hdr : ops.toList.drop (k + 1) = r := by
      have := congrArg List.tail hd
      simpa [List.tail_drop] using this
    have hcnt' := cntI_set hsz hk (hhi k (Nat.le_refl _))
    cases fuel with
    | zero => omega
    | succ f =>
      refine ⟨fun hr => (by have := ready_none hc hsz hr k hk; rw [hhi k (Nat.le_refl _)] at this; cases this), fun i hi => ?_⟩
      obtain ⟨hl, oi, ho, ha⟩ := mem_ready.1 hi
      have hil := (Array.getElem?_eq_some_iff.1 ho).1
      have hik : i = k := by
        rcases Nat.lt_trichotomy i k with h1 | h1 | h1
        · have h2 := hlo i h1 hil
          have h3 := getD_tf hl
          rw [h2] at h3; cases h3
        · exact h1
        · have h2 : listed.getD k false = true := (reach_sound (by have := hwait k i h1 (by omega) hil; simpa using this)).not_ready hcl hi
          rw [hhi k (Nat.le_refl _)] at h2; cases h2
      subst hik
      have ho2 : oi = o := by rw [hok] at ho; exact (Option.some.inj ho).symm
      subst ho2
      obtain ⟨hw, hwp⟩ := hq
      unfold Go.wpOp
      simp only [hok]
      unfold wants at hw
      rw [hw]
      simp only [if_true]
      refine .inl (Oper.wp_mono (fun a' w' hq' => ?_) hwp)
      refine chain_sound hc hwait r (i + 1) f _ a' w' (by omega) hdr (by simpa using hsz) (hcl.set hi) (by omega) (fun q hq1 hq2 => ?_) (fun q hq1 => ?_) hq'
      · by_cases hqi : i = q
        · subst hqi; simp [hsz, hil]
        · rw [getD_set_ne false hqi]; exact hlo q (by omega) hq2
      · rw [getD_set_ne false (by omega)]; exact hhi q (by omega)
theorem inv_sound_chain {rest post : List Oper} {n : Nat} {Gs : List Told} (hops : ops = rest.toArray) (hpost : rest.drop n = post) (hn : n ≤ rest.length) (hwait : ∀ i j, i < j → n ≤ j → j < ops.size → (reach md ops i).contains j = true) (hc : chkI md ops a0.tmps.size = true) (hGs : ∀ q, n ≤ q → Gs[q]? = none) (hS : ∀ w w', S w → Below w.heap.size w w' → S w')
    (hp : PlanI P ops Q S (tellI Gs) a0 md 0 (rest.take n) Gs) (hlast : ∀ a w, S w → Fr ops a0 a → (∀ i d, i < n → dstOf ops i = some d → tellI Gs i (a.tmps.getD d undef) w) → chainW P ops Q post a w) :
    ∀ (fuel : Nat) (listed : Array Bool) (a : Act) (w : World), listed.size = ops.size → Closed md ops listed → cntI listed ops.size ≤ fuel → Upon ops S (tellI Gs) a0 listed a w → (∀ q, n ≤ q → listed.getD q false = false) → wpAny P md ops Q fuel listed a w := by
  have hsize : n ≤ ops.size := by rw [hops]; simpa using hn
  intro fuel
  induction fuel with
  | zero =>
    intro listed a w hsz hcl hcnt hu hhi
    by_cases hall : ∀ q, q < n → listed.getD q false = true
    · exact chain_sound hc hwait post n _ listed a w (Nat.le_refl _) (by rw [hops]; exact hpost) hsz hcl hcnt (fun q hq _ => hall q hq) hhi (hlast a w hu.s hu.fr fun i d hi hd => hu.v i (hall i hi) d hd)
    · exfalso
      obtain ⟨q, hq⟩ := Classical.not_forall.1 hall
      obtain ⟨hq1, hq2⟩ := Classical.not_imp.1 hq
      have := cntI_set hsz (i := q) (by omega) (by simpa using hq2)
      omega
  | succ fuel ih =>
    intro listed a w hsz hcl hcnt hu hhi
    by_cases hall : ∀ q, q < n → listed.getD q false = true
    · exact chain_sound hc hwait post n _ listed a w (Nat.le_refl _) (by rw [hops]; exact hpost) hsz hcl hcnt (fun q hq _ => hall q hq) hhi (hlast a w hu.s hu.fr fun i d hi hd => hu.v i (hall i hi) d hd)
    refine ⟨fun hr => absurd (fun q hq => ready_none hc hsz hr q (by omega)) hall, fun i hi => ?_⟩
    obtain ⟨hl, o, ho, ha⟩ := mem_ready.1 hi
    have hil := (Array.getElem?_eq_some_iff.1 ho).1
    have hl' : listed.getD i false = false := by simp [hsz, hil] at hl ⊢; exact hl
    have hcnt' := cntI_set hsz hil hl'
    have hin : i < n := by
      rcases Nat.lt_or_ge i n with h' | h'
      · exact h'
      · exact absurd (fun q hq => (reach_sound (by have := hwait q i (by omega) h' hil; simpa using this)).not_ready hcl hi) hall
    have ho' : (rest.take n)[i]? = some o := by
      rw [List.getElem?_take, if_pos hin]
      rw [hops] at ho
      simpa using ho
    obtain ⟨G, hG, hst, hop⟩ := hp.at_ (m := 0) ho'
    rw [Nat.zero_add] at hop
    have hpast : ∀ q d, (reach md ops q).contains i = true → dstOf ops q = some d → tellI Gs q (a.tmps.getD d undef) w := fun q d hq hd =>
      hu.v q ((reach_sound (by simpa using hq)).not_ready hcl hi) d hd
    have hstep := hop a w hu.s hu.fr hpast
    have hstab : ∀ q d, dstOf ops q = some d → ∀ v w w', tellI Gs q v w → Below w.heap.size w w' → tellI Gs q v w' := by
      intro q d hq v w w' hv hb
      cases ho2 : (rest.take n)[q]? with
      | none =>
        unfold tellI
        have hG0 : Gs[q]? = none := by
          refine hGs q ?_
          have h1 := List.getElem?_eq_none_iff.1 ho2
          rw [List.length_take] at h1
          omega
        rw [hG0]; trivial
      | some o2 =>
        obtain ⟨G2, hG2, hst2, _⟩ := hp.at_ (m := 0) ho2
        unfold tellI at *
        rw [hG2] at hv ⊢
        exact hst2 v w w' hv hb
    have hput : ∀ v w', G v w' → Below w.heap.size w w' → wpAny P md ops Q fuel (listed.setIfInBounds i true) (a.put o.dst v) w' := by
      intro v w' hg hb
      refine ih _ _ _ (by simpa using hsz) (hcl.set hi) (by omega) ⟨hS _ _ hu.s hb, ?_, ?_⟩ (fun q hq => by rw [getD_set_ne false (by omega)]; exact hhi q hq)
      · cases hd : o.dst with
        | none => exact ⟨hu.fr.defers, hu.fr.size, hu.fr.keep⟩
        | some d =>
          refine ⟨hu.fr.defers, by simp [Act.put, hu.fr.size], fun t ht => ?_⟩
          have hne : d ≠ t := fun e => by
            have := (Array.all_eq_true_iff_forall_mem.1 ht) o (Array.mem_of_getElem? ho)
            rw [hd, e] at this
            simp at this
          rw [← hu.fr.keep t ht]
          simp [Act.put, Array.getElem?_setIfInBounds, hne]
      · intro q hq d' hd'
        by_cases hqi : i = q
        · subst hqi
          have hd : o.dst = some d' := by unfold dstOf at hd'; rw [ho] at hd'; exact hd'
          have hlt := chkI_lt hc ho hd
          rw [hd]
          have : ((a.put (some d') v).tmps.getD d' undef) = v := by
            have h2 : d' < a.tmps.size := by rw [hu.fr.size]; exact hlt
            simp [Act.put, h2]
          rw [this]
          unfold tellI
          rw [hG]
          exact hg
        · rw [getD_set_ne false hqi] at hq
          have h3 := hstab q d' hd' _ _ _ (hu.v q hq d' hd') hb
          cases hd : o.dst with
          | none => exact h3
          | some d =>
            have hne := chkI_ne hc ho hd hd' hqi
            have : ((a.put (some d) v).tmps.getD d' undef) = a.tmps.getD d' undef := by simp [Act.put, Array.getElem?_setIfInBounds, hne]
            rw [this]
            exact h3
    unfold Go.wpOp
    simp only [ho]
    rcases hstep with ⟨hw, hg⟩ | ⟨hw, hwp⟩
    · unfold wants at hw
      rw [hw]
      simp only [Bool.false_eq_true, if_false]
      exact hput _ _ hg (Below.refl _ _)
    · unfold wants at hw
      rw [hw]
      simp only [if_true]
      exact .inl (Oper.wp_mono (fun a' w' ⟨v, e, hg, hb⟩ => by rw [e]; exact hput v w' hg hb) hwp)
/-- the first n operations of a region that draws its order, by a plan; the others, of which each waits for all that stand ahead of it, one after another -/
theorem wp_inv_chain {id : Nat} {rest post : List Oper} {w : World} (n : Nat) (Gs : List Told) (hpost : rest.drop n = post) (hm : P.follows .mixedOrders = true) (hc : chkI .any rest.toArray a0.tmps.size = true)
    (hwait : (decide (n ≤ rest.length) && (List.range rest.length).all fun j => decide (j < n) || (List.range j).all fun i => (reach .any rest.toArray i).contains j) = true) (hGs : decide (Gs.length ≤ n) = true)
    (hS : ∀ w w', S w → Below w.heap.size w w' → S w') (h0 : S w)
    (hp : PlanI P rest.toArray Q S (tellI Gs) a0 .any 0 (rest.take n) Gs) (hlast : ∀ a w, S w → Fr rest.toArray a0 a → (∀ i d, i < n → dstOf rest.toArray i = some d → tellI Gs i (a.tmps.getD d undef) w) → chainW P rest.toArray Q post a w) :
    (Code.region id rest.toArray true).wp P Q a0 w := by
  rw [Bool.and_eq_true, decide_eq_true_eq] at hwait
  have hw2 : ∀ i j, i < j → n ≤ j → j < rest.toArray.size → (reach .any rest.toArray i).contains j = true := by
    intro i j hij hnj hj
    have h1 := List.all_eq_true.1 hwait.2 j (by simpa using hj)
    rw [Bool.or_eq_true] at h1
    rcases h1 with h1 | h1
    · simp at h1; omega
    · exact List.all_eq_true.1 h1 i (by simpa using hij)
  refine wp_region_any hm (inv_sound_chain (Gs := Gs) rfl hpost hwait.1 hw2 hc (fun q hq => List.getElem?_eq_none (Nat.le_trans (of_decide_eq_true hGs) hq)) hS hp hlast _ _ _ _ (by simp) ?_ ?_ ⟨hS w w.drew h0 (Below.refl _ _).drew, ⟨rfl, rfl, fun _ _ => rfl⟩, fun i hi => ?_⟩ (fun q _ => rep_false _ _))
  · intro j oj _ hl
    rw [rep_false] at hl
    cases hl
  · unfold cntI
    exact Nat.le_trans (List.length_filter_le _ _) (by simp)
  · rw [rep_false] at hi
    cases hi
/-! ### the same, where only the slots that the first operations write are in question -/
structure UponJ (ops fops : Array Oper) (S : World → Prop) (V : Nat → Told) (a0 : Act) (listed : Array Bool) (a : Act) (w : World) : Prop where
  s : S w
  fr : Fr fops a0 a
  v : ∀ i, listed.getD i false = true → ∀ d, dstOf ops i = some d → V i (a.tmps.getD d undef) w
def OpJ (P : Program) (ops fops : Array Oper) (Q : Exit → Act → World → Prop) (S : World → Prop) (V : Nat → Told) (a0 : Act) (md : Region.Mode) (k : Nat) (o : Oper) (G : Told) : Prop :=
  (∀ v w w', G v w → Below w.heap.size w w' → G v w') ∧
  ∀ a w, S w → Fr fops a0 a → (∀ i d, (reach md ops i).contains k = true → dstOf ops i = some d → V i (a.tmps.getD d undef) w) → StepI P ops Q o G a w
def PlanJ (P : Program) (ops fops : Array Oper) (Q : Exit → Act → World → Prop) (S : World → Prop) (V : Nat → Told) (a0 : Act) (md : Region.Mode) : Nat → List Oper → List Told → Prop
  | _, [], _ => True
  | k, o :: rest, G :: Gs => OpJ P ops fops Q S V a0 md k o G ∧ PlanJ P ops fops Q S V a0 md (k + 1) rest Gs
  | _, _ :: _, [] => False
theorem PlanJ.at_ {fops : Array Oper} : ∀ {m k : Nat} {rest : List Oper} {Gs : List Told}, PlanJ P ops fops Q S V a0 md k rest Gs → ∀ {i : Nat} {o : Oper}, rest[i]? = some o → ∃ G, Gs[i]? = some G ∧ OpJ P ops fops Q S V a0 md (k + i) o G
  | m, k, [], Gs, h, i, o, hi => by simp at hi
  | m, k, x :: rest, [], h, i, o, hi => h.elim
  | m, k, x :: rest, G :: Gs, h, 0, o, hi => by simp at hi; subst hi; exact ⟨G, rfl, h.1⟩
  | m, k, x :: rest, G :: Gs, h, i + 1, o, hi => by
    simp at hi
    obtain ⟨G', h1, h2⟩ := PlanJ.at_ (m := m) h.2 hi
    exact ⟨G', by simpa using h1, by rw [show k + (i + 1) = k + 1 + i by omega]; exact h2⟩
theorem PlanJ.nil {fops : Array Oper} {n : Nat} : PlanJ P ops fops Q S V a0 md n [] [] := trivial
theorem PlanJ.cons {fops : Array Oper} {n : Nat} {o : Oper} {G : Told} {rest : List Oper} {Gs : List Told} (h : OpJ P ops fops Q S V a0 md n o G) (ht : PlanJ P ops fops Q S V a0 md (n + 1) rest Gs) : PlanJ P ops fops Q S V a0 md n (o :: rest) (G :: Gs) := ⟨h, ht⟩
theorem OpJ.mk {fops : Array Oper} {k : Nat} {o : Oper} {G : Told} (hst : ∀ v w w', G v w → Below w.heap.size w w' → G v w')
    (h : ∀ a w, S w → Fr fops a0 a → (∀ i d, (reach md ops i).contains k = true → dstOf ops i = some d → V i (a.tmps.getD d undef) w) → StepI P ops Q o G a w) : OpJ P ops fops Q S V a0 md k o G := ⟨hst, h⟩
theorem OpJ.mkV {fops : Array Oper} {k : Nat} {o : Oper} {v : Value} (h : ∀ a w, S w → Fr fops a0 a → (∀ i d, (reach md ops i).contains k = true → dstOf ops i = some d → V i (a.tmps.getD d undef) w) → StepI P ops Q o (isV v) a w) : OpJ P ops fops Q S V a0 md k o (isV v) := ⟨fun _ _ _ h _ => h, h⟩
theorem inv_sound_chainJ {fops : Array Oper} {rest post : List Oper} {n : Nat} {Gs : List Told} (hops : ops = rest.toArray) (hfo : fops = (rest.take n).toArray) (hpost : rest.drop n = post) (hn : n ≤ rest.length) (hwait : ∀ i j, i < j → n ≤ j → j < ops.size → (reach md ops i).contains j = true) (hc : chkI md ops a0.tmps.size = true) (hGs : ∀ q, n ≤ q → Gs[q]? = none) (hS : ∀ w w', S w → Below w.heap.size w w' → S w')
    (hp : PlanJ P ops fops Q S (tellI Gs) a0 md 0 (rest.take n) Gs) (hlast : ∀ a w, S w → Fr fops a0 a → (∀ i d, i < n → dstOf ops i = some d → tellI Gs i (a.tmps.getD d undef) w) → chainW P ops Q post a w) :
    ∀ (fuel : Nat) (listed : Array Bool) (a : Act) (w : World), listed.size = ops.size → Closed md ops listed → cntI listed ops.size ≤ fuel → UponJ ops fops S (tellI Gs) a0 listed a w → (∀ q, n ≤ q → listed.getD q false = false) → wpAny P md ops Q fuel listed a w := by
  have hsize : n ≤ ops.size := by rw [hops]; simpa using hn
  intro fuel
  induction fuel with
  | zero =>
    intro listed a w hsz hcl hcnt hu hhi
    by_cases hall : ∀ q, q < n → listed.getD q false = true
    · exact chain_sound hc hwait post n _ listed a w (Nat.le_refl _) (by rw [hops]; exact hpost) hsz hcl hcnt (fun q hq _ => hall q hq) hhi (hlast a w hu.s hu.fr fun i d hi hd => hu.v i (hall i hi) d hd)
    · exfalso
      obtain ⟨q, hq⟩ := Classical.not_forall.1 hall
      obtain ⟨hq1, hq2⟩ := Classical.not_imp.1 hq
      have := cntI_set hsz (i := q) (by omega) (by simpa using hq2)
      omega
  | succ fuel ih =>
    intro listed a w hsz hcl hcnt hu hhi
    by_cases hall : ∀ q, q < n → listed.getD q false = true
    · exact chain_sound hc hwait post n _ listed a w (Nat.le_refl _) (by rw [hops]; exact hpost) hsz hcl hcnt (fun q hq _ => hall q hq) hhi (hlast a w hu.s hu.fr fun i d hi hd => hu.v i (hall i hi) d hd)
    refine ⟨fun hr => absurd (fun q hq => ready_none hc hsz hr q (by omega)) hall, fun i hi => ?_⟩
    obtain ⟨hl, o, ho, ha⟩ := mem_ready.1 hi
    have hil := (Array.getElem?_eq_some_iff.1 ho).1
    have hl' : listed.getD i false = false := by simp [hsz, hil] at hl ⊢; exact hl
    have hcnt' := cntI_set hsz hil hl'
    have hin : i < n := by
      rcases Nat.lt_or_ge i n with h' | h'
      · exact h'
      · exact absurd (fun q hq => (reach_sound (by have := hwait q i (by omega) h' hil; simpa using this)).not_ready hcl hi) hall
    have ho' : (rest.take n)[i]? = some o := by
      rw [List.getElem?_take, if_pos hin]
      rw [hops] at ho
      simpa using ho
    obtain ⟨G, hG, hst, hop⟩ := hp.at_ (m := 0) ho'
    rw [Nat.zero_add] at hop
    have hpast : ∀ q d, (reach md ops q).contains i = true → dstOf ops q = some d → tellI Gs q (a.tmps.getD d undef) w := fun q d hq hd =>
      hu.v q ((reach_sound (by simpa using hq)).not_ready hcl hi) d hd
    have hstep := hop a w hu.s hu.fr hpast
    have hstab : ∀ q d, dstOf ops q = some d → ∀ v w w', tellI Gs q v w → Below w.heap.size w w' → tellI Gs q v w' := by
      intro q d hq v w w' hv hb
      cases ho2 : (rest.take n)[q]? with
      | none =>
        unfold tellI
        have hG0 : Gs[q]? = none := by
          refine hGs q ?_
          have h1 := List.getElem?_eq_none_iff.1 ho2
          rw [List.length_take] at h1
          omega
        rw [hG0]; trivial
      | some o2 =>
        obtain ⟨G2, hG2, hst2, _⟩ := hp.at_ (m := 0) ho2
        unfold tellI at *
        rw [hG2] at hv ⊢
        exact hst2 v w w' hv hb
    have hput : ∀ v w', G v w' → Below w.heap.size w w' → wpAny P md ops Q fuel (listed.setIfInBounds i true) (a.put o.dst v) w' := by
      intro v w' hg hb
      refine ih _ _ _ (by simpa using hsz) (hcl.set hi) (by omega) ⟨hS _ _ hu.s hb, ?_, ?_⟩ (fun q hq => by rw [getD_set_ne false (by omega)]; exact hhi q hq)
      · cases hd : o.dst with
        | none => exact ⟨hu.fr.defers, hu.fr.size, hu.fr.keep⟩
        | some d =>
          refine ⟨hu.fr.defers, by simp [Act.put, hu.fr.size], fun t ht => ?_⟩
          have hne : d ≠ t := fun e => by
            have := (Array.all_eq_true_iff_forall_mem.1 ht) o (by rw [hfo]; simpa using List.mem_of_getElem? ho')
            rw [hd, e] at this
            simp at this
          rw [← hu.fr.keep t ht]
          simp [Act.put, Array.getElem?_setIfInBounds, hne]
      · intro q hq d' hd'
        by_cases hqi : i = q
        · subst hqi
          have hd : o.dst = some d' := by unfold dstOf at hd'; rw [ho] at hd'; exact hd'
          have hlt := chkI_lt hc ho hd
          rw [hd]
          have : ((a.put (some d') v).tmps.getD d' undef) = v := by
            have h2 : d' < a.tmps.size := by rw [hu.fr.size]; exact hlt
            simp [Act.put, h2]
          rw [this]
          unfold tellI
          rw [hG]
          exact hg
        · rw [getD_set_ne false hqi] at hq
          have h3 := hstab q d' hd' _ _ _ (hu.v q hq d' hd') hb
          cases hd : o.dst with
          | none => exact h3
          | some d =>
            have hne := chkI_ne hc ho hd hd' hqi
            have : ((a.put (some d) v).tmps.getD d' undef) = a.tmps.getD d' undef := by simp [Act.put, Array.getElem?_setIfInBounds, hne]
            rw [this]
            exact h3
    unfold Go.wpOp
    simp only [ho]
    rcases hstep with ⟨hw, hg⟩ | ⟨hw, hwp⟩
    · unfold wants at hw
      rw [hw]
      simp only [Bool.false_eq_true, if_false]
      exact hput _ _ hg (Below.refl _ _)
    · unfold wants at hw
      rw [hw]
      simp only [if_true]
      exact .inl (Oper.wp_mono (fun a' w' ⟨v, e, hg, hb⟩ => by rw [e]; exact hput v w' hg hb) hwp)
/-- .. the first n operations of a region that draws its order, by a plan; the others, of which each waits for all that stand ahead of it, one after another -/
theorem wp_inv_chainJ {id : Nat} {rest post : List Oper} {w : World} (n : Nat) (Gs : List Told) (hpost : rest.drop n = post) (hm : P.follows .mixedOrders = true) (hc : chkI .any rest.toArray a0.tmps.size = true)
    (hwait : (decide (n ≤ rest.length) && (List.range rest.length).all fun j => decide (j < n) || (List.range j).all fun i => (reach .any rest.toArray i).contains j) = true) (hGs : decide (Gs.length ≤ n) = true)
    (hS : ∀ w w', S w → Below w.heap.size w w' → S w') (h0 : S w)
    (hp : PlanJ P rest.toArray (rest.take n).toArray Q S (tellI Gs) a0 .any 0 (rest.take n) Gs) (hlast : ∀ a w, S w → Fr (rest.take n).toArray a0 a → (∀ i d, i < n → dstOf rest.toArray i = some d → tellI Gs i (a.tmps.getD d undef) w) → chainW P rest.toArray Q post a w) :
    (Code.region id rest.toArray true).wp P Q a0 w := by
  rw [Bool.and_eq_true, decide_eq_true_eq] at hwait
  have hw2 : ∀ i j, i < j → n ≤ j → j < rest.toArray.size → (reach .any rest.toArray i).contains j = true := by
    intro i j hij hnj hj
    have h1 := List.all_eq_true.1 hwait.2 j (by simpa using hj)
    rw [Bool.or_eq_true] at h1
    rcases h1 with h1 | h1
    · simp at h1; omega
    · exact List.all_eq_true.1 h1 i (by simpa using hij)
  refine wp_region_any hm (inv_sound_chainJ (Gs := Gs) rfl rfl hpost hwait.1 hw2 hc (fun q hq => List.getElem?_eq_none (Nat.le_trans (of_decide_eq_true hGs) hq)) hS hp hlast _ _ _ _ (by simp) ?_ ?_ ⟨hS w w.drew h0 (Below.refl _ _).drew, ⟨rfl, rfl, fun _ _ => rfl⟩, fun i hi => ?_⟩ (fun q _ => rep_false _ _))
  · intro j oj _ hl
    rw [rep_false] at hl
    cases hl
  · unfold cntI
    exact Nat.le_trans (List.length_filter_le _ _) (by simp)
  · rw [rep_false] at hi
    cases hi
end
end Go.Proofs.Ytnaiflokmihmeaa
