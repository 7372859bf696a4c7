/- Joined texts. -/
import Derived.Test.YtbgifinfflehmaaDoorBunSeq

/- A region whose order is drawn, looked at in an order of one's own. -/
namespace Go.Proofs.YtbgifinfflehmaaDoor
open Go.RowKit
set_option linter.unusedVariables false
set_option linter.unusedSimpArgs false

section
variable {P : Program} {ops : Array Oper} {W : World} {l : List Own} {md : Region.Mode} {Q : Exit → Act → World → Prop}
def chkO (md : Region.Mode) (ops : Array Oper) (gs : List Nat) (ord : List Nat) : Bool :=
  ops.all noSel && !gs.contains 3000000 && decide (ord.length = ops.size) && ((List.range ops.size).all fun j => ord.contains j) && (List.range ops.size).all fun k => match ord[k]? with
    | none => false
    | some i => !(ord.take k).contains i && match ops[i]? with
      | none => false
      | some oi => (oi.after.all fun e => !Region.binds md e || (ord.take k).contains e.on) &&
        let m := reach md ops i
        (ord.drop (k + 1)).all fun j => m.contains j || match ops[j]? with
          | none => true
          | some oj => oi.apart ops oj && compat (kd gs k oi) oj
def pick (L : List Oper) (ord : List Nat) : List Oper := ord.map fun i => (L[i]?).getD default
def uptoO (ord : List Nat) (n k : Nat) : Array Bool := ((List.range n).map fun j => (ord.take k).contains j).toArray
theorem uptoO_getD (ord : List Nat) (n k j : Nat) (d : Bool) : (uptoO ord n k).getD j d = if j < n then (ord.take k).contains j else d := by
  unfold uptoO
  by_cases h : j < n <;> simp [h]
theorem uptoO_set {ord : List Nat} {n k i : Nat} (hi : i < n) (hk : ord[k]? = some i) : (uptoO ord n k).setIfInBounds i true = uptoO ord n (k + 1) := by
  apply Array.ext
  · simp [uptoO]
  · intro j h1 h2
    simp only [uptoO, Array.size_setIfInBounds, List.size_toArray, List.length_map, List.length_range] at h1 h2
    rw [Array.getElem_setIfInBounds (by simpa [uptoO] using h1)]
    have e : ord.take (k + 1) = ord.take k ++ [i] := by rw [List.take_add_one, hk]; rfl
    by_cases hij : i = j
    · subst hij; simp [uptoO, e]
    · simp [uptoO, e, hij]
      intro h; exact absurd h.symm hij
theorem uptoO_zero (ord : List Nat) (n : Nat) : Array.replicate n false = uptoO ord n 0 := by
  apply Array.ext
  · simp [uptoO]
  · intro i h1 h2; simp [uptoO]

theorem Seq.detO {gs ord : List Nat} (hc : chkO md ops gs ord = true) (hex : ∃ w, St W l w) : ∀ (m k : Nat) (a : Act) (R : Reg), k + m = ops.size → R.fin →
    Seq P ops Q W l gs k ((pick ops.toList ord).drop k) a R → Det P md ops Q W l m (uptoO ord ops.size k) a R := by
  simp only [chkO, Bool.and_eq_true, List.all_eq_true, List.mem_range, Bool.not_eq_true', decide_eq_true_eq] at hc
  obtain ⟨⟨⟨⟨hs, hno⟩, hlen⟩, hcov⟩, hc⟩ := hc
  have hsel : ∀ (j : Nat) (o : Oper), ops[j]? = some o → noSel o = true := fun j o h => Array.all_eq_true_iff_forall_mem.1 hs o (Array.mem_of_getElem? h)
  -- what the check says of a place
  have at_ : ∀ k, k < ops.size → ∃ i oi, ord[k]? = some i ∧ ops[i]? = some oi ∧ (ord.take k).contains i = false ∧ (∀ e ∈ oi.after, Region.binds md e = true → (ord.take k).contains e.on = true) ∧
      ∀ j ∈ ord.drop (k + 1), (reach md ops i).contains j = true ∨ ∀ oj, ops[j]? = some oj → oi.apart ops oj = true ∧ compat (kd gs k oi) oj = true := by
    intro k hk
    have h := hc k hk
    cases ho : ord[k]? with
    | none => rw [ho] at h; cases h
    | some i =>
      rw [ho] at h
      simp only [Bool.and_eq_true, Bool.not_eq_true'] at h
      obtain ⟨h1, h2⟩ := h
      cases hi : ops[i]? with
      | none => rw [hi] at h2; cases h2
      | some oi =>
        rw [hi] at h2
        simp only [Bool.and_eq_true, List.all_eq_true, Bool.or_eq_true] at h2
        refine ⟨i, oi, rfl, hi, h1, fun e he hb => ?_, fun j hj => ?_⟩
        · have h3 := Array.all_eq_true'.1 h2.1 e he
          rw [hb] at h3
          simpa using h3
        · rcases h2.2 j hj with h3 | h3
          · exact .inl h3
          · right
            intro oj hoj
            rw [hoj] at h3
            simpa using h3
  intro m
  induction m with
  | zero =>
    intro k a R hk hR h
    rw [List.drop_of_length_le (by simp [pick]; omega)] at h
    refine ⟨?_, h⟩
    rw [List.eq_nil_iff_forall_not_mem]
    intro j hj
    obtain ⟨h1, o, ho, _⟩ := mem_ready.1 hj
    obtain ⟨hlt, _⟩ := Array.getElem?_eq_some_iff.1 ho
    rw [uptoO_getD, if_pos hlt] at h1
    have h2 := hcov j hlt
    rw [List.take_of_length_le (by omega)] at h1
    rw [h2] at h1; cases h1
  | succ m ih =>
    intro k a R hk hR h
    have hkn : k < ops.size := by omega
    obtain ⟨i, oi, hoi, hop, hnin, haft, hlater⟩ := at_ k hkn
    obtain ⟨hil, hie⟩ := Array.getElem?_eq_some_iff.1 hop
    have hkl : k < ord.length := by omega
    have hpk : (pick ops.toList ord)[k]? = some oi := by
      unfold pick
      rw [List.getElem?_map, hoi]
      simp [hop]
    have hd : (pick ops.toList ord).drop k = oi :: (pick ops.toList ord).drop (k + 1) := by
      obtain ⟨h5, h6⟩ := List.getElem?_eq_some_iff.1 hpk
      rw [List.drop_eq_getElem_cons h5, h6]
    rw [hd] at h
    rcases h with h | ⟨h, -⟩
    case inr => rw [hno] at h; cases h
    refine Det.take (i := i) (oi := oi) (k := kd gs k oi) hop hsel hex m _ a R hR ?_ ?_ ?_ ?_
    · intro j oj hoj hl e he hb
      obtain ⟨hlt, _⟩ := Array.getElem?_eq_some_iff.1 hoj
      rw [uptoO_getD, if_pos hlt] at hl
      -- j stands at a place before k
      have hj : j ∈ ord.take k := by simpa using hl
      obtain ⟨q, hq, hqe⟩ := List.mem_iff_getElem.1 hj
      have hqk : q < k := by rw [List.length_take] at hq; omega
      obtain ⟨i', oi', h1, h2, -, h4, -⟩ := at_ q (by omega)
      have hij : i' = j := by
        rw [List.getElem_take] at hqe
        rw [List.getElem?_eq_getElem (by omega), hqe] at h1
        injection h1 with h1; exact h1.symm
      subst hij
      rw [hoj] at h2; injection h2 with h2; subst h2
      have h6 := h4 e he hb
      have h7 : e.on ∈ ord.take q := by simpa using h6
      have h8 : e.on ∈ ord.take k := (List.take_subset_take_left ord (by omega)) h7
      have h9 : e.on < ops.size := by
        obtain ⟨z, hz, hze⟩ := List.mem_iff_getElem.1 h7
        have hzq : z < q := by rw [List.length_take] at hz; omega
        obtain ⟨i2, oi2, g1, g2, -⟩ := at_ z (by omega)
        rw [List.getElem_take] at hze
        rw [List.getElem?_eq_getElem (by omega), hze] at g1
        injection g1 with g1
        rw [← g1] at g2
        exact (Array.getElem?_eq_some_iff.1 g2).1
      rw [uptoO_getD, if_pos h9]
      simpa using h8
    · intro j oj hoj hji hl
      obtain ⟨hlt, _⟩ := Array.getElem?_eq_some_iff.1 hoj
      rw [uptoO_getD, if_pos hlt] at hl
      have hjo : j ∈ ord := by have := hcov j hlt; simpa using this
      have hsplit : ord = ord.take k ++ (i :: ord.drop (k + 1)) := by
        obtain ⟨h5, h6⟩ := List.getElem?_eq_some_iff.1 hoi
        rw [← h6, ← List.drop_eq_getElem_cons h5, List.take_append_drop]
      have hjd : j ∈ ord.drop (k + 1) := by
        rw [hsplit] at hjo
        rcases List.mem_append.1 hjo with h5 | h5
        · rw [← Bool.not_eq_true] at hl; exact absurd (by simpa using h5) hl
        · rcases List.mem_cons.1 h5 with h6 | h6
          · exact absurd h6 hji
          · exact h6
      rcases hlater j hjd with h5 | h5
      · exact .inl (reach_sound (by simpa using h5))
      · exact .inr (h5 oj hoj)
    · refine mem_ready.2 ⟨by rw [uptoO_getD, if_pos hil]; exact hnin, oi, hop, fun e he hb => ?_⟩
      have h2 := haft e he hb
      have h7 : e.on ∈ ord.take k := by simpa using h2
      have h9 : e.on < ops.size := by
        obtain ⟨z, hz, hze⟩ := List.mem_iff_getElem.1 h7
        have hzq : z < k := by rw [List.length_take] at hz; omega
        obtain ⟨i2, oi2, g1, g2, -⟩ := at_ z (by omega)
        rw [List.getElem_take] at hze
        rw [List.getElem?_eq_getElem (by omega), hze] at g1
        injection g1 with g1
        rw [← g1] at g2
        exact (Array.getElem?_eq_some_iff.1 g2).1
      rw [uptoO_getD, if_pos h9]
      exact h2
    · rw [uptoO_set hil hoi]
      exact (StepK.fin hR h).mono fun a' R' h3 => ih (k + 1) a' R' (by omega) h3.1 h3.2
/-- a region that draws its order, looked at in the order ord -/
theorem wp_seq_ord {id : Nat} {rest : List Oper} {a : Act} {w : World} {R : Reg} (ord gs : List Nat) (hm : P.follows .mixedOrders = true) (hc : chkO .any rest.toArray gs ord = true) (hR : R.fin) (hw : StR W l R w)
    (h : Seq P rest.toArray Q W l gs 0 (pick rest ord) a R) : (Code.region id rest.toArray true).wp P Q a w := by
  have hw' : StR W l R w.drew := ⟨hw.st.drew, fun p t cs hp => ⟨(hw.reg p t cs hp).1, (hw.reg p t cs hp).2.1, (hw.reg p t cs hp).2.2.drew⟩⟩
  refine wp_region_any hm (Det.sound _ _ _ _ _ ?_ hw')
  rw [uptoO_zero ord]
  exact Seq.detO (gs := gs) hc ⟨w, hw.st⟩ _ 0 a R (by simp) hR (by simpa using h)
end
end Go.Proofs.YtbgifinfflehmaaDoor
