/- Cells: slices.BinarySearchFunc, grid.has (printed by gridp.py). -/
import Derived.Test.YtoejojfjiikogaaGreatDoorGrB
import Derived.Test.YtoejojfjiikogaaGreatDoorBunSeq

namespace Go.Proofs.YtoejojfjiikogaaGreatDoor
open Go.RowKit
set_option linter.unusedVariables false
set_option linter.unusedSimpArgs false

section
variable {P : Program} {ops : Array Oper} {W : World} {l : List Own} {Q : Exit → Act → World → Prop} {gs : List Nat} {k : Nat} {o : Oper} {rest : List Oper} {a : Act} {R : Reg}
/-- a call of a function that a slot holds -/
theorem Seq.callF {f : FuncId} {y : Operand} {xs : List Operand} {ts : Array TypeId} {vs : Array Value} {v : Value} (ho : o.op = .call { callee := .value y, args := xs.toArray, argTypes := ts }) (hy : a.eval y = .func (.func f) #[] #[]) (hk : kd gs k o = .val) (hw : wants ops o a = true)
    (hx : xs.map a.eval = vs.toList) (hf : goesIn P f = true)
    (hc : ∀ w, St W l w → Calls P f vs w (fun e w' => e = .returned v ∧ Below w.heap.size w w'))
    (h : Seq P ops Q W l gs (k + 1) rest (a.put o.dst v) R) : Seq P ops Q W l gs k (o :: rest) a R := by
  refine .inl (.inr ⟨hw, ?_⟩)
  rw [hk]
  refine ⟨v, .inr ⟨by simp [isCall, ho], fun w hs => ?_⟩, h⟩
  have key : ∀ ρ : Operand → Value, ρ y = .func (.func f) #[] #[] → xs.map ρ = vs.toList → (execOp ρ o).run P w = .ok (.enter f vs) w := by
    intro ρ h1 h2
    unfold goesIn at hf
    cases hp : P.funcs[f]? with
    | none => simp [hp] at hf
    | some fn =>
      simp only [hp, Bool.and_eq_true, bne_iff_ne, ne_eq] at hf
      have hb : fn.body.isNone = false := by cases hq : fn.body <;> simp_all
      have hv : (xs.map ρ).toArray = vs := by rw [h2]
      simp [execOp, ho, resolve, invoke, callFunc, Deferred.ofValue, h1, hp, hf.1, hb, hv, go_sem]
      intro hq; rw [hq] at hb; cases hb
  have hr := key a.eval hy hx
  rw [hr]
  exact ⟨Below.refl _ _, hc w hs⟩
end
/-- where a search stops -/
theorem bs_mem {xs : List Ft} (hx : Asc xs) {i : Nat} {c : Ft} (lo : ∀ t, t < i → ∀ f, xs[t]? = some f → FLt f c) (hi : ∀ t, i ≤ t → ∀ f, xs[t]? = some f → ¬ FLt f c) : c ∈ xs ↔ xs[i]? = some c := by
  constructor
  · intro h
    obtain ⟨t, ht⟩ := List.mem_iff_getElem?.1 h
    rcases Nat.lt_trichotomy t i with h1 | h1 | h1
    · exact absurd (lo t h1 c ht) (flt_irrefl c)
    · rw [← h1]; exact ht
    · obtain ⟨h2, e2⟩ := List.getElem?_eq_some_iff.1 ht
      have h3 : xs[i]? = some xs[i] := List.getElem?_eq_getElem (by omega)
      have h4 := List.pairwise_iff_getElem.1 hx i t (by omega) h2 h1
      rw [e2] at h4
      exact absurd h4 (hi i (Nat.le_refl _) _ h3)
  · exact fun h => List.mem_of_getElem? h
theorem cmpF_neg (f c : Ft) : decide (cmpF f c < 0) = decide (FLt f c) := by
  rcases cmpF_cases f c with ⟨h, e⟩ | ⟨h, e⟩ | ⟨h, e⟩
  · rw [e]; simp [h]
  · subst h; rw [e]; simp [flt_irrefl]
  · rw [e]; simp only [show ¬ ((1 : Int) < 0) by omega, decide_false]
    exact (decide_eq_false fun h2 => flt_irrefl f (flt_trans h2 h)).symm
theorem cmpF_zero (f c : Ft) : (cmpF f c == 0) = decide (f = c) := by
  rcases cmpF_cases f c with ⟨h, e⟩ | ⟨h, e⟩ | ⟨h, e⟩
  · rw [e]
    have : f ≠ c := fun e => flt_irrefl f (by rw [← e] at h; exact h)
    simp [this]
  · subst h; rw [e]; simp
  · rw [e]
    have : f ≠ c := fun e => flt_irrefl f (by rw [← e] at h; exact h)
    simp [this]
theorem asc_at {xs : List Ft} (hx : Asc xs) {s t : Nat} {f g : Ft} (hs : xs[s]? = some f) (ht : xs[t]? = some g) (h : s < t) : FLt f g := by
  obtain ⟨h1, e1⟩ := List.getElem?_eq_some_iff.1 hs
  obtain ⟨h2, e2⟩ := List.getElem?_eq_some_iff.1 ht
  have := List.pairwise_iff_getElem.1 hx s t h1 h2 h
  rwa [e1, e2] at this
set_option maxHeartbeats 4000000 in
set_option maxRecDepth 20000 in
theorem search_any (xs : List Ft) (hx : Asc xs) (c : Ft) (A : Option Addr) (n cap : Nat) (w : World) (hn : n = xs.length) (hs : n ≤ 1000000) (h : FactsAt w w.heap.size A xs) :
    Calls Tryz.prog 102 #[.slice A n cap, valF c, .func (.func 39) #[] #[]] w fun e w' => (∃ i : Nat, e = .returned (.tuple #[.int .i64 i, .bool (decide (c ∈ xs))])) ∧ Below w.heap.size w w' := by
  have HN := Lib.hid hn; clear hn
  have HX := Lib.hid hx; clear hx
  have H := Lib.hid h; clear h
  obtain ⟨cx, cy⟩ := c
  show Calls Tryz.prog 102 #[.slice A n cap, .agg #[.int .i64 cx, .int .i64 cy], .func (.func 39) #[] #[]] w _
  go_enter Tryz.func102, Tryz.ntmps102
  go_upto_region 1 with (fail)
  have HB0 : Hid (Below w.heap.size w (w.alloc (.cells #[.int .i64 cx, .int .i64 cy] 36)) ∧ Blk (w.alloc (.cells #[.int .i64 cx, .int .i64 cy] 36)) w.heap.size 36 #[.int .i64 cx, .int .i64 cy]) := Lib.hid ⟨(Below.refl _ _).alloc (Nat.le_refl _) _, Blk.new _ _ _⟩
  generalize World.alloc w _ = w1 at *
  generalize hp : w.heap.size = p at HB0 ⊢
  have HP := Lib.hid hp; clear hp
  go_wp2_with fail
  go_loopg [9, 10] n (fun kx s9 s10 wr => ∃ i j : Nat, kx = j - i ∧ i ≤ j ∧ j ≤ n ∧ s9 = .int .i64 i ∧ s10 = .int .i64 j ∧ Hid (Below p w wr ∧ Blk wr p 36 #[.int .i64 cx, .int .i64 cy]) ∧ Hid (∀ t, t < i → ∀ f, xs[t]? = some f → FLt f ⟨cx, cy⟩) ∧ Hid (∀ t, j ≤ t → ∀ f, xs[t]? = some f → ¬ FLt f ⟨cx, cy⟩))
  case atStart => exact ⟨0, n, by omega, Nat.zero_le _, Nat.le_refl _, rfl, rfl, HB0, Lib.hid (fun t ht => absurd ht (by omega)), Lib.hid (fun t ht f hf => by
    have := (List.getElem?_eq_some_iff.1 hf).1
    rw [← HN.out] at this; omega)⟩
  case round =>
    obtain ⟨i, j, hgk, hij, hjn, rfl, rfl, HB, HL, HI⟩ := hrel
    have HGK := Lib.hid hgk; clear hgk
    have k0 := HB.out.2.cell 0
    have k1 := HB.out.2.cell 1
    simp at k0 k1
    have hltp := HB.out.2.lt
    by_cases hlt : i < j
    · obtain ⟨m, hm⟩ : ∃ m, m = (i + j) / 2 := ⟨_, rfl⟩
      have hm1 : i ≤ m := by omega
      have hm2 : m < j := by omega
      have HM := Lib.hid hm
      obtain ⟨⟨fx, fy⟩, hf⟩ := get_of_lt HN.out (show m < n by omega)
      obtain ⟨b, off, rfl, hb, h0, h1⟩ := H.out.two hf
      dsimp only at h0 h1
      have HF := Lib.hid hf; clear hf
      rw [← HP.out] at HB
      have g0 := (HB.out.1.cell (p := ⟨b, off + m*2, none⟩) hb).trans h0
      have g1 := (HB.out.1.cell (p := ⟨b, off + m*2+1, none⟩) hb).trans h1
      have hltb : b < wr.heap.size := Nat.lt_of_lt_of_le hb HB.out.1.size
      rw [HP.out] at HB
      clear h0 h1 hb
      have w1' : IntKind.i64.wrap ((i : Int) + (j : Int)) = (i : Int) + (j : Int) := i64_w _ (by omega) (by omega)
      have w2' : IntKind.u64.wrap ((i : Int) + (j : Int)) = (i : Int) + (j : Int) := IntWalk.u64_in _ (by omega)
      have w3' : ((i : Int) + (j : Int)) / 2 = (m : Int) := by omega
      have w4' : IntKind.i64.wrap (m : Int) = (m : Int) := i64_w _ (by omega) (by omega)
      have w5' : IntKind.i64.wrap ((m : Int) + 1) = (m : Int) + 1 := i64_w _ (by omega) (by omega)
      have i1 : (0 : Int) ≤ (m : Int) := by omega
      have i2 : (m : Int) < (n : Int) := by omega
      have HC := Lib.hid (fun W => cmpF_any ⟨fx, fy⟩ ⟨cx, cy⟩ W)
      unfold valF at HC
      dsimp only at HC
      have HE := Lib.hid (cmpF_neg ⟨fx, fy⟩ ⟨cx, cy⟩)
      generalize cmpF ⟨fx, fy⟩ ⟨cx, cy⟩ = cv at *
      clear hm
      go_upto_region 5 with (fail)
      clear w1' w2' w3'
      by_cases hcv : cv < 0
      · have HLT : Hid (FLt ⟨fx, fy⟩ ⟨cx, cy⟩) := Lib.hid (by have := HE.out; rw [decide_eq_true hcv] at this; simpa using this.symm)
        have hcv' : decide (cv < 0) = true := decide_eq_true hcv
        clear hcv
        refine wp_seq [] (by kernel_rfl) (by kernel_rfl) Reg.fin_no (StR.no (St.start (W := wr))) ?_
        refine Seq.pure rfl rfl (by intro w; go_simp; try first | with_reducible rfl | rfl) ?_
        simp only [Act.put, List.setIfInBounds_toArray, List.set_cons_zero, List.set_cons_succ]
        refine Seq.pure rfl rfl (by intro w; go_simp; try first | with_reducible rfl | rfl) ?_
        simp only [Act.put, List.setIfInBounds_toArray, List.set_cons_zero, List.set_cons_succ]
        refine Seq.pure rfl rfl (by intro w; go_simp; try first | with_reducible rfl | rfl) ?_
        simp only [Act.put, List.setIfInBounds_toArray, List.set_cons_zero, List.set_cons_succ]
        refine Seq.pure rfl rfl (by intro w; go_simp; try first | with_reducible rfl | rfl) ?_
        simp only [Act.put, List.setIfInBounds_toArray, List.set_cons_zero, List.set_cons_succ]
        refine Seq.look (v := .agg #[.int .i64 fx, .int .i64 fy]) rfl rfl (by intro w hs; have q0 := (hs.below.cell (p := ⟨b, off + m*2, none⟩) hltb).trans g0; have q1 := (hs.below.cell (p := ⟨b, off + m*2+1, none⟩) hltb).trans g1; go_simp; done) ?_
        simp only [Act.put, List.setIfInBounds_toArray, List.set_cons_zero, List.set_cons_succ]
        refine Seq.look (v := .agg #[.int .i64 cx, .int .i64 cy]) rfl rfl (by intro w hs; have q0 := (hs.below.cell (p := ⟨p, 0, none⟩) hltp).trans k0; have q1 := (hs.below.cell (p := ⟨p, 1, none⟩) hltp).trans k1; go_simp; done) ?_
        simp only [Act.put, List.setIfInBounds_toArray, List.set_cons_zero, List.set_cons_succ]
        refine Seq.callF (f := 39) (vs := #[.agg #[.int .i64 fx, .int .i64 fy], .agg #[.int .i64 cx, .int .i64 cy]]) rfl rfl rfl rfl rfl (by kernel_rfl) (fun w h => HC.out w) ?_
        simp only [Act.put, List.setIfInBounds_toArray, List.set_cons_zero, List.set_cons_succ]
        refine Seq.pure rfl rfl (by intro w; go_simp; try first | with_reducible rfl | rfl) ?_
        simp only [Act.put, List.setIfInBounds_toArray, List.set_cons_zero, List.set_cons_succ]
        refine Seq.done fun wz hws => ?_
        have HBZ := Lib.hid (And.intro (HB.out.1.trans (hws.st.below.mono (Nat.le_of_lt hltp))) (HB.out.2.belowB hws.st.below))
        clear hws g0 g1
        go_wp2_with fail
        go_roundg (j - (m + 1))
        case measure => rw [HGK.out]; omega
        case rel => exact ⟨m + 1, j, rfl, by omega, hjn, by go_num, rfl, HBZ, Lib.hid (fun t ht f hf => by
          rcases Nat.lt_or_ge t m with h1 | h1
          · exact flt_trans (asc_at HX.out hf HF.out h1) HLT.out
          · obtain rfl : t = m := by omega
            have e := hf.symm.trans HF.out; cases e; exact HLT.out), HI⟩
      · have HGE : Hid (¬ FLt ⟨fx, fy⟩ ⟨cx, cy⟩) := Lib.hid (by have := HE.out; rw [decide_eq_false hcv] at this; simpa using this.symm)
        have hcv' : decide (cv < 0) = false := decide_eq_false hcv
        clear hcv
        refine wp_seq [] (by kernel_rfl) (by kernel_rfl) Reg.fin_no (StR.no (St.start (W := wr))) ?_
        refine Seq.pure rfl rfl (by intro w; go_simp; try first | with_reducible rfl | rfl) ?_
        simp only [Act.put, List.setIfInBounds_toArray, List.set_cons_zero, List.set_cons_succ]
        refine Seq.pure rfl rfl (by intro w; go_simp; try first | with_reducible rfl | rfl) ?_
        simp only [Act.put, List.setIfInBounds_toArray, List.set_cons_zero, List.set_cons_succ]
        refine Seq.pure rfl rfl (by intro w; go_simp; try first | with_reducible rfl | rfl) ?_
        simp only [Act.put, List.setIfInBounds_toArray, List.set_cons_zero, List.set_cons_succ]
        refine Seq.pure rfl rfl (by intro w; go_simp; try first | with_reducible rfl | rfl) ?_
        simp only [Act.put, List.setIfInBounds_toArray, List.set_cons_zero, List.set_cons_succ]
        refine Seq.look (v := .agg #[.int .i64 fx, .int .i64 fy]) rfl rfl (by intro w hs; have q0 := (hs.below.cell (p := ⟨b, off + m*2, none⟩) hltb).trans g0; have q1 := (hs.below.cell (p := ⟨b, off + m*2+1, none⟩) hltb).trans g1; go_simp; done) ?_
        simp only [Act.put, List.setIfInBounds_toArray, List.set_cons_zero, List.set_cons_succ]
        refine Seq.look (v := .agg #[.int .i64 cx, .int .i64 cy]) rfl rfl (by intro w hs; have q0 := (hs.below.cell (p := ⟨p, 0, none⟩) hltp).trans k0; have q1 := (hs.below.cell (p := ⟨p, 1, none⟩) hltp).trans k1; go_simp; done) ?_
        simp only [Act.put, List.setIfInBounds_toArray, List.set_cons_zero, List.set_cons_succ]
        refine Seq.callF (f := 39) (vs := #[.agg #[.int .i64 fx, .int .i64 fy], .agg #[.int .i64 cx, .int .i64 cy]]) rfl rfl rfl rfl rfl (by kernel_rfl) (fun w h => HC.out w) ?_
        simp only [Act.put, List.setIfInBounds_toArray, List.set_cons_zero, List.set_cons_succ]
        refine Seq.pure rfl rfl (by intro w; go_simp; try first | with_reducible rfl | rfl) ?_
        simp only [Act.put, List.setIfInBounds_toArray, List.set_cons_zero, List.set_cons_succ]
        refine Seq.done fun wz hws => ?_
        have HBZ := Lib.hid (And.intro (HB.out.1.trans (hws.st.below.mono (Nat.le_of_lt hltp))) (HB.out.2.belowB hws.st.below))
        clear hws g0 g1
        go_wp2_with fail
        go_roundg (m - i)
        case measure => rw [HGK.out]; omega
        case rel => exact ⟨i, m, rfl, by omega, by omega, rfl, rfl, HBZ, HL, Lib.hid (fun t ht f hf => by
          rcases Nat.lt_or_ge m t with h1 | h1
          · exact fun h2 => HGE.out (flt_trans (asc_at HX.out HF.out hf h1) h2)
          · obtain rfl : t = m := by omega
            have e := hf.symm.trans HF.out; cases e; exact HGE.out)⟩
    · obtain rfl : i = j := by omega
      have HBM := Lib.hid (bs_mem HX.out HL.out HI.out)
      by_cases hin : i < n
      · obtain ⟨⟨fx, fy⟩, hf⟩ := get_of_lt HN.out hin
        obtain ⟨b, off, rfl, hb, h0, h1⟩ := H.out.two hf
        dsimp only at h0 h1
        have HF := Lib.hid hf; clear hf
        rw [← HP.out] at HB
        have g0 := (HB.out.1.cell (p := ⟨b, off + i*2, none⟩) hb).trans h0
        have g1 := (HB.out.1.cell (p := ⟨b, off + i*2+1, none⟩) hb).trans h1
        have hltb : b < wr.heap.size := Nat.lt_of_lt_of_le hb HB.out.1.size
        rw [HP.out] at HB
        clear h0 h1 hb
        have i1 : (0 : Int) ≤ (i : Int) := by omega
        have i2 : (i : Int) < (n : Int) := by omega
        have i3 : decide ((i : Int) < (n : Int)) = true := decide_eq_true i2
        have HC := Lib.hid (fun W => cmpF_any ⟨fx, fy⟩ ⟨cx, cy⟩ W)
        unfold valF at HC
        dsimp only at HC
        have HV : Hid (decide ((⟨cx, cy⟩ : Ft) ∈ xs) = (cmpF ⟨fx, fy⟩ ⟨cx, cy⟩ == 0)) := Lib.hid (by
          rw [cmpF_zero, Bool.eq_iff_iff, decide_eq_true_eq, decide_eq_true_eq, HBM.out, HF.out]
          exact ⟨fun e => Option.some.inj e, fun e => congrArg some e⟩)
        generalize cmpF ⟨fx, fy⟩ ⟨cx, cy⟩ = cv at *
        clear HBM
        go_upto_region 8 with (fail)
        cases hz : (cv == 0) with
        | true =>
          refine wp_seq [] (by kernel_rfl) (by kernel_rfl) Reg.fin_no (StR.no (St.start (W := wr))) ?_
          refine Seq.pure rfl rfl (by intro w; go_simp; try first | with_reducible rfl | rfl) ?_
          simp only [Act.put, List.setIfInBounds_toArray, List.set_cons_zero, List.set_cons_succ]
          refine Seq.pure rfl rfl (by intro w; go_simp; try first | with_reducible rfl | rfl) ?_
          simp only [Act.put, List.setIfInBounds_toArray, List.set_cons_zero, List.set_cons_succ]
          refine Seq.pure rfl rfl (by intro w; go_simp; try first | with_reducible rfl | rfl) ?_
          simp only [Act.put, List.setIfInBounds_toArray, List.set_cons_zero, List.set_cons_succ]
          refine Seq.pure rfl rfl (by intro w; go_simp; try first | with_reducible rfl | rfl) ?_
          simp only [Act.put, List.setIfInBounds_toArray, List.set_cons_zero, List.set_cons_succ]
          refine Seq.pure rfl rfl (by intro w; go_simp; try first | with_reducible rfl | rfl) ?_
          simp only [Act.put, List.setIfInBounds_toArray, List.set_cons_zero, List.set_cons_succ]
          refine Seq.pure rfl rfl (by intro w; go_simp; try first | with_reducible rfl | rfl) ?_
          simp only [Act.put, List.setIfInBounds_toArray, List.set_cons_zero, List.set_cons_succ]
          refine Seq.pure rfl rfl (by intro w; go_simp; try first | with_reducible rfl | rfl) ?_
          simp only [Act.put, List.setIfInBounds_toArray, List.set_cons_zero, List.set_cons_succ]
          refine Seq.pure rfl rfl (by intro w; go_simp; try first | with_reducible rfl | rfl) ?_
          simp only [Act.put, List.setIfInBounds_toArray, List.set_cons_zero, List.set_cons_succ]
          refine Seq.pure rfl rfl (by intro w; go_simp; try first | with_reducible rfl | rfl) ?_
          simp only [Act.put, List.setIfInBounds_toArray, List.set_cons_zero, List.set_cons_succ]
          refine Seq.look (v := .agg #[.int .i64 fx, .int .i64 fy]) rfl rfl (by intro w hs; have q0 := (hs.below.cell (p := ⟨b, off + i*2, none⟩) hltb).trans g0; have q1 := (hs.below.cell (p := ⟨b, off + i*2+1, none⟩) hltb).trans g1; go_simp; done) ?_
          simp only [Act.put, List.setIfInBounds_toArray, List.set_cons_zero, List.set_cons_succ]
          refine Seq.look (v := .agg #[.int .i64 cx, .int .i64 cy]) rfl rfl (by intro w hs; have q0 := (hs.below.cell (p := ⟨p, 0, none⟩) hltp).trans k0; have q1 := (hs.below.cell (p := ⟨p, 1, none⟩) hltp).trans k1; go_simp; done) ?_
          simp only [Act.put, List.setIfInBounds_toArray, List.set_cons_zero, List.set_cons_succ]
          refine Seq.callF (f := 39) (vs := #[.agg #[.int .i64 fx, .int .i64 fy], .agg #[.int .i64 cx, .int .i64 cy]]) rfl rfl rfl rfl rfl (by kernel_rfl) (fun w h => HC.out w) ?_
          simp only [Act.put, List.setIfInBounds_toArray, List.set_cons_zero, List.set_cons_succ]
          refine Seq.pure rfl rfl (by intro w; go_simp; try first | with_reducible rfl | rfl) ?_
          simp only [Act.put, List.setIfInBounds_toArray, List.set_cons_zero, List.set_cons_succ]
          refine Seq.pure rfl rfl (by intro w; go_simp; try first | with_reducible rfl | rfl) ?_
          simp only [Act.put, List.setIfInBounds_toArray, List.set_cons_zero, List.set_cons_succ]
          refine Seq.pure rfl rfl (by intro w; go_simp; try first | with_reducible rfl | rfl) ?_
          simp only [Act.put, List.setIfInBounds_toArray, List.set_cons_zero, List.set_cons_succ]
          refine Seq.pure rfl rfl (by intro w; go_simp; try first | with_reducible rfl | rfl) ?_
          simp only [Act.put, List.setIfInBounds_toArray, List.set_cons_zero, List.set_cons_succ]
          refine Seq.done fun wz hws => ?_
          have HBZ := Lib.hid (HB.out.1.trans (hws.st.below.mono (Nat.le_of_lt hltp)))
          clear hws
          go_wp2_with fail
          go_ret2
          exact ⟨⟨i, by rw [HV.out, hz]; rfl⟩, by rw [HP.out]; exact HBZ.out⟩
        | false =>
          refine wp_seq [] (by kernel_rfl) (by kernel_rfl) Reg.fin_no (StR.no (St.start (W := wr))) ?_
          refine Seq.pure rfl rfl (by intro w; go_simp; try first | with_reducible rfl | rfl) ?_
          simp only [Act.put, List.setIfInBounds_toArray, List.set_cons_zero, List.set_cons_succ]
          refine Seq.pure rfl rfl (by intro w; go_simp; try first | with_reducible rfl | rfl) ?_
          simp only [Act.put, List.setIfInBounds_toArray, List.set_cons_zero, List.set_cons_succ]
          refine Seq.pure rfl rfl (by intro w; go_simp; try first | with_reducible rfl | rfl) ?_
          simp only [Act.put, List.setIfInBounds_toArray, List.set_cons_zero, List.set_cons_succ]
          refine Seq.pure rfl rfl (by intro w; go_simp; try first | with_reducible rfl | rfl) ?_
          simp only [Act.put, List.setIfInBounds_toArray, List.set_cons_zero, List.set_cons_succ]
          refine Seq.pure rfl rfl (by intro w; go_simp; try first | with_reducible rfl | rfl) ?_
          simp only [Act.put, List.setIfInBounds_toArray, List.set_cons_zero, List.set_cons_succ]
          refine Seq.pure rfl rfl (by intro w; go_simp; try first | with_reducible rfl | rfl) ?_
          simp only [Act.put, List.setIfInBounds_toArray, List.set_cons_zero, List.set_cons_succ]
          refine Seq.pure rfl rfl (by intro w; go_simp; try first | with_reducible rfl | rfl) ?_
          simp only [Act.put, List.setIfInBounds_toArray, List.set_cons_zero, List.set_cons_succ]
          refine Seq.pure rfl rfl (by intro w; go_simp; try first | with_reducible rfl | rfl) ?_
          simp only [Act.put, List.setIfInBounds_toArray, List.set_cons_zero, List.set_cons_succ]
          refine Seq.pure rfl rfl (by intro w; go_simp; try first | with_reducible rfl | rfl) ?_
          simp only [Act.put, List.setIfInBounds_toArray, List.set_cons_zero, List.set_cons_succ]
          refine Seq.look (v := .agg #[.int .i64 fx, .int .i64 fy]) rfl rfl (by intro w hs; have q0 := (hs.below.cell (p := ⟨b, off + i*2, none⟩) hltb).trans g0; have q1 := (hs.below.cell (p := ⟨b, off + i*2+1, none⟩) hltb).trans g1; go_simp; done) ?_
          simp only [Act.put, List.setIfInBounds_toArray, List.set_cons_zero, List.set_cons_succ]
          refine Seq.look (v := .agg #[.int .i64 cx, .int .i64 cy]) rfl rfl (by intro w hs; have q0 := (hs.below.cell (p := ⟨p, 0, none⟩) hltp).trans k0; have q1 := (hs.below.cell (p := ⟨p, 1, none⟩) hltp).trans k1; go_simp; done) ?_
          simp only [Act.put, List.setIfInBounds_toArray, List.set_cons_zero, List.set_cons_succ]
          refine Seq.callF (f := 39) (vs := #[.agg #[.int .i64 fx, .int .i64 fy], .agg #[.int .i64 cx, .int .i64 cy]]) rfl rfl rfl rfl rfl (by kernel_rfl) (fun w h => HC.out w) ?_
          simp only [Act.put, List.setIfInBounds_toArray, List.set_cons_zero, List.set_cons_succ]
          refine Seq.pure rfl rfl (by intro w; go_simp; try first | with_reducible rfl | rfl) ?_
          simp only [Act.put, List.setIfInBounds_toArray, List.set_cons_zero, List.set_cons_succ]
          refine Seq.pure rfl rfl (by intro w; go_simp; try first | with_reducible rfl | rfl) ?_
          simp only [Act.put, List.setIfInBounds_toArray, List.set_cons_zero, List.set_cons_succ]
          refine Seq.pure rfl rfl (by intro w; go_simp; try first | with_reducible rfl | rfl) ?_
          simp only [Act.put, List.setIfInBounds_toArray, List.set_cons_zero, List.set_cons_succ]
          refine Seq.pure rfl rfl (by intro w; go_simp; try first | with_reducible rfl | rfl) ?_
          simp only [Act.put, List.setIfInBounds_toArray, List.set_cons_zero, List.set_cons_succ]
          refine Seq.done fun wz hws => ?_
          have HBZ := Lib.hid (HB.out.1.trans (hws.st.below.mono (Nat.le_of_lt hltp)))
          clear hws
          go_wp2_with fail
          go_ret2
          exact ⟨⟨i, by rw [HV.out, hz]; rfl⟩, by rw [HP.out]; exact HBZ.out⟩
      · have HV : Hid (decide ((⟨cx, cy⟩ : Ft) ∈ xs) = false) := Lib.hid (decide_eq_false fun h => by
          have h2 := HBM.out.1 h
          have := (List.getElem?_eq_some_iff.1 h2).1
          rw [← HN.out] at this; exact hin this)
        have i3 : decide ((i : Int) < (n : Int)) = false := decide_eq_false (by omega)
        clear HBM
        go_upto_region 8 with (fail)
        refine wp_seq [] (by kernel_rfl) (by kernel_rfl) Reg.fin_no (StR.no (St.start (W := wr))) ?_
        refine Seq.pure rfl rfl (by intro w; go_simp; try first | with_reducible rfl | rfl) ?_
        simp only [Act.put, List.setIfInBounds_toArray, List.set_cons_zero, List.set_cons_succ]
        refine Seq.pure rfl rfl (by intro w; go_simp; try first | with_reducible rfl | rfl) ?_
        simp only [Act.put, List.setIfInBounds_toArray, List.set_cons_zero, List.set_cons_succ]
        refine Seq.pure rfl rfl (by intro w; go_simp; try first | with_reducible rfl | rfl) ?_
        simp only [Act.put, List.setIfInBounds_toArray, List.set_cons_zero, List.set_cons_succ]
        refine Seq.pure rfl rfl (by intro w; go_simp; try first | with_reducible rfl | rfl) ?_
        simp only [Act.put, List.setIfInBounds_toArray, List.set_cons_zero, List.set_cons_succ]
        refine Seq.pure rfl rfl (by intro w; go_simp; try first | with_reducible rfl | rfl) ?_
        simp only [Act.put, List.setIfInBounds_toArray, List.set_cons_zero, List.set_cons_succ]
        refine Seq.nw (by kernel_rfl) ?_
        simp only [Act.put, List.setIfInBounds_toArray, List.set_cons_zero, List.set_cons_succ]
        refine Seq.nw (by kernel_rfl) ?_
        simp only [Act.put, List.setIfInBounds_toArray, List.set_cons_zero, List.set_cons_succ]
        refine Seq.nw (by kernel_rfl) ?_
        simp only [Act.put, List.setIfInBounds_toArray, List.set_cons_zero, List.set_cons_succ]
        refine Seq.nw (by kernel_rfl) ?_
        simp only [Act.put, List.setIfInBounds_toArray, List.set_cons_zero, List.set_cons_succ]
        refine Seq.nw (by kernel_rfl) ?_
        simp only [Act.put, List.setIfInBounds_toArray, List.set_cons_zero, List.set_cons_succ]
        refine Seq.nw (by kernel_rfl) ?_
        simp only [Act.put, List.setIfInBounds_toArray, List.set_cons_zero, List.set_cons_succ]
        refine Seq.nw (by kernel_rfl) ?_
        simp only [Act.put, List.setIfInBounds_toArray, List.set_cons_zero, List.set_cons_succ]
        refine Seq.nw (by kernel_rfl) ?_
        simp only [Act.put, List.setIfInBounds_toArray, List.set_cons_zero, List.set_cons_succ]
        refine Seq.pure rfl rfl (by intro w; go_simp; try first | with_reducible rfl | rfl) ?_
        simp only [Act.put, List.setIfInBounds_toArray, List.set_cons_zero, List.set_cons_succ]
        refine Seq.pure rfl rfl (by intro w; go_simp; try first | with_reducible rfl | rfl) ?_
        simp only [Act.put, List.setIfInBounds_toArray, List.set_cons_zero, List.set_cons_succ]
        refine Seq.pure rfl rfl (by intro w; go_simp; try first | with_reducible rfl | rfl) ?_
        simp only [Act.put, List.setIfInBounds_toArray, List.set_cons_zero, List.set_cons_succ]
        refine Seq.done fun wz hws => ?_
        have HBZ := Lib.hid (HB.out.1.trans (hws.st.below.mono (Nat.le_of_lt hltp)))
        clear hws
        go_wp2_with fail
        go_ret2
        exact ⟨⟨i, by rw [HV.out]; rfl⟩, by rw [HP.out]; exact HBZ.out⟩
set_option maxHeartbeats 2000000 in
set_option maxRecDepth 20000 in
/-- grid.has: of an ascending list -/
theorem has_any (xs : List Ft) (hx : Asc xs) (c : Ft) (A : Option Addr) (n cap : Nat) (w : World) (hn : n = xs.length) (hs : n ≤ 1000000) (h : FactsAt w w.heap.size A xs) :
    Calls Tryz.prog 70 #[.slice A n cap, valF c] w fun e w' => e = .returned (.bool (decide (c ∈ xs))) ∧ Below w.heap.size w w' := by
  obtain ⟨cx, cy⟩ := c
  have hb0 : Below w.heap.size w (w.alloc (.cells #[.int .i64 cx, .int .i64 cy] 36)) := (Below.refl _ _).alloc (Nat.le_refl _) _
  have HS := Lib.hid (search_any xs hx ⟨cx, cy⟩ A n cap _ hn hs (h.next hb0))
  have HB0 := Lib.hid hb0
  clear hb0 h hx hn
  show Calls Tryz.prog 70 #[.slice A n cap, .agg #[.int .i64 cx, .int .i64 cy]] w _
  unfold valF at HS
  dsimp only at HS
  generalize decide ((⟨cx, cy⟩ : Ft) ∈ xs) = rb at *
  go_enter Tryz.func70, Tryz.ntmps70
  go_wp2_with fail
  refine HS.out.mono ?_
  rintro e w2 ⟨⟨i, rfl⟩, hb2⟩
  have HB2 := Lib.hid (HB0.out.trans (hb2.mono HB0.out.size))
  clear hb2
  go_wp2_with fail
  go_ret
  exact ⟨rfl, HB2.out⟩
end Go.Proofs.YtoejojfjiikogaaGreatDoor
