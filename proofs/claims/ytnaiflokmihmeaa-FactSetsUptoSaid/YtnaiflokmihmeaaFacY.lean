/- Facts: IsSet (package fact). -/
import Derived.Test.YtnaiflokmihmeaaFacG2
import Derived.Test.YtnaiflokmihmeaaFacJ
import Derived.Test.YtnaiflokmihmeaaStep
import Derived.Deep.DeepCutAuto
namespace Go.Proofs.Ytnaiflokmihmeaa
open Go.RowKit Go.ChangeShapes Go.WideShapes Go.Deep
set_option linter.unusedVariables false
set_option linter.unusedSimpArgs false

/-- place i of the list is valid, and comes behind the one before it -/
def stpB (l : List Ft) (i : Nat) : Bool := match l[i]? with
  | none => true
  | some f => okF f && (match i with
    | 0 => true
    | k + 1 => match l[k]? with
      | none => true
      | some g => decide (cmpF g f < 0))
def isSetB (l : List Ft) : Bool := (List.range l.length).all (stpB l)
theorem stpB_0 {l : List Ft} {f : Ft} (hf : l[0]? = some f) : stpB l 0 = okF f := by simp [stpB, hf]
theorem stpB_s {l : List Ft} {k : Nat} {f g : Ft} (hf : l[k+1]? = some f) (hg : l[k]? = some g) : stpB l (k+1) = (okF f && decide (cmpF g f < 0)) := by simp [stpB, hf, hg]
theorem isSet_no {l : List Ft} {i : Nat} (hi : i < l.length) (h : stpB l i = false) : isSetB l = false := by
  unfold isSetB
  rw [List.all_eq_false]
  exact ⟨i, by simpa using hi, by simp [h]⟩
theorem isSet_yes {l : List Ft} (h : ∀ i < l.length, stpB l i = true) : isSetB l = true := by
  unfold isSetB
  rw [List.all_eq_true]
  exact fun i hi => h i (by simpa using hi)

set_option maxHeartbeats 4000000 in
set_option maxRecDepth 20000 in
theorem isSetF_any (l : List Ft) (A : Option Addr) (n c : Nat) (w : World) (hn : n = l.length) (hm : n ≤ 9223372036854775807) (h : FactsAt w w.heap.size A l) :
    Calls Try.prog 28 #[.slice A n c] w fun e w' => e = .returned (.bool (isSetB l)) ∧ Below w.heap.size w w' := by
  have HN := Lib.hid hn; clear hn
  have H := Lib.hid h; clear h
  go_enter Try.func28, Try.ntmps28
  go_wp2_with fail
  go_loopg [7] n (fun kx i wr => ∃ j : Nat, kx = n - j ∧ j ≤ n ∧ i = .int .i64 j ∧ Hid (Below w.heap.size w wr) ∧ Hid (∀ i, i < j → stpB l i = true))
  case atStart => exact ⟨0, by omega, Nat.zero_le _, rfl, Below.refl _ _, Lib.hid (fun i hi => by omega)⟩
  case round =>
    obtain ⟨j, hgk, hj, rfl, hbel, hall⟩ := hrel
    have HGK := Lib.hid hgk; clear hgk
    by_cases hlt : j < n
    · obtain ⟨⟨fk, fa, fb⟩, hf⟩ := get_of_lt HN.out hlt
      obtain ⟨b, off, rfl, hb, h0, h1, h2⟩ := H.out.three hf
      have g0 := (hbel.out.cell (p := ⟨b, off + j*3, none⟩) hb).trans h0
      have g1 := (hbel.out.cell (p := ⟨b, off + j*3+1, none⟩) hb).trans h1
      have g2 := (hbel.out.cell (p := ⟨b, off + j*3+2, none⟩) hb).trans h2
      dsimp only at g0 g1 g2
      have HF := Lib.hid hf; clear hf h0 h1 h2
      have HV := Lib.hid (fun W => validF_any ⟨fk, fa, fb⟩ W)
      unfold valF at HV
      dsimp only at HV
      go_upto_region 4 with (fail)
      clear g0 g1 g2
      have HS1 : Hid (St w [(wr.heap.size, 45, #[.int .i64 fk, .int .i64 fa, .int .i64 fb])] (wr.alloc (.cells #[.int .i64 fk, .int .i64 fa, .int .i64 fb] 45))) := Lib.hid ((St.begin hbel.out).box _ _)
      generalize wr.heap.size = p at *
      generalize World.alloc wr _ = w1 at *
      rcases j with _ | q
      · have HST := Lib.hid (stpB_0 HF.out)
        cases hok : okF ⟨fk, fa, fb⟩ with
        | false =>
          have HNO : Hid (isSetB l = false) := Lib.hid (isSet_no (i := 0) (by rw [← HN.out]; exact hlt) (by rw [HST.out, hok]))
          rw [hok] at HV; clear hok
          refine wp_seq [] (by kernel_rfl) (by kernel_rfl) Reg.fin_no (StR.no HS1.out) ?_
          refine Seq.load rfl rfl rfl rfl (List.mem_singleton.2 rfl) (n := 3) rfl (by kernel_rfl) ?_
          simp only [Act.put, List.setIfInBounds_toArray, List.set_cons_zero, List.set_cons_succ]
          refine Seq.call rfl rfl rfl rfl (by kernel_rfl) (fun w h => HV.out w) ?_
          simp only [Act.put, List.setIfInBounds_toArray, List.set_cons_zero, List.set_cons_succ]
          refine Seq.pure rfl rfl (by intro w; go_simp; try first | with_reducible rfl | rfl) ?_
          simp only [Act.put, List.setIfInBounds_toArray, List.set_cons_zero, List.set_cons_succ]
          refine Seq.pure rfl rfl (by intro w; go_simp; try first | with_reducible rfl | rfl) ?_
          simp only [Act.put, List.setIfInBounds_toArray, List.set_cons_zero, List.set_cons_succ]
          refine Seq.nw (by kernel_rfl) ?_
          simp only [Act.put, List.setIfInBounds_toArray, List.set_cons_zero, List.set_cons_succ]
          refine Seq.nw (by kernel_rfl) ?_
          simp only [Act.put, List.setIfInBounds_toArray, List.set_cons_zero, List.set_cons_succ]
          refine Seq.nw (by kernel_rfl) ?_
          simp only [Act.put, List.setIfInBounds_toArray, List.set_cons_zero, List.set_cons_succ]
          refine Seq.nw (by kernel_rfl) ?_
          simp only [Act.put, List.setIfInBounds_toArray, List.set_cons_zero, List.set_cons_succ]
          refine Seq.nw (by kernel_rfl) ?_
          simp only [Act.put, List.setIfInBounds_toArray, List.set_cons_zero, List.set_cons_succ]
          refine Seq.nw (by kernel_rfl) ?_
          simp only [Act.put, List.setIfInBounds_toArray, List.set_cons_zero, List.set_cons_succ]
          refine Seq.nw (by kernel_rfl) ?_
          simp only [Act.put, List.setIfInBounds_toArray, List.set_cons_zero, List.set_cons_succ]
          refine Seq.nw (by kernel_rfl) ?_
          simp only [Act.put, List.setIfInBounds_toArray, List.set_cons_zero, List.set_cons_succ]
          refine Seq.nw (by kernel_rfl) ?_
          simp only [Act.put, List.setIfInBounds_toArray, List.set_cons_zero, List.set_cons_succ]
          refine Seq.nw (by kernel_rfl) ?_
          simp only [Act.put, List.setIfInBounds_toArray, List.set_cons_zero, List.set_cons_succ]
          refine Seq.nw (by kernel_rfl) ?_
          simp only [Act.put, List.setIfInBounds_toArray, List.set_cons_zero, List.set_cons_succ]
          refine Seq.nw (by kernel_rfl) ?_
          simp only [Act.put, List.setIfInBounds_toArray, List.set_cons_zero, List.set_cons_succ]
          refine Seq.pure rfl rfl (by intro w; go_simp; try first | with_reducible rfl | rfl) ?_
          simp only [Act.put, List.setIfInBounds_toArray, List.set_cons_zero, List.set_cons_succ]
          refine Seq.done fun ws1 hws => ?_
          have HS2 := Lib.hid hws.st.below
          clear hws
          go_wp2_with fail
          go_ret
          exact ⟨ret_bool HNO.out.symm, HS2.out⟩
        | true =>
          rw [hok] at HST
          rw [hok] at HV; clear hok
          refine wp_seq [] (by kernel_rfl) (by kernel_rfl) Reg.fin_no (StR.no HS1.out) ?_
          refine Seq.load rfl rfl rfl rfl (List.mem_singleton.2 rfl) (n := 3) rfl (by kernel_rfl) ?_
          simp only [Act.put, List.setIfInBounds_toArray, List.set_cons_zero, List.set_cons_succ]
          refine Seq.call rfl rfl rfl rfl (by kernel_rfl) (fun w h => HV.out w) ?_
          simp only [Act.put, List.setIfInBounds_toArray, List.set_cons_zero, List.set_cons_succ]
          refine Seq.pure rfl rfl (by intro w; go_simp; try first | with_reducible rfl | rfl) ?_
          simp only [Act.put, List.setIfInBounds_toArray, List.set_cons_zero, List.set_cons_succ]
          refine Seq.pure rfl rfl (by intro w; go_simp; try first | with_reducible rfl | rfl) ?_
          simp only [Act.put, List.setIfInBounds_toArray, List.set_cons_zero, List.set_cons_succ]
          refine Seq.pure rfl rfl (by intro w; go_simp; try first | with_reducible rfl | rfl) ?_
          simp only [Act.put, List.setIfInBounds_toArray, List.set_cons_zero, List.set_cons_succ]
          refine Seq.pure rfl rfl (by intro w; go_simp; try first | with_reducible rfl | rfl) ?_
          simp only [Act.put, List.setIfInBounds_toArray, List.set_cons_zero, List.set_cons_succ]
          refine Seq.pure rfl rfl (by intro w; go_simp; try first | with_reducible rfl | rfl) ?_
          simp only [Act.put, List.setIfInBounds_toArray, List.set_cons_zero, List.set_cons_succ]
          refine Seq.nw (by kernel_rfl) ?_
          simp only [Act.put, List.setIfInBounds_toArray, List.set_cons_zero, List.set_cons_succ]
          refine Seq.nw (by kernel_rfl) ?_
          simp only [Act.put, List.setIfInBounds_toArray, List.set_cons_zero, List.set_cons_succ]
          refine Seq.nw (by kernel_rfl) ?_
          simp only [Act.put, List.setIfInBounds_toArray, List.set_cons_zero, List.set_cons_succ]
          refine Seq.nw (by kernel_rfl) ?_
          simp only [Act.put, List.setIfInBounds_toArray, List.set_cons_zero, List.set_cons_succ]
          refine Seq.nw (by kernel_rfl) ?_
          simp only [Act.put, List.setIfInBounds_toArray, List.set_cons_zero, List.set_cons_succ]
          refine Seq.nw (by kernel_rfl) ?_
          simp only [Act.put, List.setIfInBounds_toArray, List.set_cons_zero, List.set_cons_succ]
          refine Seq.nw (by kernel_rfl) ?_
          simp only [Act.put, List.setIfInBounds_toArray, List.set_cons_zero, List.set_cons_succ]
          refine Seq.nw (by kernel_rfl) ?_
          simp only [Act.put, List.setIfInBounds_toArray, List.set_cons_zero, List.set_cons_succ]
          refine Seq.pure rfl rfl (by intro w; go_simp; try first | with_reducible rfl | rfl) ?_
          simp only [Act.put, List.setIfInBounds_toArray, List.set_cons_zero, List.set_cons_succ]
          refine Seq.pure rfl rfl (by intro w; go_simp; try first | with_reducible rfl | rfl) ?_
          simp only [Act.put, List.setIfInBounds_toArray, List.set_cons_zero, List.set_cons_succ]
          refine Seq.done fun ws1 hws => ?_
          have HS2 := Lib.hid hws.st.below
          clear hws
          go_wp2_with fail
          go_roundg (n - 1)
          case measure => rw [HGK.out]; omega
          case rel => exact ⟨1, rfl, hlt, by go_num, HS2.out, Lib.hid (fun i hi => by obtain rfl : i = 0 := (by omega); exact HST.out)⟩
      · obtain ⟨⟨ek, ea, eb⟩, he⟩ := get_of_lt (k := q) HN.out (by omega)
        obtain ⟨b', off', hA', hb', e0, e1, e2⟩ := H.out.three he
        cases hA'
        dsimp only at e0 e1 e2
        have HST := Lib.hid (stpB_s HF.out he)
        have HC := Lib.hid (fun W => cmpF_any ⟨ek, ea, eb⟩ ⟨fk, fa, fb⟩ W)
        unfold valF at HC
        dsimp only at HC
        clear he
        have hq1 := i64_w (q : Int) (by omega) (by omega)
        have i1 : (0 : Int) ≤ (q : Int) := by omega
        have i2 : (q : Int) < (n : Int) := by omega
        have i3 : (0 : Int) < (q : Int) + 1 := by omega
        cases hok : okF ⟨fk, fa, fb⟩ with
        | false =>
          have HNO : Hid (isSetB l = false) := Lib.hid (isSet_no (i := q + 1) (by rw [← HN.out]; exact hlt) (by rw [HST.out, hok]; rfl))
          rw [hok] at HV; clear hok e0 e1 e2
          refine wp_seq [] (by kernel_rfl) (by kernel_rfl) Reg.fin_no (StR.no HS1.out) ?_
          refine Seq.load rfl rfl rfl rfl (List.mem_singleton.2 rfl) (n := 3) rfl (by kernel_rfl) ?_
          simp only [Act.put, List.setIfInBounds_toArray, List.set_cons_zero, List.set_cons_succ]
          refine Seq.call rfl rfl rfl rfl (by kernel_rfl) (fun w h => HV.out w) ?_
          simp only [Act.put, List.setIfInBounds_toArray, List.set_cons_zero, List.set_cons_succ]
          refine Seq.pure rfl rfl (by intro w; go_simp; try first | with_reducible rfl | rfl) ?_
          simp only [Act.put, List.setIfInBounds_toArray, List.set_cons_zero, List.set_cons_succ]
          refine Seq.pure rfl rfl (by intro w; go_simp; try first | with_reducible rfl | rfl) ?_
          simp only [Act.put, List.setIfInBounds_toArray, List.set_cons_zero, List.set_cons_succ]
          refine Seq.nw (by kernel_rfl) ?_
          simp only [Act.put, List.setIfInBounds_toArray, List.set_cons_zero, List.set_cons_succ]
          refine Seq.nw (by kernel_rfl) ?_
          simp only [Act.put, List.setIfInBounds_toArray, List.set_cons_zero, List.set_cons_succ]
          refine Seq.nw (by kernel_rfl) ?_
          simp only [Act.put, List.setIfInBounds_toArray, List.set_cons_zero, List.set_cons_succ]
          refine Seq.nw (by kernel_rfl) ?_
          simp only [Act.put, List.setIfInBounds_toArray, List.set_cons_zero, List.set_cons_succ]
          refine Seq.nw (by kernel_rfl) ?_
          simp only [Act.put, List.setIfInBounds_toArray, List.set_cons_zero, List.set_cons_succ]
          refine Seq.nw (by kernel_rfl) ?_
          simp only [Act.put, List.setIfInBounds_toArray, List.set_cons_zero, List.set_cons_succ]
          refine Seq.nw (by kernel_rfl) ?_
          simp only [Act.put, List.setIfInBounds_toArray, List.set_cons_zero, List.set_cons_succ]
          refine Seq.nw (by kernel_rfl) ?_
          simp only [Act.put, List.setIfInBounds_toArray, List.set_cons_zero, List.set_cons_succ]
          refine Seq.nw (by kernel_rfl) ?_
          simp only [Act.put, List.setIfInBounds_toArray, List.set_cons_zero, List.set_cons_succ]
          refine Seq.nw (by kernel_rfl) ?_
          simp only [Act.put, List.setIfInBounds_toArray, List.set_cons_zero, List.set_cons_succ]
          refine Seq.nw (by kernel_rfl) ?_
          simp only [Act.put, List.setIfInBounds_toArray, List.set_cons_zero, List.set_cons_succ]
          refine Seq.nw (by kernel_rfl) ?_
          simp only [Act.put, List.setIfInBounds_toArray, List.set_cons_zero, List.set_cons_succ]
          refine Seq.pure rfl rfl (by intro w; go_simp; try first | with_reducible rfl | rfl) ?_
          simp only [Act.put, List.setIfInBounds_toArray, List.set_cons_zero, List.set_cons_succ]
          refine Seq.done fun ws1 hws => ?_
          have HS2 := Lib.hid hws.st.below
          clear hws
          go_wp2_with fail
          go_ret
          exact ⟨ret_bool HNO.out.symm, HS2.out⟩
        | true =>
          rw [hok, Bool.true_and] at HST
          rw [hok] at HV; clear hok
          generalize cmpF ⟨ek, ea, eb⟩ ⟨fk, fa, fb⟩ = cv at *
          by_cases hcv : cv < 0
          · rw [decide_eq_true hcv] at HST
            refine wp_seq [] (by kernel_rfl) (by kernel_rfl) Reg.fin_no (StR.no HS1.out) ?_
            refine Seq.load rfl rfl rfl rfl (List.mem_singleton.2 rfl) (n := 3) rfl (by kernel_rfl) ?_
            simp only [Act.put, List.setIfInBounds_toArray, List.set_cons_zero, List.set_cons_succ]
            refine Seq.call rfl rfl rfl rfl (by kernel_rfl) (fun w h => HV.out w) ?_
            simp only [Act.put, List.setIfInBounds_toArray, List.set_cons_zero, List.set_cons_succ]
            refine Seq.pure rfl rfl (by intro w; go_simp; try first | with_reducible rfl | rfl) ?_
            simp only [Act.put, List.setIfInBounds_toArray, List.set_cons_zero, List.set_cons_succ]
            refine Seq.pure rfl rfl (by intro w; go_simp; try first | with_reducible rfl | rfl) ?_
            simp only [Act.put, List.setIfInBounds_toArray, List.set_cons_zero, List.set_cons_succ]
            refine Seq.pure rfl rfl (by intro w; go_simp; try first | with_reducible rfl | rfl) ?_
            simp only [Act.put, List.setIfInBounds_toArray, List.set_cons_zero, List.set_cons_succ]
            refine Seq.pure rfl rfl (by intro w; go_simp; try first | with_reducible rfl | rfl) ?_
            simp only [Act.put, List.setIfInBounds_toArray, List.set_cons_zero, List.set_cons_succ]
            refine Seq.pure rfl rfl (by intro w; go_simp; try first | with_reducible rfl | rfl) ?_
            simp only [Act.put, List.setIfInBounds_toArray, List.set_cons_zero, List.set_cons_succ]
            refine Seq.pure rfl rfl (by intro w; go_simp; try first | with_reducible rfl | rfl) ?_
            simp only [Act.put, List.setIfInBounds_toArray, List.set_cons_zero, List.set_cons_succ]
            refine Seq.pure rfl rfl (by intro w; go_simp; try first | with_reducible rfl | rfl) ?_
            simp only [Act.put, List.setIfInBounds_toArray, List.set_cons_zero, List.set_cons_succ]
            refine Seq.pure rfl rfl (by intro w; go_simp; try first | with_reducible rfl | rfl) ?_
            simp only [Act.put, List.setIfInBounds_toArray, List.set_cons_zero, List.set_cons_succ]
            refine Seq.pure rfl rfl (by intro w; go_simp; try first | with_reducible rfl | rfl) ?_
            simp only [Act.put, List.setIfInBounds_toArray, List.set_cons_zero, List.set_cons_succ]
            refine Seq.look (v := .agg #[.int .i64 ek, .int .i64 ea, .int .i64 eb]) rfl rfl (by intro w hs; have q0 := (hs.below.cell (p := ⟨b, off + q*3, none⟩) hb).trans e0; have q1 := (hs.below.cell (p := ⟨b, off + q*3+1, none⟩) hb).trans e1; have q2 := (hs.below.cell (p := ⟨b, off + q*3+2, none⟩) hb).trans e2; go_simp; done) ?_
            simp only [Act.put, List.setIfInBounds_toArray, List.set_cons_zero, List.set_cons_succ]
            refine Seq.load rfl rfl rfl rfl (List.mem_singleton.2 rfl) (n := 3) rfl (by kernel_rfl) ?_
            simp only [Act.put, List.setIfInBounds_toArray, List.set_cons_zero, List.set_cons_succ]
            refine Seq.call rfl rfl rfl rfl (by kernel_rfl) (fun w h => HC.out w) ?_
            simp only [Act.put, List.setIfInBounds_toArray, List.set_cons_zero, List.set_cons_succ]
            refine Seq.pure rfl rfl (by intro w; go_simp; try first | with_reducible rfl | rfl) ?_
            simp only [Act.put, List.setIfInBounds_toArray, List.set_cons_zero, List.set_cons_succ]
            refine Seq.pure rfl rfl (by intro w; go_simp; try first | with_reducible rfl | rfl) ?_
            simp only [Act.put, List.setIfInBounds_toArray, List.set_cons_zero, List.set_cons_succ]
            refine Seq.pure rfl rfl (by intro w; go_simp; try first | with_reducible rfl | rfl) ?_
            simp only [Act.put, List.setIfInBounds_toArray, List.set_cons_zero, List.set_cons_succ]
            refine Seq.done fun ws1 hws => ?_
            have HS2 := Lib.hid hws.st.below
            clear hws
            clear e0 e1 e2
            go_wp2_with fail
            go_roundg (n - (q + 2))
            case measure => rw [HGK.out]; omega
            case rel => exact ⟨q + 2, rfl, by omega, by go_num, HS2.out, forall_lt_succ hall.out HST.out⟩
          · have HNO : Hid (isSetB l = false) := Lib.hid (isSet_no (i := q + 1) (by rw [← HN.out]; exact hlt) (by rw [HST.out]; simp; omega))
            have hcv' : 0 ≤ cv := by omega
            clear hcv
            refine wp_seq [] (by kernel_rfl) (by kernel_rfl) Reg.fin_no (StR.no HS1.out) ?_
            refine Seq.load rfl rfl rfl rfl (List.mem_singleton.2 rfl) (n := 3) rfl (by kernel_rfl) ?_
            simp only [Act.put, List.setIfInBounds_toArray, List.set_cons_zero, List.set_cons_succ]
            refine Seq.call rfl rfl rfl rfl (by kernel_rfl) (fun w h => HV.out w) ?_
            simp only [Act.put, List.setIfInBounds_toArray, List.set_cons_zero, List.set_cons_succ]
            refine Seq.pure rfl rfl (by intro w; go_simp; try first | with_reducible rfl | rfl) ?_
            simp only [Act.put, List.setIfInBounds_toArray, List.set_cons_zero, List.set_cons_succ]
            refine Seq.pure rfl rfl (by intro w; go_simp; try first | with_reducible rfl | rfl) ?_
            simp only [Act.put, List.setIfInBounds_toArray, List.set_cons_zero, List.set_cons_succ]
            refine Seq.pure rfl rfl (by intro w; go_simp; try first | with_reducible rfl | rfl) ?_
            simp only [Act.put, List.setIfInBounds_toArray, List.set_cons_zero, List.set_cons_succ]
            refine Seq.pure rfl rfl (by intro w; go_simp; try first | with_reducible rfl | rfl) ?_
            simp only [Act.put, List.setIfInBounds_toArray, List.set_cons_zero, List.set_cons_succ]
            refine Seq.pure rfl rfl (by intro w; go_simp; try first | with_reducible rfl | rfl) ?_
            simp only [Act.put, List.setIfInBounds_toArray, List.set_cons_zero, List.set_cons_succ]
            refine Seq.pure rfl rfl (by intro w; go_simp; try first | with_reducible rfl | rfl) ?_
            simp only [Act.put, List.setIfInBounds_toArray, List.set_cons_zero, List.set_cons_succ]
            refine Seq.pure rfl rfl (by intro w; go_simp; try first | with_reducible rfl | rfl) ?_
            simp only [Act.put, List.setIfInBounds_toArray, List.set_cons_zero, List.set_cons_succ]
            refine Seq.pure rfl rfl (by intro w; go_simp; try first | with_reducible rfl | rfl) ?_
            simp only [Act.put, List.setIfInBounds_toArray, List.set_cons_zero, List.set_cons_succ]
            refine Seq.pure rfl rfl (by intro w; go_simp; try first | with_reducible rfl | rfl) ?_
            simp only [Act.put, List.setIfInBounds_toArray, List.set_cons_zero, List.set_cons_succ]
            refine Seq.look (v := .agg #[.int .i64 ek, .int .i64 ea, .int .i64 eb]) rfl rfl (by intro w hs; have q0 := (hs.below.cell (p := ⟨b, off + q*3, none⟩) hb).trans e0; have q1 := (hs.below.cell (p := ⟨b, off + q*3+1, none⟩) hb).trans e1; have q2 := (hs.below.cell (p := ⟨b, off + q*3+2, none⟩) hb).trans e2; go_simp; done) ?_
            simp only [Act.put, List.setIfInBounds_toArray, List.set_cons_zero, List.set_cons_succ]
            refine Seq.load rfl rfl rfl rfl (List.mem_singleton.2 rfl) (n := 3) rfl (by kernel_rfl) ?_
            simp only [Act.put, List.setIfInBounds_toArray, List.set_cons_zero, List.set_cons_succ]
            refine Seq.call rfl rfl rfl rfl (by kernel_rfl) (fun w h => HC.out w) ?_
            simp only [Act.put, List.setIfInBounds_toArray, List.set_cons_zero, List.set_cons_succ]
            refine Seq.pure rfl rfl (by intro w; go_simp; try first | with_reducible rfl | rfl) ?_
            simp only [Act.put, List.setIfInBounds_toArray, List.set_cons_zero, List.set_cons_succ]
            refine Seq.pure rfl rfl (by intro w; go_simp; try first | with_reducible rfl | rfl) ?_
            simp only [Act.put, List.setIfInBounds_toArray, List.set_cons_zero, List.set_cons_succ]
            refine Seq.pure rfl rfl (by intro w; go_simp; try first | with_reducible rfl | rfl) ?_
            simp only [Act.put, List.setIfInBounds_toArray, List.set_cons_zero, List.set_cons_succ]
            refine Seq.done fun ws1 hws => ?_
            have HS2 := Lib.hid hws.st.below
            clear hws
            clear e0 e1 e2
            go_wp2_with fail
            go_ret
            exact ⟨ret_bool HNO.out.symm, HS2.out⟩
    · obtain rfl : j = n := by omega
      have HYE := Lib.hid (isSet_yes (l := l) (fun i hi => hall.out i (by rw [HN.out]; exact hi)))
      go_wp2_with fail
      go_ret
      exact ⟨ret_bool HYE.out.symm, hbel.out⟩
end Go.Proofs.Ytnaiflokmihmeaa
