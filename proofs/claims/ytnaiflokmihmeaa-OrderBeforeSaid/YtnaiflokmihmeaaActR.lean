/- Walk: StepOf (reference). -/
import Derived.Test.YtnaiflokmihmeaaActQ
import Derived.Test.YtnaiflokmihmeaaActI
namespace Go.Proofs.Ytnaiflokmihmeaa
open Go.RowKit
set_option linter.unusedVariables false
set_option linter.unusedSimpArgs false

theorem WR.grow {w wr w' : World} {sl : Int} {r : Raw} {s : Stp} {B : Nat} (h : WR w sl r s wr) (hB : w.heap.size + 3 ≤ B) (hb : Below B wr w') : WR w sl r s w' := by
  obtain ⟨h1, h2, h3, x, y, z, u, h4⟩ := h
  exact ⟨h1.trans (hb.mono (by omega)), h2.below hb (by omega), h3.below hb (by omega), x, y, z, u, h4.below hb (by omega)⟩
section
variable {P : Program} {α : Type} [DecidableEq α] {enc : α → Value} {ops : Array Oper} {Q : Exit → Act → World → Prop} {a : Act} {w : World} {rest : List Oper} {o : Oper}
theorem wpList_set_getW (hw : Region.wanted o (yielded ops a.tmps) = true) (m x : Operand) (t : TypeId) (hop : o.op = Op.lookup t m x false) {kt e : TypeId} (K : KLaw P kt enc) (ht : P.underlying t = some (.map kt e)) (hz : (zeroValue e).run P w = .ok (.bool false) w) {b : Nat} {l : List α} (h : SetN enc w b l) (k : α) {v : Bool} (hv : decide (k ∈ l) = v)
    (hm : a.eval m = .map (some b)) (hx : a.eval x = enc k) (hK : wpList P ops Q rest (a.put o.dst (.bool v)) w) : wpList P ops Q (o :: rest) a w := by
  refine BigFrame.wpList_want hw fun K' hK' => ?_
  have hrun := h.lookup K ht hz k hv
  unfold Oper.wp
  simp [execOp, hop, hm, hx, hrun, Result.andThen]
  exact hK' _ _ hK
end
theorem StAt.next {d : Wd} {b : Nat} {w w' : World} (h : StAt d b w) (hb : Below w.heap.size w w') : StAt d b w' := by
  obtain ⟨S, h1, h2, h3⟩ := h
  exact ⟨S, h1.next hb, h2, h3⟩
theorem WR.size3 {w wr : World} {sl : Int} {r : Raw} {s : Stp} (h : WR w sl r s wr) : w.heap.size + 3 ≤ wr.heap.size := by
  obtain ⟨h1, h2, h3, x, y, z, u, h4⟩ := h
  have := h4.lt
  omega
theorem WR.store4 {w W wr : World} {sl : Int} {r ro : Raw} {s : Stp} {d : Wd} (h : WR w sl r s wr) (hR : WRows W ro d wr) (hb : Below w.heap.size w W) (a b c e : Value) : Blk (put4 wr (w.heap.size + 2) a b c e) (w.heap.size + 2) 25 #[a, b, c, e] ∧ WRows w ro d (put4 wr (w.heap.size + 2) a b c e) := by
  refine ⟨(h.stored a b c e).1, ?_⟩
  obtain ⟨h1, h2, h3, x, y, z, u, h4⟩ := h
  have hR := hR.lower hb
  have hp : ∀ r ∈ [rowI (.slice ro.A1 ro.n1 ro.c1) d.pl, rowB (.slice ro.A2 ro.n2 ro.c2) d.se, rowI (.slice ro.A3 ro.n3 ro.c3) d.sp], r.v.ownBlock ≠ some (w.heap.size + 2) := by
    intro q hq e
    have hne : q.e ≠ 25 := by
      simp only [List.mem_cons, List.not_mem_nil, or_false] at hq
      rcases hq with rfl | rfl | rfl <;> (dsimp only; decide)
    exact own_blk_ne (Rws.own hR q hq) h4 hne e.symm
  exact (((Rws.store_far (p := ⟨w.heap.size + 2, 0, none⟩) hR hp (by show w.heap.size ≤ w.heap.size + 2; omega) a).store_far (p := ⟨w.heap.size + 2, 1, none⟩) hp (by show w.heap.size ≤ w.heap.size + 2; omega) b).store_far (p := ⟨w.heap.size + 2, 2, none⟩) hp (by show w.heap.size ≤ w.heap.size + 2; omega) c).store_far (p := ⟨w.heap.size + 2, 3, none⟩) hp (by show w.heap.size ≤ w.heap.size + 2; omega) e
theorem WRows.fresh {w w' : World} {r : Raw} {d : Wd} (h : WRows w r d w') : FrB w.heap.size r := by
  intro ad ha
  rcases ha with ha | ha | ha
  · exact own_above (Rws.own h _ List.mem_cons_self) ha
  · exact own_above (Rws.own h _ (List.mem_cons_of_mem _ List.mem_cons_self)) ha
  · exact own_above (Rws.own h _ (List.mem_cons_of_mem _ (List.mem_cons_of_mem _ List.mem_cons_self))) ha
theorem form_err {d : Wd} {s : Stp} (h1 : wErr d = 0) (h2 : formB s = false) : canE d s = 3 := by
  unfold canE
  rw [if_neg (by omega), if_pos h2]
theorem out_err {d : Wd} {s : Stp} (h1 : wErr d = 0) (h2 : formB s = true) (h3 : (d.sp.length : Int) ≤ s.a ∨ (d.pl.length : Int) ≤ s.p ∨ d.sl ≤ s.s) : canE d s = 4 := by
  unfold canE
  rw [if_neg (by omega), if_neg (by simp [h2]), if_pos h3]
theorem w_err {d : Wd} {s : Stp} (h1 : wErr d ≠ 0) : canE d s = wErr d := by
  unfold canE
  rw [if_pos h1]
set_option maxHeartbeats 8000000 in
set_option maxRecDepth 20000 in
theorem stepOf_err (d : Wd) (r : Raw) (s : Stp) (w : World) (h : WOk w r d) (hlo : ∀ x ∈ d.pl, -9223372036854775808 ≤ x) (hno : wErr d ≠ 0 ∨ formB s = false ∨ ((d.sp.length : Int) ≤ s.a ∨ (d.pl.length : Int) ≤ s.p ∨ d.sl ≤ s.s)) : Calls Try.prog 55 #[wv d.sl r, sv s] w (DoPost d s w) := by
  have HWF := Lib.hid (fun W (hb : Below w.heap.size w W) => wfault_any d r W (h.next hb) hlo)
  have HFO := Lib.hid (fun W => formis_any s W)
  have HWS := Lib.hid (WR.start w d.sl r s)
  have HOK := Lib.hid (fun W => And.intro (WOk.no W) (FrB.no w.heap.size))
  have E1 := Lib.hid h.h1
  have E3 := Lib.hid h.h3
  by_cases hw0 : wErr d = 0
  · rw [hw0] at HWF
    cases hf : formB s with
    | false =>
      have hce := form_err hw0 hf
      rw [hf] at HFO
      have HD : Hid (doN d s = noWd) := Lib.hid (by unfold doN; rw [if_neg (by rw [hce]; omega)])
      unfold DoPost
      rw [HD.out, hce]
      clear h hlo hno hw0 hf hce HD
      obtain ⟨A1, n1, c1, A2, n2, c2, A3, n3, c3⟩ := r
      obtain ⟨k, a, p, s0, t⟩ := s
      unfold wv wcs sv
      unfold wv wcs at HWF
      unfold sv at HFO
      unfold wcs scs at HWS
      dsimp only at HWF HFO HWS ⊢
      generalize d.sl = sl at *
      go_enter Try.func55, Try.ntmps55
      go_wp2_with fail
      generalize World.alloc (World.alloc (World.alloc w _) _) _ = w1 at *
      obtain ⟨k0, k1, k2, k3⟩ := HWS.out.one4
      obtain ⟨g0, g1, g2, g3, g4⟩ := HWS.out.two5
      dsimp only at k0 k1 k2 k3 g0 g1 g2 g3 g4
      go_wp2_with fail
      refine (HWF.out _ HWS.out.bel).mono ?_
      rintro e w2 ⟨rfl, hb2⟩
      have HW2 := Lib.hid (HWS.out.next hb2); clear hb2 k0 k1 k2 k3 g0 g1 g2 g3 g4
      obtain ⟨k0, k1, k2, k3⟩ := HW2.out.one4
      obtain ⟨g0, g1, g2, g3, g4⟩ := HW2.out.two5
      dsimp only at k0 k1 k2 k3 g0 g1 g2 g3 g4
      go_wp2_with fail
      refine (HFO.out _).mono ?_
      rintro e w3 ⟨rfl, hb3⟩
      have HW3 := Lib.hid (HW2.out.next hb3); clear hb3 k0 k1 k2 k3 g0 g1 g2 g3 g4
      obtain ⟨k0, k1, k2, k3⟩ := HW3.out.one4
      obtain ⟨g0, g1, g2, g3, g4⟩ := HW3.out.two5
      dsimp only at k0 k1 k2 k3 g0 g1 g2 g3 g4
      obtain ⟨x0, y0, z0, u0, ⟨q0, q1, q2, q3⟩, q4, q5, q6, q7⟩ := HW3.out.room
      have HST := Lib.hid (HW3.out.stored (.int .i64 0) (.slice none 0 0) (.slice none 0 0) (.slice none 0 0))
      go_wp2_with fail
      exact ret_blk2 rfl rfl rfl rfl HST.out.1 (n := 4) rfl (by kernel_rfl) ⟨noRaw, rfl, HOK.out _, HST.out.2⟩
    | true =>
      have hrg : (d.sp.length : Int) ≤ s.a ∨ (d.pl.length : Int) ≤ s.p ∨ d.sl ≤ s.s := by
        rcases hno with h9 | h9 | h9
        · exact absurd hw0 h9
        · rw [hf] at h9; cases h9
        · exact h9
      have hce := out_err hw0 hf hrg
      rw [hf] at HFO
      have HD : Hid (doN d s = noWd) := Lib.hid (by unfold doN; rw [if_neg (by rw [hce]; omega)])
      unfold DoPost
      rw [HD.out, hce]
      rw [← E1.out, ← E3.out] at hrg
      clear h hlo hno hw0 hf hce HD E1 E3
      obtain ⟨A1, n1, c1, A2, n2, c2, A3, n3, c3⟩ := r
      obtain ⟨k, a, p, s0, t⟩ := s
      unfold wv wcs sv
      unfold wv wcs at HWF
      unfold sv at HFO
      unfold wcs scs at HWS
      dsimp only at HWF HFO HWS ⊢
      generalize d.sl = sl at *
      dsimp only at hrg
      have hrg2 : ((n3 : Int) ≤ a) ∨ (a < (n3 : Int) ∧ (n1 : Int) ≤ p) ∨ (a < (n3 : Int) ∧ p < (n1 : Int) ∧ sl ≤ s0) := by omega
      clear hrg
      rcases hrg2 with h1 | ⟨h1, h2⟩ | ⟨h1, h2, h3⟩
      all_goals
        go_enter Try.func55, Try.ntmps55
        go_wp2_with fail
        generalize World.alloc (World.alloc (World.alloc w _) _) _ = w1 at *
        obtain ⟨k0, k1, k2, k3⟩ := HWS.out.one4
        obtain ⟨g0, g1, g2, g3, g4⟩ := HWS.out.two5
        dsimp only at k0 k1 k2 k3 g0 g1 g2 g3 g4
        go_wp2_with fail
        refine (HWF.out _ HWS.out.bel).mono ?_
        rintro e w2 ⟨rfl, hb2⟩
        have HW2 := Lib.hid (HWS.out.next hb2); clear hb2 k0 k1 k2 k3 g0 g1 g2 g3 g4
        obtain ⟨k0, k1, k2, k3⟩ := HW2.out.one4
        obtain ⟨g0, g1, g2, g3, g4⟩ := HW2.out.two5
        dsimp only at k0 k1 k2 k3 g0 g1 g2 g3 g4
        go_wp2_with fail
        refine (HFO.out _).mono ?_
        rintro e w3 ⟨rfl, hb3⟩
        have HW3 := Lib.hid (HW2.out.next hb3); clear hb3 k0 k1 k2 k3 g0 g1 g2 g3 g4
        obtain ⟨k0, k1, k2, k3⟩ := HW3.out.one4
        obtain ⟨g0, g1, g2, g3, g4⟩ := HW3.out.two5
        dsimp only at k0 k1 k2 k3 g0 g1 g2 g3 g4
        obtain ⟨x0, y0, z0, u0, ⟨q0, q1, q2, q3⟩, q4, q5, q6, q7⟩ := HW3.out.room
        have HST := Lib.hid (HW3.out.stored (.int .i64 0) (.slice none 0 0) (.slice none 0 0) (.slice none 0 0))
        go_wp2_with fail
        exact ret_blk2 rfl rfl rfl rfl HST.out.1 (n := 4) rfl (by kernel_rfl) ⟨noRaw, rfl, HOK.out _, HST.out.2⟩
  · have hce := w_err (s := s) hw0
    have HD : Hid (doN d s = noWd) := Lib.hid (by unfold doN; rw [if_neg (by rw [hce]; exact hw0)])
    have hne : (wErr d != 0) = true := by simp [hw0]
    unfold DoPost
    rw [HD.out, hce]
    clear h hlo hno hw0 hce HD
    generalize wErr d = ce at *
    obtain ⟨A1, n1, c1, A2, n2, c2, A3, n3, c3⟩ := r
    obtain ⟨k, a, p, s0, t⟩ := s
    unfold wv wcs sv
    unfold wv wcs at HWF
    unfold sv at HFO
    unfold wcs scs at HWS
    dsimp only at HWF HFO HWS ⊢
    generalize d.sl = sl at *
    go_enter Try.func55, Try.ntmps55
    go_wp2_with fail
    generalize World.alloc (World.alloc (World.alloc w _) _) _ = w1 at *
    obtain ⟨k0, k1, k2, k3⟩ := HWS.out.one4
    obtain ⟨g0, g1, g2, g3, g4⟩ := HWS.out.two5
    dsimp only at k0 k1 k2 k3 g0 g1 g2 g3 g4
    go_wp2_with fail
    refine (HWF.out _ HWS.out.bel).mono ?_
    rintro e w2 ⟨rfl, hb2⟩
    have HW2 := Lib.hid (HWS.out.next hb2); clear hb2 k0 k1 k2 k3 g0 g1 g2 g3 g4
    obtain ⟨k0, k1, k2, k3⟩ := HW2.out.one4
    obtain ⟨g0, g1, g2, g3, g4⟩ := HW2.out.two5
    dsimp only at k0 k1 k2 k3 g0 g1 g2 g3 g4
    obtain ⟨x0, y0, z0, u0, ⟨q0, q1, q2, q3⟩, q4, q5, q6, q7⟩ := HW2.out.room
    have HST := Lib.hid (HW2.out.stored (.int .i64 0) (.slice none 0 0) (.slice none 0 0) (.slice none 0 0))
    go_wp2_with fail
    exact ret_blk2 rfl rfl rfl rfl HST.out.1 (n := 4) rfl (by kernel_rfl) ⟨noRaw, rfl, HOK.out _, HST.out.2⟩


theorem do_err (d : Wd) (s : Stp) (w W : World) (c : Int) (hc : canE d s = c) (h0 : c ≠ 0) (hb : Below w.heap.size w W) : DoPost d s w (.returned (.tuple #[.agg #[.int .i64 0, .slice none 0 0, .slice none 0 0, .slice none 0 0], .int .i64 c])) W := by
  have h1 : doN d s = noWd := by unfold doN; rw [if_neg (by rw [hc]; exact h0)]
  exact ⟨noRaw, by rw [h1, hc]; rfl, by rw [h1]; exact ⟨WOk.no W, FrB.no _⟩, hb⟩
theorem do_ok (d : Wd) (s : Stp) (w W : World) (r' : Raw) (hc : canE d s = 0) (h : WRows w r' (stepN d s) W) : DoPost d s w (.returned (.tuple #[.agg #[.int .i64 d.sl, .slice r'.A1 r'.n1 r'.c1, .slice r'.A2 r'.n2 r'.c2, .slice r'.A3 r'.n3 r'.c3], .int .i64 0])) W := by
  have h1 : doN d s = stepN d s := by unfold doN; rw [if_pos hc]
  exact ⟨r', by rw [h1, hc, stepN_len.1]; rfl, by rw [h1]; exact ⟨h.ok, h.fresh⟩, Rws.below h⟩
set_option maxHeartbeats 8000000 in
set_option maxRecDepth 20000 in
theorem stepOf_any (d : Wd) (r : Raw) (s : Stp) (w : World) (h : WOk w r d) (hlo : ∀ x ∈ d.pl, -9223372036854775808 ≤ x) : Calls Try.prog 55 #[wv d.sl r, sv s] w (DoPost d s w) := by
  by_cases hno : wErr d ≠ 0 ∨ formB s = false ∨ ((d.sp.length : Int) ≤ s.a ∨ (d.pl.length : Int) ≤ s.p ∨ d.sl ≤ s.s)
  · exact stepOf_err d r s w h hlo hno
  · have hw0 : wErr d = 0 := Classical.byContradiction fun h9 => hno (.inl h9)
    have hf : formB s = true := by cases h9 : formB s with
      | true => rfl
      | false => exact absurd (.inr (.inl h9)) hno
    have hrg : ¬ ((d.sp.length : Int) ≤ s.a ∨ (d.pl.length : Int) ≤ s.p ∨ d.sl ≤ s.s) := fun h9 => hno (.inr (.inr h9))
    have hcm := can_of hw0 hf hrg
    have hv := vd_of hw0
    obtain ⟨f1, f2, f3, f4⟩ := formB_inv hf
    have E1 := Lib.hid h.h1
    have E3 := Lib.hid h.h3
    have HWF := Lib.hid (fun W (hb : Below w.heap.size w W) => wfault_any d r W (h.next hb) hlo)
    have HFO := Lib.hid (fun W => formis_any s W)
    have HSO := Lib.hid (fun W (hb : Below w.heap.size w W) => stateOf_any d r W (h.next hb) hv)
    have HLI := Lib.hid (fun b kp W (h9 : StAt d b W) (hk : kp < d.pl.length) => lies_any d b kp W h9 hv hk)
    have HGO := Lib.hid (fun b spot free here W (h9 : StAt d b W) => goes_any d b s spot free here W h9 hv)
    have HCG := Lib.hid (fun (hc : canE d s = 0) b W (h9 : StAt d b W) => change_any d s b W h9 hc)
    have HWO : Hid (canE d s = 0 → ∀ b W, StAt (stepN d s) b W → Calls Try.prog 89 #[.map (some b), .int .i64 d.sl, .int .i64 r.n1, .int .i64 r.n3] W fun e w' => ∃ r', e = .returned (wv d.sl r') ∧ WRows W r' (stepN d s) w') := Lib.hid (fun hc b W h9 => by
      obtain ⟨l0, l1, l2, l3⟩ := stepN_len (d := d) (s := s)
      obtain ⟨m1, m2⟩ := stepN_lo hc
      have h10 := world_any (stepN d s) b W h9 (by rw [l1, l2]; exact hv.se) (by rw [l1]; exact hv.p6) (by rw [l3]; exact hv.s4) m1 m2 d.sl
      rw [l1, l3, ← E1.out, ← E3.out] at h10
      exact h10)
    have HWS := Lib.hid (WR.start w d.sl r s)
    have HFR := Lib.hid (fun (S : List Ft) (hin : ∀ f, f ∈ S ↔ inS d f) => tFree (s := s) hin f3 (by omega))
    have HHE := Lib.hid (fun (S : List Ft) (hin : ∀ f, f ∈ S ↔ inS d f) => tHere (s := s) hin f3 (by omega))
    have HHN := Lib.hid (here_neg (d := d) (s := s))
    have HSE := Lib.hid (fun (S : List Ft) (hin : ∀ f, f ∈ S ↔ inS d f) (h0 : 0 ≤ s.p) => tSeen (s := s) hin hv.se h0 (by omega))
    have HEM := Lib.hid (fun (S : List Ft) (hin : ∀ f, f ∈ S ↔ inS d f) (h0 : 0 ≤ s.s) => tEmpty (s := s) hin hv.sl0 h0 (by omega))
    have M0 : Hid (s.k = 0 → -1 ≤ targ d s → canE d s = goesV s.p (targ d s) (!full d s) (here d s) (decide (targ d s ∈ d.sp))) := Lib.hid (fun hk ht => by rw [hcm]; exact may_goes hk ht)
    have M1 : Hid (s.k = 1 → canE d s = if (!full d s) = false then 6 else if here d s = false then 7 else if nthB d.se s.p.toNat = false then 18 else 0) := Lib.hid (fun hk => by rw [hcm]; exact may_look hk)
    have M3 : Hid (s.k = 3 → canE d s = if (!full d s) = false then 6 else if here d s = false then 7 else if nthB d.se s.p.toNat = true then 5 else 0) := Lib.hid (fun hk => by rw [hcm]; exact may_see hk)
    have M2 : Hid (s.k = 2 → canE d s = if (!full d s) = true then 7 else if here d s = false then 7 else if (!decide (0 ≤ inn d s.s)) = false then 5 else 0) := Lib.hid (fun hk => by rw [hcm]; exact may_put hk)
    have M4 : Hid (s.k = 4 → canE d s = 0) := Lib.hid (fun hk => by rw [hcm]; exact may_wait hk)
    have HTLO := Lib.hid (targ_lo (d := d) f2)
    have DE := Lib.hid (do_err d s w)
    have DO := Lib.hid (do_ok d s w)
    have HTP : Hid (0 ≤ s.p → targ d s = whr d s.p) := Lib.hid (fun h9 => by unfold targ; rw [if_pos h9])
    have HTS : Hid (s.p < 0 → targ d s = s.s) := Lib.hid (fun h9 => by unfold targ; rw [if_neg (by omega)])
    have HF4 := Lib.hid f4
    have r1 : s.a < (r.n3 : Int) := by rw [E3.out]; omega
    have r2 : s.p < (r.n1 : Int) := by rw [E1.out]; omega
    have r3 : s.s < d.sl := by omega
    have HR2 := Lib.hid (show s.p < (d.pl.length : Int) by omega)
    rw [hw0] at HWF
    rw [hf] at HFO
    generalize (!full d s) = fr at *
    generalize here d s = he at *
    generalize nthB d.se s.p.toNat = sn at *
    generalize (!decide (0 ≤ inn d s.s)) = em at *
    generalize canE d s = E at *
    generalize targ d s = tv at *
    generalize DoPost d s w = PP at *
    generalize stepN d s = d2 at *
    clear h hlo hno hw0 hf hrg hcm hv f4
    obtain ⟨A1, n1, c1, A2, n2, c2, A3, n3, c3⟩ := r
    obtain ⟨k, a, p, s0, t⟩ := s
    dsimp only at f1 f2 f3 HF4 r1 r2 r3 HTP HTS M0 M1 M2 M3 M4 HR2 HFR HHE HSE HEM
    unfold wv wcs sv
    unfold wv wcs at HWF HSO HWO
    unfold sv at HFO HGO HCG
    unfold wcs scs at HWS
    dsimp only at HWF HFO HWS HSO HWO HGO HCG DE DO ⊢
    generalize d.sl = sl at *
    go_enter Try.func55, Try.ntmps55
    go_wp2_with fail
    generalize World.alloc (World.alloc (World.alloc w _) _) _ = w1 at *
    obtain ⟨k0, k1, k2, k3⟩ := HWS.out.one4
    obtain ⟨g0, g1, g2, g3, g4⟩ := HWS.out.two5
    dsimp only at k0 k1 k2 k3 g0 g1 g2 g3 g4
    go_wp2_with fail
    refine (HWF.out _ HWS.out.bel).mono ?_
    rintro e w2 ⟨rfl, hb2⟩
    have HW2 := Lib.hid (HWS.out.next hb2); clear hb2 k0 k1 k2 k3 g0 g1 g2 g3 g4
    obtain ⟨k0, k1, k2, k3⟩ := HW2.out.one4
    obtain ⟨g0, g1, g2, g3, g4⟩ := HW2.out.two5
    dsimp only at k0 k1 k2 k3 g0 g1 g2 g3 g4
    go_wp2_with fail
    refine (HFO.out _).mono ?_
    rintro e w3 ⟨rfl, hb3⟩
    have HW3 := Lib.hid (HW2.out.next hb3); clear hb3 k0 k1 k2 k3 g0 g1 g2 g3 g4
    obtain ⟨k0, k1, k2, k3⟩ := HW3.out.one4
    obtain ⟨g0, g1, g2, g3, g4⟩ := HW3.out.two5
    dsimp only at k0 k1 k2 k3 g0 g1 g2 g3 g4
    go_wp2_with fail
    refine (HSO.out _ HW3.out.bel).mono ?_
    rintro e w4 ⟨b, rfl, hbb, ⟨S, hset, hnd, hin⟩, hb4⟩
    have HW4 := Lib.hid (HW3.out.next hb4)
    have HB4 : Hid (w.heap.size + 3 ≤ b) := Lib.hid (by have := HW3.out.size3; omega)
    have ST4 : Hid (StAt d b w4) := Lib.hid ⟨S, hset, hnd, hin⟩
    have HND := Lib.hid hnd
    have HIN := Lib.hid hin
    have SET4 := Lib.hid hset
    have HFR2 := Lib.hid (HFR.out S hin)
    have HHE2 := Lib.hid (HHE.out S hin)
    have HSE2 := Lib.hid (HSE.out S hin)
    have HEM2 := Lib.hid (HEM.out S hin)
    clear k0 k1 k2 k3 g0 g1 g2 g3 g4 hbb hset hnd hin hb4 HFR HHE HSE HEM HWF HFO HSO HWS HW2 HW3
    obtain ⟨k0, k1, k2, k3⟩ := HW4.out.one4
    obtain ⟨g0, g1, g2, g3, g4⟩ := HW4.out.two5
    dsimp only at k0 k1 k2 k3 g0 g1 g2 g3 g4
    by_cases hp0 : 0 ≤ p
    · obtain ⟨kp, rfl⟩ := Int.eq_ofNat_of_zero_le hp0
      have HKP : Hid (kp < d.pl.length) := Lib.hid (by have := HR2.out; omega)
      have HL : Hid (Calls Try.prog 85 #[.map (some b), .int .i64 kp] w4 fun e w' => e = .returned (.int .i64 tv) ∧ Below w4.heap.size w4 w') := Lib.hid (by
        have h9 := HLI.out b kp w4 ST4.out HKP.out
        rw [← HTP.out hp0] at h9
        exact h9)
      have HSE3 := Lib.hid (HSE2.out hp0)
      clear HSE2 HLI HTP HTS
      have HSE2 := HSE3
      clear HSE3
      go_wp2_with fail
      refine HL.out.mono ?_
      rintro e w5 ⟨rfl, hb5⟩
      have HW5 := Lib.hid (HW4.out.next hb5)
      have ST5 := Lib.hid (ST4.out.next hb5)
      have SET5 := Lib.hid (SET4.out.next hb5)
      clear k0 k1 k2 k3 g0 g1 g2 g3 g4 hb5 HW4 ST4 SET4 HL
      obtain ⟨k0, k1, k2, k3⟩ := HW5.out.one4
      obtain ⟨g0, g1, g2, g3, g4⟩ := HW5.out.two5
      dsimp only at k0 k1 k2 k3 g0 g1 g2 g3 g4
      rcases (show tv = -1 ∨ 0 ≤ tv by have := HTLO.out; omega) with htv | htv
      · obtain rfl := HHN.out htv
        clear HHE2 HHN
        subst htv
        go_upto_region 16 with (at_lookup; refine wpList_set_get _ rfl _ _ 114 rfl klaw_ft Try.underlying114 (zB _) SET5.out ⟨3, a, 0⟩ HFR2.out rfl rfl ?_)
        have hbx : Below w5.heap.size w5 (w5.alloc (.cells #[.int .i64 5, .int .i64 (kp : Int), .int .i64 0] 45)) := (Below.refl _ _).alloc (Nat.le_refl _) _
        have HW6 := Lib.hid (HW5.out.next hbx)
        have ST6 := Lib.hid (ST5.out.next hbx)
        have SET6 := Lib.hid (SET5.out.next hbx)
        have SN6 := Lib.hid (Blk.new w5 45 #[.int .i64 5, .int .i64 (kp : Int), .int .i64 0])
        clear hbx k0 k1 k2 k3 g0 g1 g2 g3 g4 HW5 ST5 SET5
        generalize World.alloc w5 _ = w6 at *
        generalize w5.heap.size = po at *
        obtain ⟨k0, k1, k2, k3⟩ := HW6.out.one4
        obtain ⟨g0, g1, g2, g3, g4⟩ := HW6.out.two5
        dsimp only at k0 k1 k2 k3 g0 g1 g2 g3 g4
        have o0 := SN6.out.cell 0
        have o1 := SN6.out.cell 1
        have o2 := SN6.out.cell 2
        simp at o0 o1 o2
        rcases HF4.out with ⟨hk, fp, ft⟩ | ⟨hk, fp, fs, ft⟩ | ⟨hk, fs, fp, ft⟩ | ⟨hk, fp, fs, ft, ft2⟩
        · subst hk ft
          have HC := Lib.hid (M0.out rfl HTLO.out)
          have HG1 := Lib.hid (HGO.out b (-1) fr false w6 ST6.out)
          rw [← HC.out] at HG1
          go_wp2_with fail
          refine HG1.out.mono ?_
          rintro e w7 ⟨rfl, hb7⟩
          have HW7 := Lib.hid (HW6.out.next hb7)
          have ST7 := Lib.hid (ST6.out.next hb7)
          clear k0 k1 k2 k3 g0 g1 g2 g3 g4 hb7 o0 o1 o2
          obtain ⟨k0, k1, k2, k3⟩ := HW7.out.one4
          obtain ⟨g0, g1, g2, g3, g4⟩ := HW7.out.two5
          dsimp only at k0 k1 k2 k3 g0 g1 g2 g3 g4
          by_cases hE : E = 0
          · have HE0 := Lib.hid hE
            have hq : (E != 0) = false := by rw [hE]; rfl
            clear hE
            go_wp2_with fail
            refine (HCG.out HE0.out b _ ST7.out).mono ?_
            rintro e w8 ⟨rfl, st8, hb8⟩
            have HW8 := Lib.hid (HW7.out.grow HB4.out hb8)
            have ST8 := Lib.hid st8
            clear k0 k1 k2 k3 g0 g1 g2 g3 g4 st8 hb8
            obtain ⟨k0, k1, k2, k3⟩ := HW8.out.one4
            obtain ⟨g0, g1, g2, g3, g4⟩ := HW8.out.two5
            dsimp only at k0 k1 k2 k3 g0 g1 g2 g3 g4
            go_wp2_with fail
            refine (HWO.out HE0.out b _ ST8.out).mono ?_
            rintro e w9 ⟨⟨B1, m1, e1, B2, m2, e2, B3, m3, e3⟩, rfl, hr9⟩
            dsimp only at hr9 ⊢
            have HW9 := Lib.hid (HW8.out.next (Rws.below hr9))
            have HST := Lib.hid (HW9.out.store4 hr9 HW8.out.bel (.int .i64 sl) (.slice B1 m1 e1) (.slice B2 m2 e2) (.slice B3 m3 e3))
            obtain ⟨x0, y0, z0, u0, ⟨q0, q1, q2, q3⟩, q4, q5, q6, q7⟩ := HW9.out.room
            have HD9 := Lib.hid (DO.out _ ⟨B1, m1, e1, B2, m2, e2, B3, m3, e3⟩ HE0.out HST.out.2)
            clear hr9
            go_wp2_with fail
            exact ret_blk2 rfl rfl rfl rfl HST.out.1 (n := 4) rfl (by kernel_rfl) HD9.out
          · have hq : (E != 0) = true := by simp [hE]
            have HE0 := Lib.hid hE
            clear hE
            obtain ⟨x0, y0, z0, u0, ⟨q0, q1, q2, q3⟩, q4, q5, q6, q7⟩ := HW7.out.room
            have HST := Lib.hid (HW7.out.stored (.int .i64 0) (.slice none 0 0) (.slice none 0 0) (.slice none 0 0))
            have HE9 := Lib.hid (DE.out _ E rfl HE0.out HST.out.2)
            go_wp2_with fail
            exact ret_blk2 rfl rfl rfl rfl HST.out.1 (n := 4) rfl (by kernel_rfl) HE9.out
        · rcases hk with hk | hk
          · subst hk ft
            have HC := Lib.hid (M1.out rfl)
            cases fr with
            | false =>
              have HG1 : Hid (Calls Try.prog 87 #[.bool false, .bool false] w6 fun e w' => e = .returned (.int .i64 6) ∧ w' = w6) := Lib.hid (grasp_any false false w6)
              go_wp2_with fail
              refine HG1.out.mono ?_
              rintro e w7 ⟨rfl, rfl⟩
              obtain ⟨x0, y0, z0, u0, ⟨q0, q1, q2, q3⟩, q4, q5, q6, q7⟩ := HW6.out.room
              have HST := Lib.hid (HW6.out.stored (.int .i64 0) (.slice none 0 0) (.slice none 0 0) (.slice none 0 0))
              have HE9 := Lib.hid (DE.out _ 6 HC.out (by omega) (HST.out.2))
              go_wp2_with fail
              exact ret_blk2 rfl rfl rfl rfl HST.out.1 (n := 4) rfl (by kernel_rfl) HE9.out
            | true =>
              have HG1 : Hid (Calls Try.prog 87 #[.bool true, .bool false] w6 fun e w' => e = .returned (.int .i64 7) ∧ w' = w6) := Lib.hid (grasp_any true false w6)
              go_wp2_with fail
              refine HG1.out.mono ?_
              rintro e w7 ⟨rfl, rfl⟩
              obtain ⟨x0, y0, z0, u0, ⟨q0, q1, q2, q3⟩, q4, q5, q6, q7⟩ := HW6.out.room
              have HST := Lib.hid (HW6.out.stored (.int .i64 0) (.slice none 0 0) (.slice none 0 0) (.slice none 0 0))
              have HE9 := Lib.hid (DE.out _ 7 HC.out (by omega) (HST.out.2))
              go_wp2_with fail
              exact ret_blk2 rfl rfl rfl rfl HST.out.1 (n := 4) rfl (by kernel_rfl) HE9.out
          · subst hk ft
            have HC := Lib.hid (M3.out rfl)
            cases fr with
            | false =>
              have HG1 : Hid (Calls Try.prog 87 #[.bool false, .bool false] w6 fun e w' => e = .returned (.int .i64 6) ∧ w' = w6) := Lib.hid (grasp_any false false w6)
              go_wp2_with fail
              refine HG1.out.mono ?_
              rintro e w7 ⟨rfl, rfl⟩
              obtain ⟨x0, y0, z0, u0, ⟨q0, q1, q2, q3⟩, q4, q5, q6, q7⟩ := HW6.out.room
              have HST := Lib.hid (HW6.out.stored (.int .i64 0) (.slice none 0 0) (.slice none 0 0) (.slice none 0 0))
              have HE9 := Lib.hid (DE.out _ 6 HC.out (by omega) (HST.out.2))
              go_wp2_with fail
              exact ret_blk2 rfl rfl rfl rfl HST.out.1 (n := 4) rfl (by kernel_rfl) HE9.out
            | true =>
              have HG1 : Hid (Calls Try.prog 87 #[.bool true, .bool false] w6 fun e w' => e = .returned (.int .i64 7) ∧ w' = w6) := Lib.hid (grasp_any true false w6)
              go_wp2_with fail
              refine HG1.out.mono ?_
              rintro e w7 ⟨rfl, rfl⟩
              obtain ⟨x0, y0, z0, u0, ⟨q0, q1, q2, q3⟩, q4, q5, q6, q7⟩ := HW6.out.room
              have HST := Lib.hid (HW6.out.stored (.int .i64 0) (.slice none 0 0) (.slice none 0 0) (.slice none 0 0))
              have HE9 := Lib.hid (DE.out _ 7 HC.out (by omega) (HST.out.2))
              go_wp2_with fail
              exact ret_blk2 rfl rfl rfl rfl HST.out.1 (n := 4) rfl (by kernel_rfl) HE9.out
        · exact absurd fp (by omega)
        · exact absurd fp (by omega)
      · have HHE3 := Lib.hid (HHE2.out htv)
        clear HHE2 HHN
        go_upto_region 16 with (first | (at_lookup; refine wpList_set_get _ rfl _ _ 114 rfl klaw_ft Try.underlying114 (zB _) SET5.out ⟨3, a, 0⟩ HFR2.out rfl rfl ?_) | (at_lookup; refine wpList_set_getW (by kernel_rfl) _ _ 114 rfl klaw_ft Try.underlying114 (zB _) SET5.out ⟨6, a, tv⟩ HHE3.out rfl rfl ?_))
        have hbx : Below w5.heap.size w5 (w5.alloc (.cells #[.int .i64 5, .int .i64 (kp : Int), .int .i64 0] 45)) := (Below.refl _ _).alloc (Nat.le_refl _) _
        have HW6 := Lib.hid (HW5.out.next hbx)
        have ST6 := Lib.hid (ST5.out.next hbx)
        have SET6 := Lib.hid (SET5.out.next hbx)
        have SN6 := Lib.hid (Blk.new w5 45 #[.int .i64 5, .int .i64 (kp : Int), .int .i64 0])
        clear hbx k0 k1 k2 k3 g0 g1 g2 g3 g4 HW5 ST5 SET5
        generalize World.alloc w5 _ = w6 at *
        generalize w5.heap.size = po at *
        obtain ⟨k0, k1, k2, k3⟩ := HW6.out.one4
        obtain ⟨g0, g1, g2, g3, g4⟩ := HW6.out.two5
        dsimp only at k0 k1 k2 k3 g0 g1 g2 g3 g4
        have o0 := SN6.out.cell 0
        have o1 := SN6.out.cell 1
        have o2 := SN6.out.cell 2
        simp at o0 o1 o2
        rcases HF4.out with ⟨hk, fp, ft⟩ | ⟨hk, fp, fs, ft⟩ | ⟨hk, fs, fp, ft⟩ | ⟨hk, fp, fs, ft, ft2⟩
        · subst hk ft
          have HC := Lib.hid (M0.out rfl HTLO.out)
          have HG1 := Lib.hid (HGO.out b (tv) fr he w6 ST6.out)
          rw [← HC.out] at HG1
          go_wp2_with fail
          refine HG1.out.mono ?_
          rintro e w7 ⟨rfl, hb7⟩
          have HW7 := Lib.hid (HW6.out.next hb7)
          have ST7 := Lib.hid (ST6.out.next hb7)
          clear k0 k1 k2 k3 g0 g1 g2 g3 g4 hb7 o0 o1 o2
          obtain ⟨k0, k1, k2, k3⟩ := HW7.out.one4
          obtain ⟨g0, g1, g2, g3, g4⟩ := HW7.out.two5
          dsimp only at k0 k1 k2 k3 g0 g1 g2 g3 g4
          by_cases hE : E = 0
          · have HE0 := Lib.hid hE
            have hq : (E != 0) = false := by rw [hE]; rfl
            clear hE
            go_wp2_with fail
            refine (HCG.out HE0.out b _ ST7.out).mono ?_
            rintro e w8 ⟨rfl, st8, hb8⟩
            have HW8 := Lib.hid (HW7.out.grow HB4.out hb8)
            have ST8 := Lib.hid st8
            clear k0 k1 k2 k3 g0 g1 g2 g3 g4 st8 hb8
            obtain ⟨k0, k1, k2, k3⟩ := HW8.out.one4
            obtain ⟨g0, g1, g2, g3, g4⟩ := HW8.out.two5
            dsimp only at k0 k1 k2 k3 g0 g1 g2 g3 g4
            go_wp2_with fail
            refine (HWO.out HE0.out b _ ST8.out).mono ?_
            rintro e w9 ⟨⟨B1, m1, e1, B2, m2, e2, B3, m3, e3⟩, rfl, hr9⟩
            dsimp only at hr9 ⊢
            have HW9 := Lib.hid (HW8.out.next (Rws.below hr9))
            have HST := Lib.hid (HW9.out.store4 hr9 HW8.out.bel (.int .i64 sl) (.slice B1 m1 e1) (.slice B2 m2 e2) (.slice B3 m3 e3))
            obtain ⟨x0, y0, z0, u0, ⟨q0, q1, q2, q3⟩, q4, q5, q6, q7⟩ := HW9.out.room
            have HD9 := Lib.hid (DO.out _ ⟨B1, m1, e1, B2, m2, e2, B3, m3, e3⟩ HE0.out HST.out.2)
            clear hr9
            go_wp2_with fail
            exact ret_blk2 rfl rfl rfl rfl HST.out.1 (n := 4) rfl (by kernel_rfl) HD9.out
          · have hq : (E != 0) = true := by simp [hE]
            have HE0 := Lib.hid hE
            clear hE
            obtain ⟨x0, y0, z0, u0, ⟨q0, q1, q2, q3⟩, q4, q5, q6, q7⟩ := HW7.out.room
            have HST := Lib.hid (HW7.out.stored (.int .i64 0) (.slice none 0 0) (.slice none 0 0) (.slice none 0 0))
            have HE9 := Lib.hid (DE.out _ E rfl HE0.out HST.out.2)
            go_wp2_with fail
            exact ret_blk2 rfl rfl rfl rfl HST.out.1 (n := 4) rfl (by kernel_rfl) HE9.out
        · rcases hk with hk | hk
          · subst hk ft
            have HC := Lib.hid (M1.out rfl)
            cases fr with
            | false =>
              have HG1 : Hid (Calls Try.prog 87 #[.bool false, .bool he] w6 fun e w' => e = .returned (.int .i64 6) ∧ w' = w6) := Lib.hid (grasp_any false he w6)
              go_wp2_with fail
              refine HG1.out.mono ?_
              rintro e w7 ⟨rfl, rfl⟩
              obtain ⟨x0, y0, z0, u0, ⟨q0, q1, q2, q3⟩, q4, q5, q6, q7⟩ := HW6.out.room
              have HST := Lib.hid (HW6.out.stored (.int .i64 0) (.slice none 0 0) (.slice none 0 0) (.slice none 0 0))
              have HE9 := Lib.hid (DE.out _ 6 HC.out (by omega) (HST.out.2))
              go_wp2_with fail
              exact ret_blk2 rfl rfl rfl rfl HST.out.1 (n := 4) rfl (by kernel_rfl) HE9.out
            | true =>
              cases he with
              | false =>
                have HG1 : Hid (Calls Try.prog 87 #[.bool true, .bool false] w6 fun e w' => e = .returned (.int .i64 7) ∧ w' = w6) := Lib.hid (grasp_any true false w6)
                go_wp2_with fail
                refine HG1.out.mono ?_
                rintro e w7 ⟨rfl, rfl⟩
                obtain ⟨x0, y0, z0, u0, ⟨q0, q1, q2, q3⟩, q4, q5, q6, q7⟩ := HW6.out.room
                have HST := Lib.hid (HW6.out.stored (.int .i64 0) (.slice none 0 0) (.slice none 0 0) (.slice none 0 0))
                have HE9 := Lib.hid (DE.out _ 7 HC.out (by omega) (HST.out.2))
                go_wp2_with fail
                exact ret_blk2 rfl rfl rfl rfl HST.out.1 (n := 4) rfl (by kernel_rfl) HE9.out
              | true =>
                cases sn with
                | false =>
                  have HG1 : Hid (Calls Try.prog 87 #[.bool true, .bool true] w6 fun e w' => e = .returned (.int .i64 0) ∧ w' = w6) := Lib.hid (grasp_any true true w6)
                  go_wp2_with fail
                  refine HG1.out.mono ?_
                  rintro e w7 ⟨rfl, rfl⟩
                  obtain ⟨x0, y0, z0, u0, ⟨q0, q1, q2, q3⟩, q4, q5, q6, q7⟩ := HW6.out.room
                  have HST := Lib.hid (HW6.out.stored (.int .i64 0) (.slice none 0 0) (.slice none 0 0) (.slice none 0 0))
                  have HE9 := Lib.hid (DE.out _ 18 HC.out (by omega) (HST.out.2))
                  go_wp2_with (at_lookup; refine wpList_set_getW (by kernel_rfl) _ _ 114 rfl klaw_ft Try.underlying114 (zB _) SET6.out ⟨5, (kp : Int), 0⟩ HSE2.out rfl rfl ?_)
                  exact ret_blk2 rfl rfl rfl rfl HST.out.1 (n := 4) rfl (by kernel_rfl) HE9.out
                | true =>
                  have HG1 : Hid (Calls Try.prog 87 #[.bool true, .bool true] w6 fun e w' => e = .returned (.int .i64 0) ∧ w' = w6) := Lib.hid (grasp_any true true w6)
                  go_wp2_with fail
                  refine HG1.out.mono ?_
                  rintro e w7 ⟨rfl, rfl⟩
                  go_wp2_with (at_lookup; refine wpList_set_getW (by kernel_rfl) _ _ 114 rfl klaw_ft Try.underlying114 (zB _) SET6.out ⟨5, (kp : Int), 0⟩ HSE2.out rfl rfl ?_)
                  refine (HCG.out HC.out b _ ST6.out).mono ?_
                  rintro e w8 ⟨rfl, st8, hb8⟩
                  have HW8 := Lib.hid (HW6.out.grow HB4.out hb8)
                  have ST8 := Lib.hid st8
                  clear k0 k1 k2 k3 g0 g1 g2 g3 g4 st8 hb8
                  obtain ⟨k0, k1, k2, k3⟩ := HW8.out.one4
                  obtain ⟨g0, g1, g2, g3, g4⟩ := HW8.out.two5
                  dsimp only at k0 k1 k2 k3 g0 g1 g2 g3 g4
                  go_wp2_with fail
                  refine (HWO.out HC.out b _ ST8.out).mono ?_
                  rintro e w9 ⟨⟨B1, m1, e1, B2, m2, e2, B3, m3, e3⟩, rfl, hr9⟩
                  dsimp only at hr9 ⊢
                  have HW9 := Lib.hid (HW8.out.next (Rws.below hr9))
                  have HST := Lib.hid (HW9.out.store4 hr9 HW8.out.bel (.int .i64 sl) (.slice B1 m1 e1) (.slice B2 m2 e2) (.slice B3 m3 e3))
                  obtain ⟨x0, y0, z0, u0, ⟨q0, q1, q2, q3⟩, q4, q5, q6, q7⟩ := HW9.out.room
                  have HD9 := Lib.hid (DO.out _ ⟨B1, m1, e1, B2, m2, e2, B3, m3, e3⟩ HC.out HST.out.2)
                  clear hr9
                  go_wp2_with fail
                  exact ret_blk2 rfl rfl rfl rfl HST.out.1 (n := 4) rfl (by kernel_rfl) HD9.out
          · subst hk ft
            have HC := Lib.hid (M3.out rfl)
            cases fr with
            | false =>
              have HG1 : Hid (Calls Try.prog 87 #[.bool false, .bool he] w6 fun e w' => e = .returned (.int .i64 6) ∧ w' = w6) := Lib.hid (grasp_any false he w6)
              go_wp2_with fail
              refine HG1.out.mono ?_
              rintro e w7 ⟨rfl, rfl⟩
              obtain ⟨x0, y0, z0, u0, ⟨q0, q1, q2, q3⟩, q4, q5, q6, q7⟩ := HW6.out.room
              have HST := Lib.hid (HW6.out.stored (.int .i64 0) (.slice none 0 0) (.slice none 0 0) (.slice none 0 0))
              have HE9 := Lib.hid (DE.out _ 6 HC.out (by omega) (HST.out.2))
              go_wp2_with fail
              exact ret_blk2 rfl rfl rfl rfl HST.out.1 (n := 4) rfl (by kernel_rfl) HE9.out
            | true =>
              cases he with
              | false =>
                have HG1 : Hid (Calls Try.prog 87 #[.bool true, .bool false] w6 fun e w' => e = .returned (.int .i64 7) ∧ w' = w6) := Lib.hid (grasp_any true false w6)
                go_wp2_with fail
                refine HG1.out.mono ?_
                rintro e w7 ⟨rfl, rfl⟩
                obtain ⟨x0, y0, z0, u0, ⟨q0, q1, q2, q3⟩, q4, q5, q6, q7⟩ := HW6.out.room
                have HST := Lib.hid (HW6.out.stored (.int .i64 0) (.slice none 0 0) (.slice none 0 0) (.slice none 0 0))
                have HE9 := Lib.hid (DE.out _ 7 HC.out (by omega) (HST.out.2))
                go_wp2_with fail
                exact ret_blk2 rfl rfl rfl rfl HST.out.1 (n := 4) rfl (by kernel_rfl) HE9.out
              | true =>
                cases sn with
                | true =>
                  have HG1 : Hid (Calls Try.prog 87 #[.bool true, .bool true] w6 fun e w' => e = .returned (.int .i64 0) ∧ w' = w6) := Lib.hid (grasp_any true true w6)
                  go_wp2_with fail
                  refine HG1.out.mono ?_
                  rintro e w7 ⟨rfl, rfl⟩
                  obtain ⟨x0, y0, z0, u0, ⟨q0, q1, q2, q3⟩, q4, q5, q6, q7⟩ := HW6.out.room
                  have HST := Lib.hid (HW6.out.stored (.int .i64 0) (.slice none 0 0) (.slice none 0 0) (.slice none 0 0))
                  have HE9 := Lib.hid (DE.out _ 5 HC.out (by omega) (HST.out.2))
                  go_wp2_with (at_lookup; refine wpList_set_getW (by kernel_rfl) _ _ 114 rfl klaw_ft Try.underlying114 (zB _) SET6.out ⟨5, (kp : Int), 0⟩ HSE2.out rfl rfl ?_)
                  exact ret_blk2 rfl rfl rfl rfl HST.out.1 (n := 4) rfl (by kernel_rfl) HE9.out
                | false =>
                  have HG1 : Hid (Calls Try.prog 87 #[.bool true, .bool true] w6 fun e w' => e = .returned (.int .i64 0) ∧ w' = w6) := Lib.hid (grasp_any true true w6)
                  go_wp2_with fail
                  refine HG1.out.mono ?_
                  rintro e w7 ⟨rfl, rfl⟩
                  go_wp2_with (at_lookup; refine wpList_set_getW (by kernel_rfl) _ _ 114 rfl klaw_ft Try.underlying114 (zB _) SET6.out ⟨5, (kp : Int), 0⟩ HSE2.out rfl rfl ?_)
                  refine (HCG.out HC.out b _ ST6.out).mono ?_
                  rintro e w8 ⟨rfl, st8, hb8⟩
                  have HW8 := Lib.hid (HW6.out.grow HB4.out hb8)
                  have ST8 := Lib.hid st8
                  clear k0 k1 k2 k3 g0 g1 g2 g3 g4 st8 hb8
                  obtain ⟨k0, k1, k2, k3⟩ := HW8.out.one4
                  obtain ⟨g0, g1, g2, g3, g4⟩ := HW8.out.two5
                  dsimp only at k0 k1 k2 k3 g0 g1 g2 g3 g4
                  go_wp2_with fail
                  refine (HWO.out HC.out b _ ST8.out).mono ?_
                  rintro e w9 ⟨⟨B1, m1, e1, B2, m2, e2, B3, m3, e3⟩, rfl, hr9⟩
                  dsimp only at hr9 ⊢
                  have HW9 := Lib.hid (HW8.out.next (Rws.below hr9))
                  have HST := Lib.hid (HW9.out.store4 hr9 HW8.out.bel (.int .i64 sl) (.slice B1 m1 e1) (.slice B2 m2 e2) (.slice B3 m3 e3))
                  obtain ⟨x0, y0, z0, u0, ⟨q0, q1, q2, q3⟩, q4, q5, q6, q7⟩ := HW9.out.room
                  have HD9 := Lib.hid (DO.out _ ⟨B1, m1, e1, B2, m2, e2, B3, m3, e3⟩ HC.out HST.out.2)
                  clear hr9
                  go_wp2_with fail
                  exact ret_blk2 rfl rfl rfl rfl HST.out.1 (n := 4) rfl (by kernel_rfl) HD9.out
        · exact absurd fp (by omega)
        · exact absurd fp (by omega)
    · have hp1 : p < 0 := by omega
      obtain rfl := HTS.out hp1
      clear hp0 HTP HTS HSE2 HLI
      rcases (show tv = -1 ∨ 0 ≤ tv by have := HTLO.out; omega) with htv | htv
      · obtain rfl := HHN.out htv
        clear HHE2 HHN
        subst htv
        go_upto_region 16 with (at_lookup; refine wpList_set_get _ rfl _ _ 114 rfl klaw_ft Try.underlying114 (zB _) SET4.out ⟨3, a, 0⟩ HFR2.out rfl rfl ?_)
        have hbx : Below w4.heap.size w4 (w4.alloc (.cells #[.int .i64 5, .int .i64 p, .int .i64 0] 45)) := (Below.refl _ _).alloc (Nat.le_refl _) _
        have HW6 := Lib.hid (HW4.out.next hbx)
        have ST6 := Lib.hid (ST4.out.next hbx)
        have SET6 := Lib.hid (SET4.out.next hbx)
        have SN6 := Lib.hid (Blk.new w4 45 #[.int .i64 5, .int .i64 p, .int .i64 0])
        clear hbx k0 k1 k2 k3 g0 g1 g2 g3 g4 HW4 ST4 SET4
        generalize World.alloc w4 _ = w6 at *
        generalize w4.heap.size = po at *
        obtain ⟨k0, k1, k2, k3⟩ := HW6.out.one4
        obtain ⟨g0, g1, g2, g3, g4⟩ := HW6.out.two5
        dsimp only at k0 k1 k2 k3 g0 g1 g2 g3 g4
        have o0 := SN6.out.cell 0
        have o1 := SN6.out.cell 1
        have o2 := SN6.out.cell 2
        simp at o0 o1 o2
        rcases HF4.out with ⟨hk, fp, ft⟩ | ⟨hk, fp, fs, ft⟩ | ⟨hk, fs, fp, ft⟩ | ⟨hk, fp, fs, ft, ft2⟩
        · subst hk ft
          have HC := Lib.hid (M0.out rfl HTLO.out)
          have HG1 := Lib.hid (HGO.out b (-1) fr false w6 ST6.out)
          rw [← HC.out] at HG1
          go_wp2_with fail
          refine HG1.out.mono ?_
          rintro e w7 ⟨rfl, hb7⟩
          have HW7 := Lib.hid (HW6.out.next hb7)
          have ST7 := Lib.hid (ST6.out.next hb7)
          clear k0 k1 k2 k3 g0 g1 g2 g3 g4 hb7 o0 o1 o2
          obtain ⟨k0, k1, k2, k3⟩ := HW7.out.one4
          obtain ⟨g0, g1, g2, g3, g4⟩ := HW7.out.two5
          dsimp only at k0 k1 k2 k3 g0 g1 g2 g3 g4
          by_cases hE : E = 0
          · have HE0 := Lib.hid hE
            have hq : (E != 0) = false := by rw [hE]; rfl
            clear hE
            go_wp2_with fail
            refine (HCG.out HE0.out b _ ST7.out).mono ?_
            rintro e w8 ⟨rfl, st8, hb8⟩
            have HW8 := Lib.hid (HW7.out.grow HB4.out hb8)
            have ST8 := Lib.hid st8
            clear k0 k1 k2 k3 g0 g1 g2 g3 g4 st8 hb8
            obtain ⟨k0, k1, k2, k3⟩ := HW8.out.one4
            obtain ⟨g0, g1, g2, g3, g4⟩ := HW8.out.two5
            dsimp only at k0 k1 k2 k3 g0 g1 g2 g3 g4
            go_wp2_with fail
            refine (HWO.out HE0.out b _ ST8.out).mono ?_
            rintro e w9 ⟨⟨B1, m1, e1, B2, m2, e2, B3, m3, e3⟩, rfl, hr9⟩
            dsimp only at hr9 ⊢
            have HW9 := Lib.hid (HW8.out.next (Rws.below hr9))
            have HST := Lib.hid (HW9.out.store4 hr9 HW8.out.bel (.int .i64 sl) (.slice B1 m1 e1) (.slice B2 m2 e2) (.slice B3 m3 e3))
            obtain ⟨x0, y0, z0, u0, ⟨q0, q1, q2, q3⟩, q4, q5, q6, q7⟩ := HW9.out.room
            have HD9 := Lib.hid (DO.out _ ⟨B1, m1, e1, B2, m2, e2, B3, m3, e3⟩ HE0.out HST.out.2)
            clear hr9
            go_wp2_with fail
            exact ret_blk2 rfl rfl rfl rfl HST.out.1 (n := 4) rfl (by kernel_rfl) HD9.out
          · have hq : (E != 0) = true := by simp [hE]
            have HE0 := Lib.hid hE
            clear hE
            obtain ⟨x0, y0, z0, u0, ⟨q0, q1, q2, q3⟩, q4, q5, q6, q7⟩ := HW7.out.room
            have HST := Lib.hid (HW7.out.stored (.int .i64 0) (.slice none 0 0) (.slice none 0 0) (.slice none 0 0))
            have HE9 := Lib.hid (DE.out _ E rfl HE0.out HST.out.2)
            go_wp2_with fail
            exact ret_blk2 rfl rfl rfl rfl HST.out.1 (n := 4) rfl (by kernel_rfl) HE9.out
        · exact absurd fp (by omega)
        · exact absurd fs (by omega)
        · subst hk
          have HC := Lib.hid (M4.out rfl)
          go_wp2_with fail
          refine (HCG.out HC.out b _ ST6.out).mono ?_
          rintro e w8 ⟨rfl, st8, hb8⟩
          have HW8 := Lib.hid (HW6.out.grow HB4.out hb8)
          have ST8 := Lib.hid st8
          clear k0 k1 k2 k3 g0 g1 g2 g3 g4 st8 hb8
          obtain ⟨k0, k1, k2, k3⟩ := HW8.out.one4
          obtain ⟨g0, g1, g2, g3, g4⟩ := HW8.out.two5
          dsimp only at k0 k1 k2 k3 g0 g1 g2 g3 g4
          go_wp2_with fail
          refine (HWO.out HC.out b _ ST8.out).mono ?_
          rintro e w9 ⟨⟨B1, m1, e1, B2, m2, e2, B3, m3, e3⟩, rfl, hr9⟩
          dsimp only at hr9 ⊢
          have HW9 := Lib.hid (HW8.out.next (Rws.below hr9))
          have HST := Lib.hid (HW9.out.store4 hr9 HW8.out.bel (.int .i64 sl) (.slice B1 m1 e1) (.slice B2 m2 e2) (.slice B3 m3 e3))
          obtain ⟨x0, y0, z0, u0, ⟨q0, q1, q2, q3⟩, q4, q5, q6, q7⟩ := HW9.out.room
          have HD9 := Lib.hid (DO.out _ ⟨B1, m1, e1, B2, m2, e2, B3, m3, e3⟩ HC.out HST.out.2)
          clear hr9
          go_wp2_with fail
          exact ret_blk2 rfl rfl rfl rfl HST.out.1 (n := 4) rfl (by kernel_rfl) HD9.out
      · have HHE3 := Lib.hid (HHE2.out htv)
        clear HHE2 HHN
        go_upto_region 16 with (first | (at_lookup; refine wpList_set_get _ rfl _ _ 114 rfl klaw_ft Try.underlying114 (zB _) SET4.out ⟨3, a, 0⟩ HFR2.out rfl rfl ?_) | (at_lookup; refine wpList_set_getW (by kernel_rfl) _ _ 114 rfl klaw_ft Try.underlying114 (zB _) SET4.out ⟨6, a, tv⟩ HHE3.out rfl rfl ?_))
        have hbx : Below w4.heap.size w4 (w4.alloc (.cells #[.int .i64 5, .int .i64 p, .int .i64 0] 45)) := (Below.refl _ _).alloc (Nat.le_refl _) _
        have HW6 := Lib.hid (HW4.out.next hbx)
        have ST6 := Lib.hid (ST4.out.next hbx)
        have SET6 := Lib.hid (SET4.out.next hbx)
        have SN6 := Lib.hid (Blk.new w4 45 #[.int .i64 5, .int .i64 p, .int .i64 0])
        clear hbx k0 k1 k2 k3 g0 g1 g2 g3 g4 HW4 ST4 SET4
        generalize World.alloc w4 _ = w6 at *
        generalize w4.heap.size = po at *
        obtain ⟨k0, k1, k2, k3⟩ := HW6.out.one4
        obtain ⟨g0, g1, g2, g3, g4⟩ := HW6.out.two5
        dsimp only at k0 k1 k2 k3 g0 g1 g2 g3 g4
        have o0 := SN6.out.cell 0
        have o1 := SN6.out.cell 1
        have o2 := SN6.out.cell 2
        simp at o0 o1 o2
        rcases HF4.out with ⟨hk, fp, ft⟩ | ⟨hk, fp, fs, ft⟩ | ⟨hk, fs, fp, ft⟩ | ⟨hk, fp, fs, ft, ft2⟩
        · subst hk ft
          have HC := Lib.hid (M0.out rfl HTLO.out)
          have HG1 := Lib.hid (HGO.out b (tv) fr he w6 ST6.out)
          rw [← HC.out] at HG1
          go_wp2_with fail
          refine HG1.out.mono ?_
          rintro e w7 ⟨rfl, hb7⟩
          have HW7 := Lib.hid (HW6.out.next hb7)
          have ST7 := Lib.hid (ST6.out.next hb7)
          clear k0 k1 k2 k3 g0 g1 g2 g3 g4 hb7 o0 o1 o2
          obtain ⟨k0, k1, k2, k3⟩ := HW7.out.one4
          obtain ⟨g0, g1, g2, g3, g4⟩ := HW7.out.two5
          dsimp only at k0 k1 k2 k3 g0 g1 g2 g3 g4
          by_cases hE : E = 0
          · have HE0 := Lib.hid hE
            have hq : (E != 0) = false := by rw [hE]; rfl
            clear hE
            go_wp2_with fail
            refine (HCG.out HE0.out b _ ST7.out).mono ?_
            rintro e w8 ⟨rfl, st8, hb8⟩
            have HW8 := Lib.hid (HW7.out.grow HB4.out hb8)
            have ST8 := Lib.hid st8
            clear k0 k1 k2 k3 g0 g1 g2 g3 g4 st8 hb8
            obtain ⟨k0, k1, k2, k3⟩ := HW8.out.one4
            obtain ⟨g0, g1, g2, g3, g4⟩ := HW8.out.two5
            dsimp only at k0 k1 k2 k3 g0 g1 g2 g3 g4
            go_wp2_with fail
            refine (HWO.out HE0.out b _ ST8.out).mono ?_
            rintro e w9 ⟨⟨B1, m1, e1, B2, m2, e2, B3, m3, e3⟩, rfl, hr9⟩
            dsimp only at hr9 ⊢
            have HW9 := Lib.hid (HW8.out.next (Rws.below hr9))
            have HST := Lib.hid (HW9.out.store4 hr9 HW8.out.bel (.int .i64 sl) (.slice B1 m1 e1) (.slice B2 m2 e2) (.slice B3 m3 e3))
            obtain ⟨x0, y0, z0, u0, ⟨q0, q1, q2, q3⟩, q4, q5, q6, q7⟩ := HW9.out.room
            have HD9 := Lib.hid (DO.out _ ⟨B1, m1, e1, B2, m2, e2, B3, m3, e3⟩ HE0.out HST.out.2)
            clear hr9
            go_wp2_with fail
            exact ret_blk2 rfl rfl rfl rfl HST.out.1 (n := 4) rfl (by kernel_rfl) HD9.out
          · have hq : (E != 0) = true := by simp [hE]
            have HE0 := Lib.hid hE
            clear hE
            obtain ⟨x0, y0, z0, u0, ⟨q0, q1, q2, q3⟩, q4, q5, q6, q7⟩ := HW7.out.room
            have HST := Lib.hid (HW7.out.stored (.int .i64 0) (.slice none 0 0) (.slice none 0 0) (.slice none 0 0))
            have HE9 := Lib.hid (DE.out _ E rfl HE0.out HST.out.2)
            go_wp2_with fail
            exact ret_blk2 rfl rfl rfl rfl HST.out.1 (n := 4) rfl (by kernel_rfl) HE9.out
        · exact absurd fp (by omega)
        · subst hk ft
          have HC := Lib.hid (M2.out rfl)
          have HEM3 := Lib.hid (HEM2.out fs)
          cases fr with
          | true =>
            obtain ⟨x0, y0, z0, u0, ⟨q0, q1, q2, q3⟩, q4, q5, q6, q7⟩ := HW6.out.room
            have HST := Lib.hid (HW6.out.stored (.int .i64 0) (.slice none 0 0) (.slice none 0 0) (.slice none 0 0))
            have HE9 := Lib.hid (DE.out _ 7 HC.out (by omega) (HST.out.2))
            go_wp2_with fail
            exact ret_blk2 rfl rfl rfl rfl HST.out.1 (n := 4) rfl (by kernel_rfl) HE9.out
          | false =>
            cases he with
            | false =>
              obtain ⟨x0, y0, z0, u0, ⟨q0, q1, q2, q3⟩, q4, q5, q6, q7⟩ := HW6.out.room
              have HST := Lib.hid (HW6.out.stored (.int .i64 0) (.slice none 0 0) (.slice none 0 0) (.slice none 0 0))
              have HE9 := Lib.hid (DE.out _ 7 HC.out (by omega) (HST.out.2))
              go_wp2_with fail
              exact ret_blk2 rfl rfl rfl rfl HST.out.1 (n := 4) rfl (by kernel_rfl) HE9.out
            | true =>
              cases em with
              | false =>
                obtain ⟨x0, y0, z0, u0, ⟨q0, q1, q2, q3⟩, q4, q5, q6, q7⟩ := HW6.out.room
                have HST := Lib.hid (HW6.out.stored (.int .i64 0) (.slice none 0 0) (.slice none 0 0) (.slice none 0 0))
                have HE9 := Lib.hid (DE.out _ 5 HC.out (by omega) (HST.out.2))
                go_wp2_with (at_lookup; refine wpList_set_get _ rfl _ _ 114 rfl klaw_ft Try.underlying114 (zB _) SET6.out ⟨4, tv, 0⟩ HEM3.out rfl rfl ?_)
                exact ret_blk2 rfl rfl rfl rfl HST.out.1 (n := 4) rfl (by kernel_rfl) HE9.out
              | true =>
                go_wp2_with (at_lookup; refine wpList_set_get _ rfl _ _ 114 rfl klaw_ft Try.underlying114 (zB _) SET6.out ⟨4, tv, 0⟩ HEM3.out rfl rfl ?_)
                refine (HCG.out HC.out b _ ST6.out).mono ?_
                rintro e w8 ⟨rfl, st8, hb8⟩
                have HW8 := Lib.hid (HW6.out.grow HB4.out hb8)
                have ST8 := Lib.hid st8
                clear k0 k1 k2 k3 g0 g1 g2 g3 g4 st8 hb8
                obtain ⟨k0, k1, k2, k3⟩ := HW8.out.one4
                obtain ⟨g0, g1, g2, g3, g4⟩ := HW8.out.two5
                dsimp only at k0 k1 k2 k3 g0 g1 g2 g3 g4
                go_wp2_with fail
                refine (HWO.out HC.out b _ ST8.out).mono ?_
                rintro e w9 ⟨⟨B1, m1, e1, B2, m2, e2, B3, m3, e3⟩, rfl, hr9⟩
                dsimp only at hr9 ⊢
                have HW9 := Lib.hid (HW8.out.next (Rws.below hr9))
                have HST := Lib.hid (HW9.out.store4 hr9 HW8.out.bel (.int .i64 sl) (.slice B1 m1 e1) (.slice B2 m2 e2) (.slice B3 m3 e3))
                obtain ⟨x0, y0, z0, u0, ⟨q0, q1, q2, q3⟩, q4, q5, q6, q7⟩ := HW9.out.room
                have HD9 := Lib.hid (DO.out _ ⟨B1, m1, e1, B2, m2, e2, B3, m3, e3⟩ HC.out HST.out.2)
                clear hr9
                go_wp2_with fail
                exact ret_blk2 rfl rfl rfl rfl HST.out.1 (n := 4) rfl (by kernel_rfl) HD9.out
        · exact absurd fs (by omega)

end Go.Proofs.Ytnaiflokmihmeaa
