/- Walk: Do (package act). -/
import Derived.Test.YtnaiflokmihmeaaMgJ
import Derived.Test.YtnaiflokmihmeaaMgD
import Derived.BigRegion
namespace Go.Proofs.Ytnaiflokmihmeaa
open Go.RowKit
set_option linter.unusedVariables false
set_option linter.unusedSimpArgs false

theorem run_fldW0 (p : Nat) (w : World) : (Instr.fieldAt 25 (.pointer (some ⟨p, 0, none⟩)) 0).run Try.prog w = .ok (.pointer (some ⟨p, 0, none⟩)) w := by kernel_rfl
theorem run_fldW1 (p : Nat) (w : World) : (Instr.fieldAt 25 (.pointer (some ⟨p, 0, none⟩)) 1).run Try.prog w = .ok (.pointer (some ⟨p, 1, none⟩)) w := by kernel_rfl
theorem run_fldW2 (p : Nat) (w : World) : (Instr.fieldAt 25 (.pointer (some ⟨p, 0, none⟩)) 2).run Try.prog w = .ok (.pointer (some ⟨p, 2, none⟩)) w := by kernel_rfl
theorem run_fldW3 (p : Nat) (w : World) : (Instr.fieldAt 25 (.pointer (some ⟨p, 0, none⟩)) 3).run Try.prog w = .ok (.pointer (some ⟨p, 3, none⟩)) w := by kernel_rfl
theorem run_fldS0 (p : Nat) (w : World) : (Instr.fieldAt 39 (.pointer (some ⟨p, 0, none⟩)) 0).run Try.prog w = .ok (.pointer (some ⟨p, 0, none⟩)) w := by kernel_rfl
theorem run_fldS1 (p : Nat) (w : World) : (Instr.fieldAt 39 (.pointer (some ⟨p, 0, none⟩)) 1).run Try.prog w = .ok (.pointer (some ⟨p, 1, none⟩)) w := by kernel_rfl
theorem run_fldS2 (p : Nat) (w : World) : (Instr.fieldAt 39 (.pointer (some ⟨p, 0, none⟩)) 2).run Try.prog w = .ok (.pointer (some ⟨p, 2, none⟩)) w := by kernel_rfl
theorem run_fldS3 (p : Nat) (w : World) : (Instr.fieldAt 39 (.pointer (some ⟨p, 0, none⟩)) 3).run Try.prog w = .ok (.pointer (some ⟨p, 3, none⟩)) w := by kernel_rfl
theorem run_fldS4 (p : Nat) (w : World) : (Instr.fieldAt 39 (.pointer (some ⟨p, 0, none⟩)) 4).run Try.prog w = .ok (.pointer (some ⟨p, 4, none⟩)) w := by kernel_rfl
theorem run_idxI (g n c k : Nat) (h : k < n) (w : World) : (Instr.indexAt 22 (.slice (some ⟨g, 0, none⟩) n c) (.int .i64 k)).run Try.prog w = .ok (.pointer (some ⟨g, k, none⟩)) w := by
  have i1 : (0 : Int) ≤ (k : Int) := by omega
  have i2 : (k : Int) < (n : Int) := by omega
  go_simp
theorem run_storeI (g k : Nat) (v : Int) (w : World) {cu : Value} (hc : w.cell? ⟨g, k, none⟩ = some cu) (hf : w.frozen? ⟨g, k, none⟩ = false) : (Instr.storeAt 3 (.pointer (some ⟨g, k, none⟩)) (.int .i64 v)).run Try.prog w = .ok () (w.setCell ⟨g, k, none⟩ (.int .i64 v)) := by
  go_simp
theorem get_ex {α : Type} {xs : List α} {k : Nat} (h : k < xs.length) : ∃ x, xs[k]? = some x := ⟨_, List.getElem?_eq_getElem h⟩
set_option maxHeartbeats 2000000 in
set_option maxRecDepth 20000 in
theorem do_any (d : Wd) (r : Raw) (s : Stp) (w : World) (h : WOk w r d) : Calls Try.prog 54 #[wv d.sl r, sv s] w (DoPost d s w) := by
  have HCA := Lib.hid (fun W (hb : Below w.heap.size w W) => can_any d r s W (h.next hb))
  have HWS := Lib.hid (WR.start w d.sl r s)
  by_cases hc : canE d s = 0
  · have HC0 := Lib.hid hc
    obtain ⟨hv, hf, ha, hp, hs, hm⟩ := canE_inv hc
    have HD : Hid (doN d s = stepN d s) := Lib.hid (by unfold doN; rw [if_pos hc])
    obtain ⟨f1, f2, f3, f4⟩ := formB_inv hf
    have e1 := h.h1
    have e2 := h.h2
    have e3 := h.h3
    have b1 := hv.p6
    have b3 := hv.s4
    have b2 := hv.se
    have HCP := Lib.hid (fun W (hb : Below w.heap.size w W) => copy_any d r W (h.next hb) (by omega) (by omega) (by omega))
    have HTA := Lib.hid (fun W (hb : Below w.heap.size w W) => targ_any d r s W (h.next hb) (by omega))
    have HHO := Lib.hid (fun W (hb : Below w.heap.size w W) => holds_any d r s.a W (h.next hb))
    have HMA : Hid (s.k = 2 → 0 ≤ hold d s.a) := Lib.hid (fun hk => may2 hk hm)
    have HF4 := Lib.hid f4
    rw [hc] at HCA
    have E1 := Lib.hid e1
    have E2 := Lib.hid e2
    have E3 := Lib.hid e3
    have B2 := Lib.hid b2
    have HA0 := Lib.hid ha
    have HP0 := Lib.hid hp
    clear h hc hv hf hm f4 e1 e2 e3 b2 ha hp
    obtain ⟨ka, hka⟩ := Int.eq_ofNat_of_zero_le f3
    obtain ⟨A1, n1, c1, A2, n2, c2, A3, n3, c3⟩ := r
    obtain ⟨k, a, p, s0, t⟩ := s
    dsimp only at hka f1 f2 f3 hs HF4 HA0 HP0 HMA E1 E2 E3
    subst hka
    unfold wv wcs sv
    unfold wv wcs at HCA HCP HTA HHO
    unfold sv at HCA HTA
    unfold wcs scs at HWS
    unfold CopyPost at HCP
    unfold wv wcs at HCP
    dsimp only at HCA HCP HTA HHO HWS ⊢
    generalize hsl : d.sl = sl at *
    have HSL := Lib.hid hsl
    clear hsl
    go_enter Try.func54, Try.ntmps54
    go_wp2_with fail
    generalize World.alloc (World.alloc (World.alloc w _) _) _ = w1 at *
    obtain ⟨k0, k1, k2, k3⟩ := HWS.out.one4
    obtain ⟨g0, g1, g2, g3, g4⟩ := HWS.out.two5
    dsimp only at k0 k1 k2 k3 g0 g1 g2 g3 g4
    go_wp2_with fail
    refine (HCA.out _ HWS.out.bel).mono ?_
    rintro e w2 ⟨rfl, hb2⟩
    have HW2 := Lib.hid (HWS.out.next hb2); clear hb2 k0 k1 k2 k3 g0 g1 g2 g3 g4
    obtain ⟨k0, k1, k2, k3⟩ := HW2.out.one4
    obtain ⟨g0, g1, g2, g3, g4⟩ := HW2.out.two5
    dsimp only at k0 k1 k2 k3 g0 g1 g2 g3 g4
    go_wp2_with fail
    refine (HCP.out _ HW2.out.bel).mono ?_
    rintro e w3 ⟨r', rfl, m1, m2, m3, hR3⟩
    have HS := Lib.hid (DoS.of HW2.out hR3)
    clear hR3 k0 k1 k2 k3 g0 g1 g2 g3 g4
    obtain ⟨X1, n1', y1, X2, n2', y2, X3, n3', y3⟩ := r'
    dsimp only at m1 m2 m3
    subst m1 m2 m3
    unfold wcs at HS
    dsimp only at HS
    go_upto_region 5 with (fail)
    generalize w3.heap.size = po at *
    generalize World.alloc w3 _ = w4 at *
    rcases HF4.out with ⟨hk, fp, ft⟩ | ⟨hk, fp, fs, ft⟩ | ⟨hk, fs, fp, ft⟩ | ⟨hk, fp, fs, ft, ft2⟩
    · subst hk ft
      have HDE : Hid (doN d ⟨0, (ka : Int), p, s0, 0⟩ = { d with sp := d.sp.set ka (targ d ⟨0, (ka : Int), p, s0, 0⟩) }) := Lib.hid (by rw [HD.out]; unfold stepN; rw [if_pos rfl]; rfl)
      obtain ⟨k0, k1, k2, k3, g0, g1, g2, g3, g4, o0, o1, o2, o3, _⟩ := HS.out.all
      dsimp only at k0 k1 k2 k3 g0 g1 g2 g3 g4 o0 o1 o2 o3
      obtain ⟨x3, hx3⟩ := get_ex (xs := d.sp) (k := ka) (by have := HA0.out; omega)
      obtain ⟨g, hA, hlt, hfr⟩ := HS.out.at3 hx3
      dsimp only at hA hlt hfr
      subst hA
      have HX3 := Lib.hid hx3
      clear hx3 hfr
      generalize targ d ⟨0, (ka : Int), p, s0, 0⟩ = tv at *
      go_upto_region 7 with (fail)
      clear k0 k1 k2 k3 g0 g1 g2 g3 g4 o0 o1 o2 o3
      refine wp_inv_tail (S := DoS w sl ⟨A1, n1', c1, A2, n2', c2, A3, n3', c3⟩ ⟨0, (ka : Int), p, s0, 0⟩ po ⟨X1, n1', y1, X2, n2', y2, (some ⟨g, 0, none⟩), n3', y3⟩ d) [isV (.pointer (some ⟨po, 3, none⟩)), isV (.slice (some ⟨g, 0, none⟩) n3' y3), isV (.pointer (some ⟨w.heap.size + 1, 1, none⟩)), isV (.int .i64 (ka : Int)), isV (.agg #[.int .i64 sl, .slice A1 n1' c1, .slice A2 n2' c2, .slice A3 n3' c3]), isV (.agg #[.int .i64 0, .int .i64 (ka : Int), .int .i64 p, .int .i64 s0, .int .i64 0]), isV (.int .i64 tv), isV (.pointer (some ⟨g, ka, none⟩))] rfl (by kernel_rfl) (by kernel_rfl) (by kernel_rfl) (by kernel_rfl) (fun _ _ h hb => h.next hb) HS.out ?plan ?last
      case plan =>
        refine PlanI.cons (OpI.mkV fun a wx hs hf hp => ?_) ?_
        · exact StepI.fld rfl (wants_none rfl) (hf.keep 7 (by kernel_rfl)) (run_fldW3 _ wx) rfl
        refine PlanI.cons (OpI.mkV fun a wx hs hf hp => ?_) ?_
        · exact StepI.load rfl (wants_none rfl) (hp 0 22 (by kernel_rfl) rfl) (run_load_cell hs.out (f := 3) rfl (by kernel_rfl) rfl) rfl
        refine PlanI.cons (OpI.mkV fun a wx hs hf hp => ?_) ?_
        · exact StepI.fld rfl (wants_none rfl) (hf.keep 3 (by kernel_rfl)) (run_fldS1 _ wx) rfl
        refine PlanI.cons (OpI.mkV fun a wx hs hf hp => ?_) ?_
        · exact StepI.load rfl (wants_none rfl) (hp 2 24 (by kernel_rfl) rfl) (run_load_cell hs.two (f := 1) rfl (by kernel_rfl) rfl) rfl
        refine PlanI.cons (OpI.mkV fun a wx hs hf hp => ?_) ?_
        · exact StepI.load rfl (wants_none rfl) (hf.keep 2 (by kernel_rfl)) (run_load_blk hs.one (n := 4) rfl (by kernel_rfl)) rfl
        refine PlanI.cons (OpI.mkV fun a wx hs hf hp => ?_) ?_
        · exact StepI.load rfl (wants_none rfl) (hf.keep 3 (by kernel_rfl)) (run_load_blk hs.two (n := 5) rfl (by kernel_rfl)) rfl
        refine PlanI.cons (OpI.mkV fun a wx hs hf hp => ?_) ?_
        · exact StepI.callV rfl (wants_none rfl) (args2 (hp 4 26 (by kernel_rfl) rfl) (hp 5 27 (by kernel_rfl) rfl)) (by kernel_rfl) (HTA.out wx hs.bel)
        refine PlanI.cons (OpI.mkV fun a wx hs hf hp => ?_) ?_
        · exact StepI.idx rfl (wants_none rfl) (hp 1 23 (by kernel_rfl) rfl) (hp 3 25 (by kernel_rfl) rfl) (run_idxI g n3' y3 ka hlt wx) rfl
        exact PlanI.nil
      case last =>
        intro a wx hs hf hv
        have hput := hf.puts [(22, .pointer (some ⟨po, 3, none⟩)), (23, .slice (some ⟨g, 0, none⟩) n3' y3), (24, .pointer (some ⟨w.heap.size + 1, 1, none⟩)), (25, .int .i64 (ka : Int)), (26, .agg #[.int .i64 sl, .slice A1 n1' c1, .slice A2 n2' c2, .slice A3 n3' c3]), (27, .agg #[.int .i64 0, .int .i64 (ka : Int), .int .i64 p, .int .i64 s0, .int .i64 0]), (28, .int .i64 tv), (29, .pointer (some ⟨g, ka, none⟩))] (by kernel_rfl) (List.forall_mem_cons.2 ⟨hv 0 22 (by decide) rfl, (List.forall_mem_cons.2 ⟨hv 1 23 (by decide) rfl, (List.forall_mem_cons.2 ⟨hv 2 24 (by decide) rfl, (List.forall_mem_cons.2 ⟨hv 3 25 (by decide) rfl, (List.forall_mem_cons.2 ⟨hv 4 26 (by decide) rfl, (List.forall_mem_cons.2 ⟨hv 5 27 (by decide) rfl, (List.forall_mem_cons.2 ⟨hv 6 28 (by decide) rfl, (List.forall_mem_cons.2 ⟨hv 7 29 (by decide) rfl, (by intro p hp; cases hp)⟩)⟩)⟩)⟩)⟩)⟩)⟩)⟩)
        clear hf hv
        subst hput
        simp only [puts, Act.put, List.setIfInBounds_toArray, List.set_cons_zero, List.set_cons_succ]
        refine ⟨wants_none rfl, ?_⟩
        obtain ⟨gg, hgg, _, hfr⟩ := hs.at3 HX3.out
        cases hgg
        obtain ⟨cu, hcu⟩ := Option.isSome_iff_exists.1 ((hfr ka).2 hlt)
        refine wp_store_tail rfl rfl rfl (run_storeI g ka tv wx hcu (hfr ka).1) ?_
        have HT := Lib.hid (hs.put3 rfl ka tv)
        clear hs hfr hcu
        obtain ⟨k0, k1, k2, k3, g0, g1, g2, g3, g4, o0, o1, o2, o3, _⟩ := HT.out.all
        dsimp only at o0 o1 o2 o3
        clear k0 k1 k2 k3 g0 g1 g2 g3 g4
        obtain ⟨x0, y0, z0, u0, ⟨q0, q1, q2, q3⟩, q4, q5, q6, q7⟩ := HT.out.room
        have HST := Lib.hid (HT.out.fin (.int .i64 sl) (.slice X1 n1' y1) (.slice X2 n2' y2) (.slice (some ⟨g, 0, none⟩) n3' y3))
        go_wp2_with fail
        exact ret_blk2 rfl rfl rfl rfl HST.out.1 (n := 4) rfl (by kernel_rfl) ⟨⟨X1, n1', y1, X2, n2', y2, (some ⟨g, 0, none⟩), n3', y3⟩, by rw [HDE.out, HC0.out]; dsimp only; rw [HSL.out]; rfl, by rw [HDE.out]; exact HST.out.2.1, HST.out.2.2⟩
    · obtain ⟨kp, hkp⟩ := Int.eq_ofNat_of_zero_le fp
      subst hkp ft
      have hka9 : ka ≤ 4 := by have := HA0.out; omega
      have hkp9 : kp < d.pl.length := by have := HP0.out; omega
      rcases hk with hk | hk
      · subst hk
        have HDE : Hid (doN d ⟨1, (ka : Int), (kp : Int), s0, 0⟩ = { d with pl := d.pl.set kp (-2 - (ka : Int)) }) := Lib.hid (by rw [HD.out]; unfold stepN; rw [if_neg (by simp), if_pos rfl]; rfl)
        obtain ⟨k0, k1, k2, k3, g0, g1, g2, g3, g4, o0, o1, o2, o3, _⟩ := HS.out.all
        dsimp only at k0 k1 k2 k3 g0 g1 g2 g3 g4 o0 o1 o2 o3
        obtain ⟨x1, hx1⟩ := get_ex hkp9
        obtain ⟨g, hA, hlt, hfr⟩ := HS.out.at1 hx1
        dsimp only at hA hlt hfr
        subst hA
        have HX1 := Lib.hid hx1
        clear hx1 hfr
        go_upto_region 9 with (fail)
        clear k0 k1 k2 k3 g0 g1 g2 g3 g4 o0 o1 o2 o3
        refine wp_inv_tail (S := DoS w sl ⟨A1, n1', c1, A2, n2', c2, A3, n3', c3⟩ ⟨1, (ka : Int), (kp : Int), s0, 0⟩ po ⟨(some ⟨g, 0, none⟩), n1', y1, X2, n2', y2, X3, n3', y3⟩ d) [isV (.pointer (some ⟨po, 1, none⟩)), isV (.slice (some ⟨g, 0, none⟩) n1' y1), isV (.pointer (some ⟨w.heap.size + 1, 2, none⟩)), isV (.int .i64 (kp : Int)), isV (.pointer (some ⟨w.heap.size + 1, 1, none⟩)), isV (.int .i64 (ka : Int)), isV (.int .i64 (-2 - (ka : Int))), isV (.pointer (some ⟨g, kp, none⟩))] rfl (by kernel_rfl) (by kernel_rfl) (by kernel_rfl) (by kernel_rfl) (fun _ _ h hb => h.next hb) HS.out ?plan ?last
        case plan =>
          refine PlanI.cons (OpI.mkV fun a wx hs hf hp => ?_) ?_
          · exact StepI.fld rfl (wants_none rfl) (hf.keep 7 (by kernel_rfl)) (run_fldW1 _ wx) rfl
          refine PlanI.cons (OpI.mkV fun a wx hs hf hp => ?_) ?_
          · exact StepI.load rfl (wants_none rfl) (hp 0 32 (by kernel_rfl) rfl) (run_load_cell hs.out (f := 1) rfl (by kernel_rfl) rfl) rfl
          refine PlanI.cons (OpI.mkV fun a wx hs hf hp => ?_) ?_
          · exact StepI.fld rfl (wants_none rfl) (hf.keep 3 (by kernel_rfl)) (run_fldS2 _ wx) rfl
          refine PlanI.cons (OpI.mkV fun a wx hs hf hp => ?_) ?_
          · exact StepI.load rfl (wants_none rfl) (hp 2 34 (by kernel_rfl) rfl) (run_load_cell hs.two (f := 2) rfl (by kernel_rfl) rfl) rfl
          refine PlanI.cons (OpI.mkV fun a wx hs hf hp => ?_) ?_
          · exact StepI.fld rfl (wants_none rfl) (hf.keep 3 (by kernel_rfl)) (run_fldS1 _ wx) rfl
          refine PlanI.cons (OpI.mkV fun a wx hs hf hp => ?_) ?_
          · exact StepI.load rfl (wants_none rfl) (hp 4 36 (by kernel_rfl) rfl) (run_load_cell hs.two (f := 1) rfl (by kernel_rfl) rfl) rfl
          refine PlanI.cons (OpI.mkV fun a wx hs hf hp => ?_) ?_
          · exact StepI.callV rfl (wants_none rfl) (args1 (hp 5 37 (by kernel_rfl) rfl)) (by kernel_rfl) ((held_any (ka : Int) wx (by omega) (by omega)).mono fun e w9 h => ⟨h.1, by rw [h.2]; exact Below.refl _ _⟩)
          refine PlanI.cons (OpI.mkV fun a wx hs hf hp => ?_) ?_
          · exact StepI.idx rfl (wants_none rfl) (hp 1 33 (by kernel_rfl) rfl) (hp 3 35 (by kernel_rfl) rfl) (run_idxI g n1' y1 kp hlt wx) rfl
          exact PlanI.nil
        case last =>
          intro a wx hs hf hv
          have hput := hf.puts [(32, .pointer (some ⟨po, 1, none⟩)), (33, .slice (some ⟨g, 0, none⟩) n1' y1), (34, .pointer (some ⟨w.heap.size + 1, 2, none⟩)), (35, .int .i64 (kp : Int)), (36, .pointer (some ⟨w.heap.size + 1, 1, none⟩)), (37, .int .i64 (ka : Int)), (38, .int .i64 (-2 - (ka : Int))), (39, .pointer (some ⟨g, kp, none⟩))] (by kernel_rfl) (List.forall_mem_cons.2 ⟨hv 0 32 (by decide) rfl, (List.forall_mem_cons.2 ⟨hv 1 33 (by decide) rfl, (List.forall_mem_cons.2 ⟨hv 2 34 (by decide) rfl, (List.forall_mem_cons.2 ⟨hv 3 35 (by decide) rfl, (List.forall_mem_cons.2 ⟨hv 4 36 (by decide) rfl, (List.forall_mem_cons.2 ⟨hv 5 37 (by decide) rfl, (List.forall_mem_cons.2 ⟨hv 6 38 (by decide) rfl, (List.forall_mem_cons.2 ⟨hv 7 39 (by decide) rfl, (by intro p hp; cases hp)⟩)⟩)⟩)⟩)⟩)⟩)⟩)⟩)
          clear hf hv
          subst hput
          simp only [puts, Act.put, List.setIfInBounds_toArray, List.set_cons_zero, List.set_cons_succ]
          refine ⟨wants_none rfl, ?_⟩
          obtain ⟨gg, hgg, _, hfr⟩ := hs.at1 HX1.out
          cases hgg
          obtain ⟨cu, hcu⟩ := Option.isSome_iff_exists.1 ((hfr kp).2 hlt)
          refine wp_store_tail rfl rfl rfl (run_storeI g kp (-2 - (ka : Int)) wx hcu (hfr kp).1) ?_
          have HT := Lib.hid (hs.put1 rfl kp (-2 - (ka : Int)))
          clear hs hfr hcu
          obtain ⟨k0, k1, k2, k3, g0, g1, g2, g3, g4, o0, o1, o2, o3, _⟩ := HT.out.all
          dsimp only at o0 o1 o2 o3
          clear k0 k1 k2 k3 g0 g1 g2 g3 g4
          obtain ⟨x0, y0, z0, u0, ⟨q0, q1, q2, q3⟩, q4, q5, q6, q7⟩ := HT.out.room
          have HST := Lib.hid (HT.out.fin (.int .i64 sl) (.slice (some ⟨g, 0, none⟩) n1' y1) (.slice X2 n2' y2) (.slice X3 n3' y3))
          go_wp2_with fail
          exact ret_blk2 rfl rfl rfl rfl HST.out.1 (n := 4) rfl (by kernel_rfl) ⟨⟨(some ⟨g, 0, none⟩), n1', y1, X2, n2', y2, X3, n3', y3⟩, by rw [HDE.out, HC0.out]; dsimp only; rw [HSL.out]; rfl, by rw [HDE.out]; exact HST.out.2.1, HST.out.2.2⟩
      · subst hk
        have HDE : Hid (doN d ⟨3, (ka : Int), (kp : Int), s0, 0⟩ = { d with se := d.se.set kp true }) := Lib.hid (by rw [HD.out]; unfold stepN; rw [if_neg (by simp), if_neg (by simp), if_pos rfl]; rfl)
        obtain ⟨k0, k1, k2, k3, g0, g1, g2, g3, g4, o0, o1, o2, o3, _⟩ := HS.out.all
        dsimp only at k0 k1 k2 k3 g0 g1 g2 g3 g4 o0 o1 o2 o3
        obtain ⟨x2, hx2⟩ := get_ex (xs := d.se) (k := kp) (by rw [B2.out]; exact hkp9)
        obtain ⟨g, hA, hlt, hfr⟩ := HS.out.at2 hx2
        dsimp only at hA hlt hfr
        subst hA
        have i1 : (0 : Int) ≤ (kp : Int) := by omega
        have i2 : (kp : Int) < (n2' : Int) := by omega
        have f1 := (hfr kp).1
        obtain ⟨cu, hcu⟩ := Option.isSome_iff_exists.1 ((hfr kp).2 hlt)
        have HT := Lib.hid (HS.out.put2 rfl kp true)
        clear hx2 hfr
        go_upto_region 15 with (fail)
        clear k0 k1 k2 k3 g0 g1 g2 g3 g4 o0 o1 o2 o3
        obtain ⟨k0, k1, k2, k3, g0, g1, g2, g3, g4, o0, o1, o2, o3, _⟩ := HT.out.all
        dsimp only at o0 o1 o2 o3
        clear k0 k1 k2 k3 g0 g1 g2 g3 g4
        obtain ⟨x0, y0, z0, u0, ⟨q0, q1, q2, q3⟩, q4, q5, q6, q7⟩ := HT.out.room
        have HST := Lib.hid (HT.out.fin (.int .i64 sl) (.slice X1 n1' y1) (.slice (some ⟨g, 0, none⟩) n2' y2) (.slice X3 n3' y3))
        go_wp2_with fail
        exact ret_blk2 rfl rfl rfl rfl HST.out.1 (n := 4) rfl (by kernel_rfl) ⟨⟨X1, n1', y1, (some ⟨g, 0, none⟩), n2', y2, X3, n3', y3⟩, by rw [HDE.out, HC0.out]; dsimp only; rw [HSL.out]; rfl, by rw [HDE.out]; exact HST.out.2.1, HST.out.2.2⟩
    · subst hk ft
      obtain ⟨ks, hks⟩ := Int.eq_ofNat_of_zero_le fs
      subst hks
      obtain ⟨kh, hh1, hh2, hh3⟩ := hold_spec (HMA.out rfl)
      have HDE : Hid (doN d ⟨2, (ka : Int), p, (ks : Int), 0⟩ = { d with pl := d.pl.set kh (ks : Int), se := d.se.set kh false }) := Lib.hid (by rw [HD.out]; unfold stepN; rw [if_neg (by simp), if_neg (by simp), if_neg (by simp), if_pos rfl]; dsimp only; rw [hh1]; rfl)
      rw [hh1] at HHO
      obtain ⟨k0, k1, k2, k3, g0, g1, g2, g3, g4, o0, o1, o2, o3, _⟩ := HS.out.all
      dsimp only at k0 k1 k2 k3 g0 g1 g2 g3 g4 o0 o1 o2 o3
      obtain ⟨g, hA, hlt, hfr⟩ := HS.out.at1 hh3
      dsimp only at hA hlt hfr
      subst hA
      obtain ⟨x2, hx2⟩ := get_ex (xs := d.se) (k := kh) (by rw [B2.out]; exact hh2)
      obtain ⟨gb, hA2, hlt2, hfr2⟩ := HS.out.at2 hx2
      dsimp only at hA2 hlt2 hfr2
      subst hA2
      have HX1 := Lib.hid hh3
      have HX2 := Lib.hid hx2
      clear hx2 hfr hfr2 hh1 hh2 hh3
      go_wp2_with fail
      refine (HHO.out _ HS.out.bel).mono ?_
      rintro e w5 ⟨rfl, hb5⟩
      have HS5 := Lib.hid (HS.out.next hb5)
      clear hb5 k0 k1 k2 k3 g0 g1 g2 g3 g4 o0 o1 o2 o3
      obtain ⟨gg, hgg, _, hfr⟩ := HS5.out.at1 HX1.out
      cases hgg
      obtain ⟨ggb, hggb, _, hfrb⟩ := HS5.out.at2 HX2.out
      cases hggb
      have f1 := (hfr kh).1
      obtain ⟨cu, hcu⟩ := Option.isSome_iff_exists.1 ((hfr kh).2 hlt)
      have f2 := (hfrb kh).1
      obtain ⟨cv, hcv⟩ := Option.isSome_iff_exists.1 ((hfrb kh).2 hlt2)
      have HT := Lib.hid ((HS5.out.put1 rfl kh (ks : Int)).put2 rfl kh false)
      have HGN : Hid (g ≠ gb) := Lib.hid (HS5.out.ne12 rfl rfl)
      have hgn := HGN.out
      obtain ⟨k0, k1, k2, k3, g0, g1, g2, g3, g4, o0, o1, o2, o3, _⟩ := HS5.out.all
      dsimp only at k0 k1 k2 k3 g0 g1 g2 g3 g4 o0 o1 o2 o3
      have i1 : (0 : Int) ≤ (kh : Int) := by omega
      have i2 : (kh : Int) < (n1' : Int) := by omega
      have i3 : (kh : Int) < (n2' : Int) := by omega
      have ht1 := HS5.out.put1 rfl kh (ks : Int)
      obtain ⟨gt, hgt, _, hfrt⟩ := ht1.at2 HX2.out
      cases hgt
      have f3 := (hfrt kh).1
      obtain ⟨cx, hcx⟩ := Option.isSome_iff_exists.1 ((hfrt kh).2 hlt2)
      obtain ⟨a0, a1, a2, a3, b0, b1, b2, b3, b4, c00, c01, c02, c03, _⟩ := ht1.all
      dsimp only at a0 a1 a2 a3 b0 b1 b2 b3 b4 c00 c01 c02 c03
      clear hfr hfrb hfrt ht1
      go_wp2_with fail
      go_region
      all_goals
        clear k0 k1 k2 k3 g0 g1 g2 g3 g4 o0 o1 o2 o3 a0 a1 a2 a3 b0 b1 b2 b3 b4 c00 c01 c02 c03
        obtain ⟨k0, k1, k2, k3, g0, g1, g2, g3, g4, o0, o1, o2, o3, _⟩ := HT.out.all
        dsimp only at o0 o1 o2 o3
        clear k0 k1 k2 k3 g0 g1 g2 g3 g4
        obtain ⟨x0, y0, z0, u0, ⟨q0, q1, q2, q3⟩, q4, q5, q6, q7⟩ := HT.out.room
        have HST := Lib.hid (HT.out.fin (.int .i64 sl) (.slice (some ⟨g, 0, none⟩) n1' y1) (.slice (some ⟨gb, 0, none⟩) n2' y2) (.slice X3 n3' y3))
        go_wp2_with fail
        exact ret_blk2 rfl rfl rfl rfl HST.out.1.drew (n := 4) rfl (by kernel_rfl) ⟨⟨(some ⟨g, 0, none⟩), n1', y1, (some ⟨gb, 0, none⟩), n2', y2, X3, n3', y3⟩, by rw [HDE.out, HC0.out]; dsimp only; rw [HSL.out]; rfl, by rw [HDE.out]; exact ⟨HST.out.2.1.1.next ((Below.refl _ _).drew), HST.out.2.1.2⟩, HST.out.2.2.drew⟩
    · subst hk
      have HDE : Hid (doN d ⟨4, (ka : Int), p, s0, t⟩ = d) := Lib.hid (by rw [HD.out]; unfold stepN; rw [if_neg (by simp), if_neg (by simp), if_neg (by simp), if_neg (by simp)])
      have HT := HS
      obtain ⟨k0, k1, k2, k3, g0, g1, g2, g3, g4, o0, o1, o2, o3, _⟩ := HS.out.all
      dsimp only at k0 k1 k2 k3 g0 g1 g2 g3 g4 o0 o1 o2 o3
      go_upto_region 15 with (fail)
      clear k0 k1 k2 k3 g0 g1 g2 g3 g4 o0 o1 o2 o3
      obtain ⟨k0, k1, k2, k3, g0, g1, g2, g3, g4, o0, o1, o2, o3, _⟩ := HT.out.all
      dsimp only at o0 o1 o2 o3
      clear k0 k1 k2 k3 g0 g1 g2 g3 g4
      obtain ⟨x0, y0, z0, u0, ⟨q0, q1, q2, q3⟩, q4, q5, q6, q7⟩ := HT.out.room
      have HST := Lib.hid (HT.out.fin (.int .i64 sl) (.slice X1 n1' y1) (.slice X2 n2' y2) (.slice X3 n3' y3))
      go_wp2_with fail
      exact ret_blk2 rfl rfl rfl rfl HST.out.1 (n := 4) rfl (by kernel_rfl) ⟨⟨X1, n1', y1, X2, n2', y2, X3, n3', y3⟩, by rw [HDE.out, HC0.out]; dsimp only; rw [HSL.out]; rfl, by rw [HDE.out]; exact HST.out.2.1, HST.out.2.2⟩
  · have HD : Hid (doN d s = noWd) := Lib.hid (by unfold doN; rw [if_neg hc])
    have hc2 : (canE d s != 0) = true := by simp [hc]
    have HOK := Lib.hid (fun W => And.intro (WOk.no W) (FrB.no w.heap.size))
    clear h
    unfold DoPost
    rw [HD.out]
    generalize canE d s = ce at *
    clear hc
    obtain ⟨A1, n1, c1, A2, n2, c2, A3, n3, c3⟩ := r
    obtain ⟨k, a, p, s0, t⟩ := s
    unfold wv wcs sv
    unfold wv wcs sv at HCA
    unfold wcs scs at HWS
    dsimp only at HCA HWS ⊢
    generalize d.sl = sl at *
    go_enter Try.func54, Try.ntmps54
    go_wp2_with fail
    generalize World.alloc (World.alloc (World.alloc w _) _) _ = w1 at *
    obtain ⟨k0, k1, k2, k3⟩ := HWS.out.one4
    obtain ⟨g0, g1, g2, g3, g4⟩ := HWS.out.two5
    dsimp only at k0 k1 k2 k3 g0 g1 g2 g3 g4
    go_wp2_with fail
    refine (HCA.out _ HWS.out.bel).mono ?_
    rintro e w2 ⟨rfl, hb2⟩
    have HW2 := Lib.hid (HWS.out.next hb2); clear hb2 k0 k1 k2 k3 g0 g1 g2 g3 g4
    obtain ⟨x0, y0, z0, u0, ⟨q0, q1, q2, q3⟩, q4, q5, q6, q7⟩ := HW2.out.room
    have HST := Lib.hid (HW2.out.stored (.int .i64 0) (.slice none 0 0) (.slice none 0 0) (.slice none 0 0))
    go_wp2_with fail
    exact ret_blk2 rfl rfl rfl rfl HST.out.1 (n := 4) rfl (by kernel_rfl) ⟨noRaw, rfl, HOK.out _, HST.out.2⟩
end Go.Proofs.Ytnaiflokmihmeaa
