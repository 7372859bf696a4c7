/- Walks: may, Can (package act). -/
/- Walk: Copy (package act). -/
/- Do (package act): plain facts; what stands while it works. -/
import Derived.Test.YtnaiflokmihmeaaMgI
import Derived.Test.YtnaiflokmihmeaaActD
import Derived.Deep.RegionHeld3
import Derived.Deep.DeepCutAuto
import Derived.Test.YtnaiflokmihmeaaMgC
import Derived.Laws.OwnMore
namespace Go.Proofs.Ytnaiflokmihmeaa
open Go.RowKit
set_option linter.unusedVariables false
set_option linter.unusedSimpArgs false

def scs (s : Stp) : Array Value := #[.int .i64 s.k, .int .i64 s.a, .int .i64 s.p, .int .i64 s.s, .int .i64 s.t]
/-- a world and a step in variables -/
structure WS (w : World) (sl : Int) (r : Raw) (s : Stp) (wr : World) : Prop where
  bel : Below w.heap.size w wr
  one : Blk wr w.heap.size 25 (wcs sl r)
  two : Blk wr (w.heap.size + 1) 39 (scs s)
section
variable {w wr w' : World} {sl : Int} {r : Raw} {s : Stp}
theorem WS.start (w : World) (sl : Int) (r : Raw) (s : Stp) : WS w sl r s ((w.alloc (.cells (wcs sl r) 25)).alloc (.cells (scs s) 39)) := ⟨(wboxed2 w sl r s).1, (wboxed2 w sl r s).2.1, (wboxed2 w sl r s).2.2⟩
theorem WS.next (h : WS w sl r s wr) (hb : Below wr.heap.size wr w') : WS w sl r s w' := ⟨h.bel.trans (hb.mono h.bel.size), h.one.belowB hb, h.two.belowB hb⟩
theorem WS.drew (h : WS w sl r s wr) : WS w sl r s wr.drew := ⟨h.bel.drew, h.one, h.two⟩
theorem WS.drewN (h : WS w sl r s wr) (n : Nat) : WS w sl r s (wr.drewN n) := ⟨below_drewN h.bel n, h.one, h.two⟩
theorem WS.all (h : WS w sl r s wr) : wr.cell? ⟨w.heap.size, 0, none⟩ = some (.int .i64 sl) ∧ wr.cell? ⟨w.heap.size, 1, none⟩ = some (.slice r.A1 r.n1 r.c1) ∧ wr.cell? ⟨w.heap.size, 2, none⟩ = some (.slice r.A2 r.n2 r.c2) ∧ wr.cell? ⟨w.heap.size, 3, none⟩ = some (.slice r.A3 r.n3 r.c3) ∧
    wr.cell? ⟨w.heap.size + 1, 0, none⟩ = some (.int .i64 s.k) ∧ wr.cell? ⟨w.heap.size + 1, 1, none⟩ = some (.int .i64 s.a) ∧ wr.cell? ⟨w.heap.size + 1, 2, none⟩ = some (.int .i64 s.p) ∧ wr.cell? ⟨w.heap.size + 1, 3, none⟩ = some (.int .i64 s.s) ∧ wr.cell? ⟨w.heap.size + 1, 4, none⟩ = some (.int .i64 s.t) ∧ WS w sl r s wr :=
  ⟨h.one.cell 0, h.one.cell 1, h.one.cell 2, h.one.cell 3, h.two.cell 0, h.two.cell 1, h.two.cell 2, h.two.cell 3, h.two.cell 4, h⟩
theorem WS.one4 (h : WS w sl r s wr) : wr.cell? ⟨w.heap.size, 0, none⟩ = some (.int .i64 sl) ∧ wr.cell? ⟨w.heap.size, 1, none⟩ = some (.slice r.A1 r.n1 r.c1) ∧ wr.cell? ⟨w.heap.size, 2, none⟩ = some (.slice r.A2 r.n2 r.c2) ∧ wr.cell? ⟨w.heap.size, 3, none⟩ = some (.slice r.A3 r.n3 r.c3) := ⟨h.one.cell 0, h.one.cell 1, h.one.cell 2, h.one.cell 3⟩
theorem WS.two5 (h : WS w sl r s wr) : wr.cell? ⟨w.heap.size + 1, 0, none⟩ = some (.int .i64 s.k) ∧ wr.cell? ⟨w.heap.size + 1, 1, none⟩ = some (.int .i64 s.a) ∧ wr.cell? ⟨w.heap.size + 1, 2, none⟩ = some (.int .i64 s.p) ∧ wr.cell? ⟨w.heap.size + 1, 3, none⟩ = some (.int .i64 s.s) ∧ wr.cell? ⟨w.heap.size + 1, 4, none⟩ = some (.int .i64 s.t) := ⟨h.two.cell 0, h.two.cell 1, h.two.cell 2, h.two.cell 3, h.two.cell 4⟩
end
/-- what may say of the parts -/
def mayV (k p tv iv : Int) (fb hb mem seen : Bool) : Int :=
  if k = 0 then (if 0 ≤ p ∧ fb = true then 6 else if tv = -1 then 7 else if hb = true then 5 else if mem = true then 10 else 0)
  else if k = 1 ∨ k = 3 then (if fb = true then 6 else if hb = false then 7 else if k = 1 ∧ seen = false then 18 else if k = 3 ∧ seen = true then 5 else 0)
  else if k = 2 then (if fb = false ∨ hb = false then 7 else if 0 ≤ iv then 5 else 0)
  else 0
theorem mayE_v (d : Wd) (s : Stp) : mayE d s = mayV s.k s.p (targ d s) (inn d s.s) (full d s) (here d s) (decide (targ d s ∈ d.sp)) (nthB d.se s.p.toNat) := by
  unfold mayE mayV
  simp only [decide_eq_true_eq]
theorem formB_inv {s : Stp} (h : formB s = true) : -1 ≤ s.p ∧ -1 ≤ s.s ∧ 0 ≤ s.a ∧
    ((s.k = 0 ∧ (decide (0 ≤ s.p) ≠ decide (0 ≤ s.s)) ∧ s.t = 0) ∨ ((s.k = 1 ∨ s.k = 3) ∧ 0 ≤ s.p ∧ s.s < 0 ∧ s.t = 0) ∨ (s.k = 2 ∧ 0 ≤ s.s ∧ s.p < 0 ∧ s.t = 0) ∨ (s.k = 4 ∧ s.p < 0 ∧ s.s < 0 ∧ 1 ≤ s.t ∧ s.t ≤ 2000)) := by
  unfold formB at h
  simp only [decide_eq_true_eq] at h
  exact ⟨by omega, by omega, by omega, h.2⟩

set_option maxHeartbeats 8000000 in
set_option maxRecDepth 20000 in
theorem may_any (d : Wd) (r : Raw) (s : Stp) (w : World) (h : WOk w r d) (hv : Vd d) (hf : formB s = true) (ha : s.a < (d.sp.length : Int)) (hp : s.p < (d.pl.length : Int)) (hs : s.s < d.sl) :
    Calls Try.prog 90 #[wv d.sl r, sv s] w fun e w' => e = .returned (.int .i64 (mayE d s)) ∧ Below w.heap.size w w' := by
  obtain ⟨f1, f2, f3, f4⟩ := formB_inv hf
  have hn1 : r.n1 ≤ 6 := by rw [h.h1]; exact hv.p6
  have hn3 : r.n3 ≤ 4 := by rw [h.h3]; exact hv.s4
  have HHO := Lib.hid (fun W (hb : Below w.heap.size w W) => holds_any d r s.a W (h.next hb))
  have HTA := Lib.hid (fun W (hb : Below w.heap.size w W) => targ_any d r s W (h.next hb) (by omega))
  have HIN := Lib.hid (fun W (hb : Below w.heap.size w W) => inn_any d r s.s W (h.next hb))
  have HHA := Lib.hid (fun x {b : Bool} (hx : decide (x ∈ d.sp) = b) W (hb : Below w.heap.size w W) => hasI_any d.sp r.A3 r.n3 r.c3 x W h.h3 (by omega) (h.i3.next hb) hx)
  have HWS := Lib.hid (WS.start w d.sl r s)
  have HV := Lib.hid (mayE_v d s)
  obtain ⟨ka, hka⟩ := Int.eq_ofNat_of_zero_le f3
  have hka3 : ka < r.n3 := by rw [h.h3]; omega
  obtain ⟨x3, hx3⟩ := get_of_lt h.h3 hka3
  have HX3 : Hid (here d s = (decide (targ d s ≠ -1) && decide (x3 = targ d s))) := Lib.hid (by
    unfold here
    rw [hka, Int.toNat_natCast, nthI_get hx3, Bool.eq_iff_iff]
    simp)
  obtain ⟨b3, o3, hA3, hb3, hc3⟩ := h.i3 ka x3 hx3
  have HS2 : Hid (∀ kp : Nat, s.p = kp → ∃ x b o, r.A2 = some ⟨b, o, none⟩ ∧ b < w.heap.size ∧ w.cell? ⟨b, o + kp, none⟩ = some (.bool x) ∧ kp < r.n2 ∧ nthB d.se s.p.toNat = x) := Lib.hid (fun kp hkp => by
    have hlt : kp < d.se.length := by rw [hv.se]; omega
    obtain ⟨x, hx⟩ := get_of_lt rfl hlt
    obtain ⟨b, o, e1, e2, e3⟩ := h.i2 kp x hx
    exact ⟨x, b, o, e1, e2, e3, by rw [h.h2]; exact hlt, by rw [hkp, Int.toNat_natCast, nthB_get hx]⟩)
  clear h hv hf hx3 ha hp hs
  unfold full at HV
  obtain ⟨A1, n1, c1, A2, n2, c2, A3, n3, c3⟩ := r
  obtain ⟨k, a, p, s0, t⟩ := s
  dsimp only at hA3 hka3 hn1 hn3 hka f1 f2 f3 f4 HS2
  subst hA3 hka
  unfold wv wcs sv
  unfold wv wcs at HHO HTA HIN
  unfold sv at HTA
  dsimp only at HHO HTA HIN HHA HV HX3 ⊢
  have i1 : (0 : Int) ≤ (ka : Int) := by omega
  have i2 : (ka : Int) < (n3 : Int) := by omega
  generalize hold d (ka : Int) = hz at *
  generalize targ d ⟨k, (ka : Int), p, s0, t⟩ = tv at *
  generalize inn d s0 = iv at *
  generalize nthB d.se p.toNat = sn at *
  generalize here d ⟨k, (ka : Int), p, s0, t⟩ = hb at *
  generalize hmem : decide (tv ∈ d.sp) = mem at *
  have HME := Lib.hid hmem; clear hmem
  generalize d.sl = sl at *
  go_enter Try.func90, Try.ntmps90
  go_upto_region 1 with (fail)
  have hW0 := HWS.out
  unfold scs wcs at hW0
  dsimp only at hW0
  go_region_held3 (fun w' => w'.cell? ⟨w.heap.size, 0, none⟩ = some (.int .i64 sl) ∧ w'.cell? ⟨w.heap.size, 1, none⟩ = some (.slice A1 n1 c1) ∧ w'.cell? ⟨w.heap.size, 2, none⟩ = some (.slice A2 n2 c2) ∧ w'.cell? ⟨w.heap.size, 3, none⟩ = some (.slice (some ⟨b3, o3, none⟩) n3 c3) ∧ w'.cell? ⟨w.heap.size + 1, 0, none⟩ = some (.int .i64 k) ∧ w'.cell? ⟨w.heap.size + 1, 1, none⟩ = some (.int .i64 (ka : Int)) ∧ w'.cell? ⟨w.heap.size + 1, 2, none⟩ = some (.int .i64 p) ∧ w'.cell? ⟨w.heap.size + 1, 3, none⟩ = some (.int .i64 s0) ∧ w'.cell? ⟨w.heap.size + 1, 4, none⟩ = some (.int .i64 t) ∧ WS w sl ⟨A1, n1, c1, A2, n2, c2, some ⟨b3, o3, none⟩, n3, c3⟩ ⟨k, (ka : Int), p, s0, t⟩ w')
    (first | exact WS.all (by assumption) | exact WS.all (WS.drew (by assumption)))
    (first
      | (go_at_call 50; refine (HHO.out _ (WS.bel (by first | assumption | exact WS.drew (by assumption) | (go_split_ands; assumption)))).mono ?_; rintro e w5 ⟨rfl, hb5⟩; have hS5 := WS.next (by first | assumption | exact WS.drew (by assumption) | (go_split_ands; assumption)) hb5)
      | (go_at_call 84; refine (HTA.out _ (WS.bel (by first | assumption | exact WS.drew (by assumption) | (go_split_ands; assumption)))).mono ?_; rintro e w6 ⟨rfl, hb6⟩; have hS6 := WS.next (by first | assumption | exact WS.drew (by assumption) | (go_split_ands; assumption)) hb6))
  have HS6 := Lib.hid hS6
  clear hS5 hS6 hb5 hb6 hW0
  try clear hrM
  generalize decide (0 ≤ hz) = fb at *
  go_upto_region 2 with (fail)
  go_cut [7] (fun t7 wc => t7 = .bool hb ∧ Hid (WS w sl ⟨A1, n1, c1, A2, n2, c2, some ⟨b3, o3, none⟩, n3, c3⟩ ⟨k, (ka : Int), p, s0, t⟩ wc))
  case first =>
    obtain ⟨k0, k1, k2, k3⟩ := HS6.out.one4
    obtain ⟨g0, g1, g2, g3, g4⟩ := HS6.out.two5
    dsimp only at k0 k1 k2 k3 g0 g1 g2 g3 g4
    have hc := (HS6.out.bel.cell (p := ⟨b3, o3 + ka, none⟩) hb3).trans hc3
    clear hc3
    by_cases htv : tv = -1
    · subst htv
      have HH : Hid (hb = false) := Lib.hid (by rw [HX3.out]; simp)
      go_wp2_with fail
      go_meet
      exact ⟨by rw [HH.out], HS6.out⟩
    · have e1 : (tv != -1) = true := by simp [htv]
      by_cases hx : x3 = tv
      · subst hx
        have HH : Hid (hb = true) := Lib.hid (by rw [HX3.out]; simp [htv])
        clear htv
        go_wp2_with fail
        go_meet
        exact ⟨by rw [HH.out], HS6.out⟩
      · have e2 : (x3 == tv) = false := by simp [hx]
        have HH : Hid (hb = false) := Lib.hid (by rw [HX3.out]; simp [htv, hx])
        clear htv hx
        go_wp2_with fail
        go_meet
        exact ⟨by rw [HH.out], HS6.out⟩
  case rest =>
    obtain ⟨rfl, hws⟩ := hcut
    obtain ⟨k0, k1, k2, k3⟩ := hws.out.one4
    obtain ⟨g0, g1, g2, g3, g4⟩ := hws.out.two5
    dsimp only at k0 k1 k2 k3 g0 g1 g2 g3 g4
    clear hc3 HS6 HX3
    rcases f4 with ⟨rfl, fp, ft⟩ | ⟨hk, fp, fs, ft⟩ | ⟨rfl, fs, fp, ft⟩ | ⟨rfl, fp, fs, ft, ft2⟩
    · clear fp ft
      have hsub : (0 ≤ p ∧ fb = true) ∨ (p < 0) ∨ (0 ≤ p ∧ fb = false) := by cases fb <;> simp <;> omega
      rcases hsub with ⟨hp0, rfl⟩ | hsub
      · have HM : Hid (mayE d ⟨0, (ka : Int), p, s0, t⟩ = 6) := Lib.hid (by rw [HV.out]; simp [mayV, hp0])
        go_wp2_with fail
        go_ret
        exact ⟨ret_int HM.out.symm, hws.out.bel⟩
      · have HM : Hid (mayE d ⟨0, (ka : Int), p, s0, t⟩ = if tv = -1 then 7 else if hb = true then 5 else if mem = true then 10 else 0) := Lib.hid (by
          rw [HV.out]
          unfold mayV
          rw [if_pos rfl, if_neg (by rintro ⟨h1, h2⟩; rcases hsub with h3 | ⟨h3, h4⟩; omega; rw [h4] at h2; cases h2)])
        by_cases htv : tv = -1
        · subst htv
          rw [if_pos rfl] at HM
          rcases hsub with hp0 | ⟨hp0, rfl⟩
          all_goals
            go_wp2_with fail
            go_ret
            exact ⟨ret_int HM.out.symm, hws.out.bel⟩
        · rw [if_neg htv] at HM
          have e1 : (tv == -1) = false := by simp [htv]
          clear htv
          cases hb with
          | true =>
            rw [if_pos rfl] at HM
            rcases hsub with hp0 | ⟨hp0, rfl⟩
            all_goals
              go_wp2_with fail
              go_ret
              exact ⟨ret_int HM.out.symm, hws.out.bel⟩
          | false =>
            rw [if_neg (by simp)] at HM
            cases mem with
            | true =>
              rw [if_pos rfl] at HM
              rcases hsub with hp0 | ⟨hp0, rfl⟩
              all_goals
                go_wp2_with (go_at_call 78; refine (HHA.out _ HME.out _ hws.out.bel).mono ?_; rintro e w' ⟨rfl, rfl⟩)
                go_ret
                exact ⟨ret_int HM.out.symm, hws.out.bel⟩
            | false =>
              rw [if_neg (by simp)] at HM
              rcases hsub with hp0 | ⟨hp0, rfl⟩
              all_goals
                go_wp2_with (go_at_call 78; refine (HHA.out _ HME.out _ hws.out.bel).mono ?_; rintro e w' ⟨rfl, rfl⟩)
                go_ret
                exact ⟨ret_int HM.out.symm, hws.out.bel⟩
    · obtain ⟨kp, rfl⟩ := Int.eq_ofNat_of_zero_le fp
      obtain ⟨x, b, o, rfl, hbl, hcx, hlt, hsn⟩ := HS2.out kp rfl
      have hcw := (hws.out.bel.cell (p := ⟨b, o + kp, none⟩) hbl).trans hcx
      have HSN := Lib.hid hsn
      clear hcx hsn ft fs
      have i3 : (0 : Int) ≤ (kp : Int) := by omega
      have i4 : (kp : Int) < (n2 : Int) := by omega
      have HM : Hid (mayE d ⟨k, (ka : Int), (kp : Int), s0, t⟩ = if fb = true then 6 else if hb = false then 7 else if k = 1 ∧ x = false then 18 else if k = 3 ∧ x = true then 5 else 0) := Lib.hid (by
        rw [HV.out, ← HSN.out]
        unfold mayV
        rw [if_neg (by omega), if_pos hk])
      cases fb with
      | true =>
        rw [if_pos rfl] at HM
        rcases hk with rfl | rfl
        all_goals
          go_wp2_with fail
          go_ret
          exact ⟨ret_int HM.out.symm, hws.out.bel⟩
      | false =>
        rw [if_neg (by simp)] at HM
        cases hb with
        | false =>
          rw [if_pos rfl] at HM
          rcases hk with rfl | rfl
          all_goals
            go_wp2_with fail
            go_ret
            exact ⟨ret_int HM.out.symm, hws.out.bel⟩
        | true =>
          rw [if_neg (by simp)] at HM
          rcases hk with rfl | rfl <;> cases x
          all_goals
            simp at HM
            have HM2 := Lib.hid HM
            clear HM
            go_wp2_with fail
            go_ret
            exact ⟨ret_int HM2.out.out.symm, hws.out.bel⟩
    · have HM : Hid (mayE d ⟨2, (ka : Int), p, s0, t⟩ = if fb = false ∨ hb = false then 7 else if 0 ≤ iv then 5 else 0) := Lib.hid (by rw [HV.out]; simp [mayV])
      clear ft fs fp
      by_cases hfh : fb = false ∨ hb = false
      · rw [if_pos hfh] at HM
        have hfh' : fb = false ∨ (fb = true ∧ hb = false) := by cases fb <;> simp_all
        clear hfh
        rcases hfh' with rfl | ⟨rfl, rfl⟩
        all_goals
          go_wp2_with fail
          go_ret
          exact ⟨ret_int HM.out.symm, hws.out.bel⟩
      · rw [if_neg hfh] at HM
        obtain ⟨rfl, rfl⟩ : fb = true ∧ hb = true := by cases fb <;> cases hb <;> simp_all
        clear hfh
        by_cases hiv : 0 ≤ iv
        · rw [if_pos hiv] at HM
          go_wp2_with fail
          refine (HIN.out _ hws.out.bel).mono ?_
          rintro e w7 ⟨rfl, hb7⟩
          have HW7 := Lib.hid (hws.out.next hb7)
          clear hb7 k0 k1 k2 k3 g0 g1 g2 g3 g4
          go_wp2_with fail
          go_ret
          exact ⟨ret_int HM.out.symm, HW7.out.bel⟩
        · rw [if_neg hiv] at HM
          have hiv' : iv < 0 := by omega
          clear hiv
          go_wp2_with fail
          refine (HIN.out _ hws.out.bel).mono ?_
          rintro e w7 ⟨rfl, hb7⟩
          have HW7 := Lib.hid (hws.out.next hb7)
          clear hb7 k0 k1 k2 k3 g0 g1 g2 g3 g4
          go_wp2_with fail
          go_ret
          exact ⟨ret_int HM.out.symm, HW7.out.bel⟩
    · have HM : Hid (mayE d ⟨4, (ka : Int), p, s0, t⟩ = 0) := Lib.hid (by rw [HV.out]; simp [mayV])
      clear ft fs fp ft2
      go_wp2_with fail
      go_ret
      exact ⟨ret_int HM.out.symm, hws.out.bel⟩

set_option maxHeartbeats 4000000 in
set_option maxRecDepth 20000 in
theorem can_any (d : Wd) (r : Raw) (s : Stp) (w : World) (h : WOk w r d) :
    Calls Try.prog 59 #[wv d.sl r, sv s] w fun e w' => e = .returned (.int .i64 (canE d s)) ∧ Below w.heap.size w w' := by
  have HCK := Lib.hid (fun W (hb : Below w.heap.size w W) => acheck_any d r W (h.next hb))
  have HFO := Lib.hid (fun W => form_any s W)
  have HMA := Lib.hid (fun (hv : Vd d) (hf : formB s = true) (ha : s.a < (d.sp.length : Int)) (hp : s.p < (d.pl.length : Int)) (hs : s.s < d.sl) W (hb : Below w.heap.size w W) => may_any d r s W (h.next hb) hv hf ha hp hs)
  have HWS := Lib.hid (WS.start w d.sl r s)
  have H1 := Lib.hid h.h1
  have H3 := Lib.hid h.h3
  have HV : Hid (canE d s = if wErr d ≠ 0 then wErr d else if formB s = false then 3 else if (d.sp.length : Int) ≤ s.a ∨ (d.pl.length : Int) ≤ s.p ∨ d.sl ≤ s.s then 4 else mayE d s) := Lib.hid rfl
  clear h
  generalize canE d s = ce at *
  obtain ⟨A1, n1, c1, A2, n2, c2, A3, n3, c3⟩ := r
  obtain ⟨k, a, p, s0, t⟩ := s
  unfold wv wcs sv
  unfold wv wcs at HCK HMA
  unfold sv at HFO HMA
  unfold wcs scs at HWS
  dsimp only at HCK HFO HMA HWS H1 H3 HV ⊢
  rw [← H1.out, ← H3.out] at HV HMA
  by_cases he : wErr d = 0
  · have HVD := Lib.hid (vd_of he)
    rw [if_neg (by rw [he]; simp)] at HV
    rw [he] at HCK
    clear he
    cases hf : formB ⟨k, a, p, s0, t⟩ with
    | false =>
      rw [hf, if_pos rfl] at HV
      rw [hf] at HFO
      clear hf HMA
      generalize d.sl = sl at *
      go_enter Try.func59, Try.ntmps59
      go_wp2_with fail
      generalize World.alloc (World.alloc w _) _ = w1 at *
      refine (HCK.out _ HWS.out.bel).mono ?_
      rintro e w2 ⟨rfl, hb2⟩
      have HW2 := Lib.hid (HWS.out.next hb2); clear hb2
      obtain ⟨g0, g1, g2, g3, g4⟩ := HW2.out.two5
      dsimp only at g0 g1 g2 g3 g4
      go_wp2_with fail
      refine (HFO.out _).mono ?_
      rintro e w3 ⟨rfl, hb3⟩
      have HW3 := Lib.hid (HW2.out.next hb3); clear hb3 g0 g1 g2 g3 g4
      go_wp2_with fail
      go_ret
      exact ⟨ret_int HV.out.symm, HW3.out.bel⟩
    | true =>
      rw [hf, if_neg (by simp)] at HV
      have HFT := Lib.hid hf
      rw [hf] at HFO
      clear hf
      by_cases hr : (n3 : Int) ≤ a ∨ (n1 : Int) ≤ p ∨ d.sl ≤ s0
      · rw [if_pos hr] at HV
        clear HMA
        generalize d.sl = sl at *
        have hr' : (n3 : Int) ≤ a ∨ (a < (n3 : Int) ∧ (n1 : Int) ≤ p) ∨ (a < (n3 : Int) ∧ p < (n1 : Int) ∧ sl ≤ s0) := by omega
        clear hr
        rcases hr' with h1 | ⟨h1, h2⟩ | ⟨h1, h2, h3⟩
        all_goals
          go_enter Try.func59, Try.ntmps59
          go_wp2_with fail
          generalize World.alloc (World.alloc w _) _ = w1 at *
          refine (HCK.out _ HWS.out.bel).mono ?_
          rintro e w2 ⟨rfl, hb2⟩
          have HW2 := Lib.hid (HWS.out.next hb2); clear hb2
          obtain ⟨g0, g1, g2, g3, g4⟩ := HW2.out.two5
          dsimp only at g0 g1 g2 g3 g4
          go_wp2_with fail
          refine (HFO.out _).mono ?_
          rintro e w3 ⟨rfl, hb3⟩
          have HW3 := Lib.hid (HW2.out.next hb3); clear hb3 g0 g1 g2 g3 g4
          obtain ⟨k0, k1, k2, k3⟩ := HW3.out.one4
          obtain ⟨g0, g1, g2, g3, g4⟩ := HW3.out.two5
          dsimp only at k0 k1 k2 k3 g0 g1 g2 g3 g4
          go_wp2_with fail
          go_ret
          exact ⟨ret_int HV.out.symm, HW3.out.bel⟩
      · rw [if_neg hr] at HV
        have h1 : a < (n3 : Int) := by omega
        have h2 : p < (n1 : Int) := by omega
        have h3 : s0 < d.sl := by omega
        clear hr
        have HMB := Lib.hid (HMA.out HVD.out HFT.out h1 h2 h3)
        clear HMA
        generalize d.sl = sl at *
        go_enter Try.func59, Try.ntmps59
        go_wp2_with fail
        generalize World.alloc (World.alloc w _) _ = w1 at *
        refine (HCK.out _ HWS.out.bel).mono ?_
        rintro e w2 ⟨rfl, hb2⟩
        have HW2 := Lib.hid (HWS.out.next hb2); clear hb2
        obtain ⟨g0, g1, g2, g3, g4⟩ := HW2.out.two5
        dsimp only at g0 g1 g2 g3 g4
        go_wp2_with fail
        refine (HFO.out _).mono ?_
        rintro e w3 ⟨rfl, hb3⟩
        have HW3 := Lib.hid (HW2.out.next hb3); clear hb3 g0 g1 g2 g3 g4
        obtain ⟨k0, k1, k2, k3⟩ := HW3.out.one4
        obtain ⟨g0, g1, g2, g3, g4⟩ := HW3.out.two5
        dsimp only at k0 k1 k2 k3 g0 g1 g2 g3 g4
        go_wp2_with fail
        refine (HMB.out _ HW3.out.bel).mono ?_
        rintro e w4 ⟨rfl, hb4⟩
        have HW4 := Lib.hid (HW3.out.next hb4); clear hb4 k0 k1 k2 k3 g0 g1 g2 g3 g4
        go_wp2_with fail
        go_ret
        exact ⟨ret_int HV.out.symm, HW4.out.bel⟩
  · rw [if_pos he] at HV
    have he' : (wErr d != 0) = true := by simp [he]
    generalize wErr d = we at *
    clear he HMA HFO
    generalize d.sl = sl at *
    go_enter Try.func59, Try.ntmps59
    go_wp2_with fail
    generalize World.alloc (World.alloc w _) _ = w1 at *
    refine (HCK.out _ HWS.out.bel).mono ?_
    rintro e w2 ⟨rfl, hb2⟩
    have HW2 := Lib.hid (HWS.out.next hb2); clear hb2
    go_wp2_with fail
    go_ret
    exact ⟨ret_int HV.out.symm, HW2.out.bel⟩
end Go.Proofs.Ytnaiflokmihmeaa

namespace Go.Proofs.Ytnaiflokmihmeaa
open Go.RowKit
set_option linter.unusedVariables false
set_option linter.unusedSimpArgs false

theorem IntsAt.of_ownN {w : World} {base n : Nat} {e : TypeId} {v : Value} {xs : List Int} (h : w.ownsRow base e 1 v n (cellsI xs)) : n = xs.length ∧ ∃ A c, v = .slice A n c ∧ n ≤ c ∧ c ≤ maxLen ∧ IntsAt w w.heap.size A xs := by
  have hn : n = xs.length := by have := h.1; simp [cellsI] at this; omega
  subst hn
  exact ⟨rfl, IntsAt.of_own h⟩
/-- the three slices of a world as rows of the call's own -/
abbrev rows3 (r : Raw) (d : Wd) : List Rw := [⟨.slice r.A3 r.n3 r.c3, 3, 1, r.n3, cellsI d.sp⟩, ⟨.slice r.A2 r.n2 r.c2, 4, 1, r.n2, cellsB d.se⟩, ⟨.slice r.A1 r.n1 r.c1, 3, 1, r.n1, cellsI d.pl⟩]
theorem rows3_ok {W w : World} {r : Raw} {d : Wd} (h : Rws W (rows3 r d) w) : WOk w r d := by
  have o3 := h.own _ (List.mem_cons_self)
  have o2 := h.own _ (List.mem_cons_of_mem _ List.mem_cons_self)
  have o1 := h.own _ (List.mem_cons_of_mem _ (List.mem_cons_of_mem _ List.mem_cons_self))
  obtain ⟨e3, A3, c3, v3, l3, m3, i3⟩ := IntsAt.of_ownN o3
  obtain ⟨e2, A2, c2, v2, l2, m2, i2⟩ := BoolsAt.of_own o2
  obtain ⟨e1, A1, c1, v1, l1, m1, i1⟩ := IntsAt.of_ownN o1
  injection v1 with u1 _ u1'
  injection v2 with u2 _ u2'
  injection v3 with u3 _ u3'
  unfold maxLen at m1 m2 m3
  dsimp only at *
  exact ⟨e1, e2, e3, by rw [u1']; exact l1, by rw [u2']; exact l2, by rw [u3']; exact l3, by rw [u1']; exact m1, by rw [u2']; exact m2, by rw [u3']; exact m3, by rw [u1]; exact i1, by rw [u2]; exact i2, by rw [u3]; exact i3⟩
def CopyPost (d : Wd) (r : Raw) (w : World) (e : Ending) (w' : World) : Prop := ∃ r', e = .returned (wv d.sl r') ∧ r'.n1 = r.n1 ∧ r'.n2 = r.n2 ∧ r'.n3 = r.n3 ∧ Rws w (rows3 r' d) w'
/-- while a world is copied -/
structure CpS (w : World) (sl : Int) (r : Raw) (wr : World) : Prop where
  bel : Below w.heap.size w wr
  one : Blk wr w.heap.size 25 (wcs sl r)
  res : ∃ x y z u, Blk wr (w.heap.size + 1) 25 #[x, y, z, u]
section
variable {w wr w' : World} {sl : Int} {r : Raw}
theorem CpS.start (w : World) (sl : Int) (r : Raw) : CpS w sl r ((w.alloc (.cells (wcs sl r) 25)).alloc (.cells #[.int .i64 0, .slice none 0 0, .slice none 0 0, .slice none 0 0] 25)) :=
  ⟨((Below.refl _ _).alloc (Nat.le_refl _) _).alloc (by simp) _, (Blk.new _ _ _).alloc _, ⟨_, _, _, _, Blk.at_ (by simp)⟩⟩
theorem CpS.next (h : CpS w sl r wr) (hb : Below wr.heap.size wr w') : CpS w sl r w' := by
  obtain ⟨h1, h2, x, y, z, u, h3⟩ := h
  exact ⟨h1.trans (hb.mono h1.size), h2.belowB hb, ⟨x, y, z, u, h3.belowB hb⟩⟩
theorem CpS.drew (h : CpS w sl r wr) : CpS w sl r wr.drew := ⟨h.bel.drew, h.one, h.res⟩
theorem CpS.store (h : CpS w sl r wr) (a b c e : Value) : CpS w sl r ((((wr.setCell ⟨w.heap.size + 1, 0, none⟩ a).setCell ⟨w.heap.size + 1, 1, none⟩ b).setCell ⟨w.heap.size + 1, 2, none⟩ c).setCell ⟨w.heap.size + 1, 3, none⟩ e) := by
  obtain ⟨h1, h2, x, y, z, u, h3⟩ := h
  have hn : w.heap.size ≠ w.heap.size + 1 := by omega
  refine ⟨(((h1.setCell ?_ _).setCell ?_ _).setCell ?_ _).setCell ?_ _, (((h2.far (p := ⟨_, 0, none⟩) hn _).far (p := ⟨_, 1, none⟩) hn _).far (p := ⟨_, 2, none⟩) hn _).far (p := ⟨_, 3, none⟩) hn _, ⟨a, b, c, e, (((h3.set_ 0 a).set_ 1 b).set_ 2 c).set_ 3 e⟩⟩ <;> (dsimp only; omega)
theorem CpS.stored (h : CpS w sl r wr) (a b c e : Value) : Blk ((((wr.setCell ⟨w.heap.size + 1, 0, none⟩ a).setCell ⟨w.heap.size + 1, 1, none⟩ b).setCell ⟨w.heap.size + 1, 2, none⟩ c).setCell ⟨w.heap.size + 1, 3, none⟩ e) (w.heap.size + 1) 25 #[a, b, c, e] := by
  obtain ⟨h1, h2, x, y, z, u, h3⟩ := h
  exact (((h3.set_ 0 a).set_ 1 b).set_ 2 c).set_ 3 e
theorem CpS.room (h : CpS w sl r wr) : ∃ x y z u, (wr.cell? ⟨w.heap.size + 1, 0, none⟩ = some x ∧ wr.cell? ⟨w.heap.size + 1, 1, none⟩ = some y ∧ wr.cell? ⟨w.heap.size + 1, 2, none⟩ = some z ∧ wr.cell? ⟨w.heap.size + 1, 3, none⟩ = some u) ∧ (wr.frozen? ⟨w.heap.size + 1, 0, none⟩ = false ∧ wr.frozen? ⟨w.heap.size + 1, 1, none⟩ = false ∧ wr.frozen? ⟨w.heap.size + 1, 2, none⟩ = false ∧ wr.frozen? ⟨w.heap.size + 1, 3, none⟩ = false) := by
  obtain ⟨h1, h2, x, y, z, u, h3⟩ := h
  exact ⟨x, y, z, u, ⟨h3.cell 0, h3.cell 1, h3.cell 2, h3.cell 3⟩, h3.frozen 0, h3.frozen 1, h3.frozen 2, h3.frozen 3⟩
theorem CpS.all (h : CpS w sl r wr) : wr.cell? ⟨w.heap.size, 0, none⟩ = some (.int .i64 sl) ∧ wr.cell? ⟨w.heap.size, 1, none⟩ = some (.slice r.A1 r.n1 r.c1) ∧ wr.cell? ⟨w.heap.size, 2, none⟩ = some (.slice r.A2 r.n2 r.c2) ∧ wr.cell? ⟨w.heap.size, 3, none⟩ = some (.slice r.A3 r.n3 r.c3) ∧ CpS w sl r wr :=
  ⟨h.one.cell 0, h.one.cell 1, h.one.cell 2, h.one.cell 3, h⟩
end
theorem Rws.store_far {W w : World} {rs : List Rw} (h : Rws W rs w) {p : Addr} (hp : ∀ r ∈ rs, r.v.ownBlock ≠ some p.block) (hW : W.heap.size ≤ p.block) (u : Value) : Rws W rs (w.setCell p u) := by
  have hg : w.grownBy (w.setCell p u) (some p.block) := by
    refine ⟨rfl, rfl, rfl, by simp [World.setCell], fun i hi hne => Below.heap_setCell w p u i (fun e => hne (by rw [e]))⟩
  refine ⟨h.below.setCell hW u, fun r hr => (h.own r hr).kept hg ?_, h.apart⟩
  cases hb : r.v.ownBlock with
  | none => exact .inl rfl
  | some k => exact .inr (fun e => hp r hr (by rw [hb, e]))
theorem Rws.res {w wr : World} {sl : Int} {r : Raw} {d : Wd} {r' : Raw} (h : CpS w sl r wr) (hR : Rws w (rows3 r' d) wr) (a b c e : Value) : Rws w (rows3 r' d) ((((wr.setCell ⟨w.heap.size + 1, 0, none⟩ a).setCell ⟨w.heap.size + 1, 1, none⟩ b).setCell ⟨w.heap.size + 1, 2, none⟩ c).setCell ⟨w.heap.size + 1, 3, none⟩ e) := by
  obtain ⟨h1, h2, x, y, z, u, h3⟩ := h
  have hp : ∀ r ∈ rows3 r' d, r.v.ownBlock ≠ some (w.heap.size + 1) := by
    intro q hq e
    have hne : q.e ≠ 25 := by
      simp only [rows3, List.mem_cons, List.not_mem_nil, or_false] at hq
      rcases hq with rfl | rfl | rfl <;> (dsimp only; decide)
    exact own_blk_ne (hR.own q hq) h3 hne e.symm
  exact (((hR.store_far (p := ⟨_, 0, none⟩) hp (Nat.le_succ _) a).store_far (p := ⟨_, 1, none⟩) hp (Nat.le_succ _) b).store_far (p := ⟨_, 2, none⟩) hp (Nat.le_succ _) c).store_far (p := ⟨_, 3, none⟩) hp (Nat.le_succ _) e
set_option maxHeartbeats 8000000 in
set_option maxRecDepth 20000 in
theorem copy_any (d : Wd) (r : Raw) (w : World) (h : WOk w r d) (hs1 : r.n1 ≤ 1000000) (hs2 : r.n2 ≤ 1000000) (hs3 : r.n3 ≤ 1000000) :
    Calls Try.prog 47 #[wv d.sl r] w (CopyPost d r w) := by
  have HC1 := Lib.hid (fun W (hb : Below w.heap.size w W) => cloneI_any d.pl r.A1 r.n1 r.c1 W h.h1 hs1 (h.i1.next hb))
  have HC2 := Lib.hid (fun W (hb : Below w.heap.size w W) => cloneB_any d.se r.A2 r.n2 r.c2 W h.h2 hs2 (h.i2.next hb))
  have HC3 := Lib.hid (fun W (hb : Below w.heap.size w W) => cloneI_any d.sp r.A3 r.n3 r.c3 W h.h3 hs3 (h.i3.next hb))
  have HS := Lib.hid (CpS.start w d.sl r)
  clear h
  unfold ClonePost at HC1 HC2 HC3
  obtain ⟨A1, n1, c1, A2, n2, c2, A3, n3, c3⟩ := r
  unfold wv wcs
  unfold wcs at HS
  dsimp only at HC1 HC2 HC3 HS ⊢
  go_enter Try.func47, Try.ntmps47
  go_wp2_with fail
  have hS := HS.out
  generalize World.alloc (World.alloc w _) _ = w1 at *
  go_region_held3 (fun w' => w'.cell? ⟨w.heap.size, 0, none⟩ = some (.int .i64 d.sl) ∧ w'.cell? ⟨w.heap.size, 1, none⟩ = some (.slice A1 n1 c1) ∧ w'.cell? ⟨w.heap.size, 2, none⟩ = some (.slice A2 n2 c2) ∧ w'.cell? ⟨w.heap.size, 3, none⟩ = some (.slice A3 n3 c3) ∧ CpS w d.sl ⟨A1, n1, c1, A2, n2, c2, A3, n3, c3⟩ w')
    (first | exact CpS.all (by assumption) | exact CpS.all (CpS.drew (by assumption)) | exact CpS.all (CpS.store hS7 _ _ _ _))
    (first
      | (go_at_call 16
         (with_reducible refine (HC2.out _ (CpS.bel (by first | assumption | exact CpS.drew (by assumption) | (go_split_ands; assumption)))).mono ?_)
         rintro e w6 ⟨v6, rfl, ho6, hb6⟩
         have hS6 := CpS.next (by first | assumption | exact CpS.drew (by assumption) | (go_split_ands; assumption)) hb6
         have hR2 := Rws.more (by first | exact hR1 | exact Rws.drew hR1) hb6 ho6
         obtain ⟨hn6, A6, c6, rfl, _, _, _⟩ := BoolsAt.of_own ho6
         clear hn6)
      | (go_at_call 15
         (with_reducible refine (HC3.out _ (CpS.bel (by first | assumption | exact CpS.drew (by assumption) | (go_split_ands; assumption)))).mono ?_)
         rintro e w7 ⟨v7, rfl, ho7, hb7⟩
         have hS7 := CpS.next (by first | assumption | exact CpS.drew (by assumption) | (go_split_ands; assumption)) hb7
         have hR3 := Rws.more (by first | exact hR2 | exact Rws.drew hR2) hb7 ho7
         obtain ⟨hn7, A7, c7, rfl, _, _, _⟩ := IntsAt.of_ownN ho7
         clear hn7
         obtain ⟨x0, y0, z0, u0, ⟨q0, q1, q2, q3⟩, q4, q5, q6, q7⟩ := hS7.room)
      | (go_at_call 15
         (with_reducible refine (HC1.out _ (CpS.bel (by first | assumption | exact CpS.drew (by assumption) | (go_split_ands; assumption)))).mono ?_)
         rintro e w5 ⟨v5, rfl, ho5, hb5⟩
         have hS5 := CpS.next (by first | assumption | exact CpS.drew (by assumption) | (go_split_ands; assumption)) hb5
         have hR1 := Rws.more (Rws.begin (CpS.bel (by first | assumption | exact CpS.drew (by assumption) | (go_split_ands; assumption)))) hb5 ho5
         obtain ⟨hn5, A5, c5, rfl, _, _, _⟩ := IntsAt.of_ownN ho5
         clear hn5))
  all_goals
    have HR3 := Lib.hid (Rws.res (r' := ⟨A5, n1, c5, A6, n2, c6, A7, n3, c7⟩) hS7 hR3 (.int .i64 d.sl) (.slice A5 n1 c5) (.slice A6 n2 c6) (.slice A7 n3 c7))
    have HBR := Lib.hid (CpS.stored hS7 (.int .i64 d.sl) (.slice A5 n1 c5) (.slice A6 n2 c6) (.slice A7 n3 c7))
    clear hR1 hR2 hR3 hS5 hS6 hS7 ho5 ho6 ho7 hb5 hb6 hb7 q0 q1 q2 q3 q4 q5 q6 q7
    go_wp2_with fail
    exact ret_blk1 rfl rfl rfl HBR.out (n := 4) rfl (by kernel_rfl) ⟨⟨A5, n1, c5, A6, n2, c6, A7, n3, c7⟩, rfl, rfl, rfl, rfl, HR3.out⟩
end Go.Proofs.Ytnaiflokmihmeaa

namespace Go.Proofs.Ytnaiflokmihmeaa
open Go.RowKit
set_option linter.unusedVariables false
set_option linter.unusedSimpArgs false

theorem canE_inv {d : Wd} {s : Stp} (h : canE d s = 0) : Vd d ∧ formB s = true ∧ s.a < (d.sp.length : Int) ∧ s.p < (d.pl.length : Int) ∧ s.s < d.sl ∧ mayE d s = 0 := by
  unfold canE at h
  by_cases h1 : wErr d = 0
  · rw [if_neg (by simp [h1])] at h
    cases hf : formB s with
    | false => rw [hf, if_pos rfl] at h; cases h
    | true =>
      rw [hf, if_neg (by simp)] at h
      by_cases h2 : (d.sp.length : Int) ≤ s.a ∨ (d.pl.length : Int) ≤ s.p ∨ d.sl ≤ s.s
      · rw [if_pos h2] at h; cases h
      · rw [if_neg h2] at h
        exact ⟨vd_of h1, rfl, by omega, by omega, by omega, h⟩
  · rw [if_pos h1] at h; exact absurd h h1
theorem ixI_spec {p : Int → Bool} {xs : List Int} (h : 0 ≤ ixI p xs) : ∃ k : Nat, ixI p xs = k ∧ k < xs.length ∧ ∃ x, xs[k]? = some x ∧ p x = true := by
  unfold ixI at *
  cases hi : xs.findIdx? p with
  | none => rw [hi] at h; simp at h
  | some i =>
    obtain ⟨hl, hp, _⟩ := List.findIdx?_eq_some_iff_getElem.1 hi
    exact ⟨i, rfl, hl, _, List.getElem?_eq_getElem hl, hp⟩
theorem hold_spec {d : Wd} {a : Int} (h : 0 ≤ hold d a) : ∃ k : Nat, hold d a = k ∧ k < d.pl.length ∧ d.pl[k]? = some (-2 - a) := by
  unfold hold at *
  split at h
  · simp at h
  · rename_i h0
    rw [if_neg h0]
    obtain ⟨k, h1, h2, x, h3, h4⟩ := ixI_spec h
    exact ⟨k, h1, h2, by rw [h3]; simp at h4; rw [h4]⟩
theorem may2 {d : Wd} {s : Stp} (hk : s.k = 2) (h : mayE d s = 0) : 0 ≤ hold d s.a := by
  unfold mayE at h
  rw [if_neg (by omega), if_neg (by omega), if_pos hk] at h
  split at h
  · cases h
  · rename_i h1
    have h2 : full d s = true := by cases hx : full d s <;> simp_all
    unfold full at h2
    simpa using h2

theorem Rws.store {W w : World} {rs : List Rw} (h : Rws W rs w) {i : Nat} {r : Rw} (hi : rs[i]? = some r) {n c g : Nat} (hv : r.v = .slice (some ⟨g, 0, none⟩) n c) (hn : r.n = n) {j : Nat} {u : Value} : Rws W (rs.set i { r with xs := r.xs.set j u }) (w.setCell ⟨g, j, none⟩ u) := by
  have hil := (List.getElem?_eq_some_iff.1 hi).1
  have hri : rs[i] = r := (List.getElem?_eq_some_iff.1 hi).2
  have hr := h.own r (List.mem_of_getElem? hi)
  rw [hn, hv] at hr
  have hob : r.v.ownBlock = some g := by rw [hv]; rfl
  have hg : w.grownBy (w.setCell ⟨g, j, none⟩ u) (some g) := ⟨rfl, rfl, rfl, by simp [World.setCell], fun q hq hne => Below.heap_setCell w _ u q (fun e => hne (by rw [e]))⟩
  have hap := List.pairwise_iff_getElem.1 h.apart
  refine ⟨h.below.setCell (hr.lt g rfl).1 u, fun q hq => ?_, ?_⟩
  · obtain ⟨k, hk, hkq⟩ := List.mem_iff_getElem.1 hq
    rw [List.length_set] at hk
    rw [List.getElem_set] at hkq
    split at hkq
    · subst hkq
      dsimp only
      rw [hn, hv]
      exact (hr.stored j u).1
    · rename_i hne
      subst hkq
      refine (h.own _ (List.getElem_mem hk)).kept hg ?_
      rcases Nat.lt_trichotomy i k with h1 | h1 | h1
      · have := hap i k hil hk h1
        rw [hri, hob] at this
        rcases this with h2 | h2
        · cases h2
        · exact .inr (Ne.symm h2)
      · exact absurd h1 hne
      · have := hap k i hk hil h1
        rw [hri, hob] at this
        exact this
  · rw [List.pairwise_iff_getElem]
    intro p q hp hq hpq
    rw [List.length_set] at hp hq
    have := hap p q hp hq hpq
    rw [List.getElem_set, List.getElem_set]
    split <;> split <;> (try subst_vars) <;> first | omega | (simp only [hri] at this ⊢; exact this) | exact this
/-- the rows lie in blocks of their own, above B -/
def FrB (B : Nat) (r : Raw) : Prop := ∀ ad, (r.A1 = some ad ∨ r.A2 = some ad ∨ r.A3 = some ad) → B ≤ ad.block
theorem FrB.no (B : Nat) : FrB B noRaw := fun ad h => by rcases h with h | h | h <;> cases h
theorem FrB.mono {B B' : Nat} {r : Raw} (h : FrB B r) (hb : B' ≤ B) : FrB B' r := fun ad ha => Nat.le_trans hb (h ad ha)
theorem own_above {w : World} {base : Nat} {e : TypeId} {s n n' c : Nat} {A : Option Addr} {xs : List Value} (h : w.ownsRow base e s (.slice A n' c) n xs) {ad : Addr} (ha : A = some ad) : base ≤ ad.block := by
  rcases h.2 with ⟨hv, h0⟩ | ⟨g, cap, cur, hv, hg, _⟩
  · injection hv with e1; rw [e1] at ha; cases ha
  · injection hv with e1; rw [e1] at ha; cases ha; exact hg
theorem rows3_fresh {W w : World} {r : Raw} {d : Wd} (h : Rws W (rows3 r d) w) : FrB W.heap.size r := by
  intro ad ha
  rcases ha with ha | ha | ha
  · exact own_above (h.own _ (List.mem_cons_of_mem _ (List.mem_cons_of_mem _ List.mem_cons_self))) ha
  · exact own_above (h.own _ (List.mem_cons_of_mem _ List.mem_cons_self)) ha
  · exact own_above (h.own _ List.mem_cons_self) ha
/-- a store ahead of the rows -/
theorem WOk.far {w : World} {r : Raw} {d : Wd} {B : Nat} (h : WOk w r d) (hf : FrB B r) {p : Nat} (hp : p < B) (i : Nat) (u : Value) : WOk (w.setCell ⟨p, i, none⟩ u) r d := by
  have hc : ∀ b o, B ≤ b → (w.setCell ⟨p, i, none⟩ u).cell? ⟨b, o, none⟩ = w.cell? ⟨b, o, none⟩ := fun b o hb => World.cell?_setCell_other _ _ _ _ (fun e => by injection e with e; omega)
  have hz : (w.setCell ⟨p, i, none⟩ u).heap.size = w.heap.size := by simp [World.setCell]
  refine { h with i1 := ?_, i2 := ?_, i3 := ?_ } <;> intro k x hx <;> rw [hz]
  · obtain ⟨b, off, hA, hb, h0⟩ := h.i1 k x hx
    exact ⟨b, off, hA, hb, by rw [hc b _ (hf _ (.inl hA))]; exact h0⟩
  · obtain ⟨b, off, hA, hb, h0⟩ := h.i2 k x hx
    exact ⟨b, off, hA, hb, by rw [hc b _ (hf _ (.inr (.inl hA)))]; exact h0⟩
  · obtain ⟨b, off, hA, hb, h0⟩ := h.i3 k x hx
    exact ⟨b, off, hA, hb, by rw [hc b _ (hf _ (.inr (.inr hA)))]; exact h0⟩
theorem WOk.put4 {w : World} {r : Raw} {d : Wd} {B : Nat} (h : WOk w r d) (hf : FrB B r) {p : Nat} (hp : p < B) (a b c e : Value) : WOk ((((w.setCell ⟨p, 0, none⟩ a).setCell ⟨p, 1, none⟩ b).setCell ⟨p, 2, none⟩ c).setCell ⟨p, 3, none⟩ e) r d :=
  (((h.far hf hp 0 a).far hf hp 1 b).far hf hp 2 c).far hf hp 3 e
/-- while a step is done -/
structure DoS (w : World) (sl : Int) (r : Raw) (s : Stp) (po : Nat) (ro : Raw) (d : Wd) (wr : World) : Prop where
  bel : Below w.heap.size w wr
  one : Blk wr w.heap.size 25 (wcs sl r)
  two : Blk wr (w.heap.size + 1) 39 (scs s)
  res : ∃ x y z u, Blk wr (w.heap.size + 2) 25 #[x, y, z, u]
  out : Blk wr po 25 (wcs sl ro)
  row : Rws w (rows3 ro d) wr
section
variable {w wr w' : World} {sl : Int} {r ro : Raw} {s : Stp} {po : Nat} {d : Wd}
theorem DoS.next (h : DoS w sl r s po ro d wr) (hb : Below wr.heap.size wr w') : DoS w sl r s po ro d w' := by
  obtain ⟨h1, h2, h3, ⟨x, y, z, u, h4⟩, h5, h6⟩ := h
  exact ⟨h1.trans (hb.mono h1.size), h2.belowB hb, h3.belowB hb, ⟨x, y, z, u, h4.belowB hb⟩, h5.belowB hb, h6.next hb⟩
theorem DoS.drew (h : DoS w sl r s po ro d wr) : DoS w sl r s po ro d wr.drew := h.next (Below.refl _ _).drew
theorem DoS.drewN (h : DoS w sl r s po ro d wr) (n : Nat) : DoS w sl r s po ro d (wr.drewN n) := h.next (below_drewN (Below.refl _ _) n)
theorem DoS.all (h : DoS w sl r s po ro d wr) : wr.cell? ⟨w.heap.size, 0, none⟩ = some (.int .i64 sl) ∧ wr.cell? ⟨w.heap.size, 1, none⟩ = some (.slice r.A1 r.n1 r.c1) ∧ wr.cell? ⟨w.heap.size, 2, none⟩ = some (.slice r.A2 r.n2 r.c2) ∧ wr.cell? ⟨w.heap.size, 3, none⟩ = some (.slice r.A3 r.n3 r.c3) ∧
    wr.cell? ⟨w.heap.size + 1, 0, none⟩ = some (.int .i64 s.k) ∧ wr.cell? ⟨w.heap.size + 1, 1, none⟩ = some (.int .i64 s.a) ∧ wr.cell? ⟨w.heap.size + 1, 2, none⟩ = some (.int .i64 s.p) ∧ wr.cell? ⟨w.heap.size + 1, 3, none⟩ = some (.int .i64 s.s) ∧ wr.cell? ⟨w.heap.size + 1, 4, none⟩ = some (.int .i64 s.t) ∧
    wr.cell? ⟨po, 0, none⟩ = some (.int .i64 sl) ∧ wr.cell? ⟨po, 1, none⟩ = some (.slice ro.A1 ro.n1 ro.c1) ∧ wr.cell? ⟨po, 2, none⟩ = some (.slice ro.A2 ro.n2 ro.c2) ∧ wr.cell? ⟨po, 3, none⟩ = some (.slice ro.A3 ro.n3 ro.c3) ∧ DoS w sl r s po ro d wr :=
  ⟨h.one.cell 0, h.one.cell 1, h.one.cell 2, h.one.cell 3, h.two.cell 0, h.two.cell 1, h.two.cell 2, h.two.cell 3, h.two.cell 4, h.out.cell 0, h.out.cell 1, h.out.cell 2, h.out.cell 3, h⟩
theorem DoS.put (h : DoS w sl r s po ro d wr) {i : Nat} {q : Rw} (hi : (rows3 ro d)[i]? = some q) {n c g : Nat} (hv : q.v = .slice (some ⟨g, 0, none⟩) n c) (hn : q.n = n) {j : Nat} {u : Value} {d' : Wd} (hd : (rows3 ro d).set i { q with xs := q.xs.set j u } = rows3 ro d') : DoS w sl r s po ro d' (wr.setCell ⟨g, j, none⟩ u) := by
  obtain ⟨h1, h2, h3, ⟨x, y, z, v, h4⟩, h5, h6⟩ := h
  have hq := h6.own q (List.mem_of_getElem? hi)
  have hob : q.v.ownBlock = some g := by rw [hv]; rfl
  have hne : q.e ≠ 25 ∧ q.e ≠ 39 := by
    have := List.mem_of_getElem? hi
    simp only [rows3, List.mem_cons, List.not_mem_nil, or_false] at this
    rcases this with rfl | rfl | rfl <;> (dsimp only; decide)
  have ne : ∀ {p : Nat} {t : TypeId} {cs : Array Value}, Blk wr p t cs → q.e ≠ t → p ≠ g := fun hb hn e => own_blk_ne hq hb hn (by rw [hob, e])
  refine ⟨h1.setCell (hq.lt g hob).1 u, h2.far (ne h2 hne.1) _, h3.far (ne h3 hne.2) _, ⟨x, y, z, v, h4.far (ne h4 hne.1) _⟩, h5.far (ne h5 hne.1) _, ?_⟩
  have := h6.store hi hv hn (j := j) (u := u)
  rwa [hd] at this
theorem DoS.put3 (h : DoS w sl r s po ro d wr) {g : Nat} (hA : ro.A3 = some ⟨g, 0, none⟩) (j : Nat) (u : Int) : DoS w sl r s po ro { d with sp := d.sp.set j u } (wr.setCell ⟨g, j, none⟩ (.int .i64 u)) :=
  h.put (i := 0) (q := ⟨.slice ro.A3 ro.n3 ro.c3, 3, 1, ro.n3, cellsI d.sp⟩) rfl (by rw [hA]) rfl (by simp [rows3, cellsI, List.map_set])
theorem DoS.put2 (h : DoS w sl r s po ro d wr) {g : Nat} (hA : ro.A2 = some ⟨g, 0, none⟩) (j : Nat) (u : Bool) : DoS w sl r s po ro { d with se := d.se.set j u } (wr.setCell ⟨g, j, none⟩ (.bool u)) :=
  h.put (i := 1) (q := ⟨.slice ro.A2 ro.n2 ro.c2, 4, 1, ro.n2, cellsB d.se⟩) rfl (by rw [hA]) rfl (by simp [rows3, cellsB, List.map_set])
theorem DoS.put1 (h : DoS w sl r s po ro d wr) {g : Nat} (hA : ro.A1 = some ⟨g, 0, none⟩) (j : Nat) (u : Int) : DoS w sl r s po ro { d with pl := d.pl.set j u } (wr.setCell ⟨g, j, none⟩ (.int .i64 u)) :=
  h.put (i := 2) (q := ⟨.slice ro.A1 ro.n1 ro.c1, 3, 1, ro.n1, cellsI d.pl⟩) rfl (by rw [hA]) rfl (by simp [rows3, cellsI, List.map_set])
/-- where the rows lie -/
theorem DoS.at3 (h : DoS w sl r s po ro d wr) {k : Nat} {x : Int} (hx : d.sp[k]? = some x) : ∃ g, ro.A3 = some ⟨g, 0, none⟩ ∧ k < ro.n3 ∧ ∀ j, wr.frozen? ⟨g, j, none⟩ = false ∧ (j < ro.n3 → (wr.cell? ⟨g, j, none⟩).isSome = true) := by
  have ho := h.row.own _ (List.mem_cons_self)
  dsimp only at ho
  have hl := (List.getElem?_eq_some_iff.1 hx).1
  have hn : ro.n3 = d.sp.length := by have := ho.1; simp [cellsI] at this; omega
  rcases ho.2 with ⟨hv, h0⟩ | ⟨g, cap, cur, hv, hg, hh, hnc, hm, hs, hc⟩
  · omega
  · injection hv with e1 e2 e3
    have hB : Blk wr g 3 cur := hh
    exact ⟨g, e1, by omega, fun j => ⟨hB.frozen j, fun hj => by rw [hB.cell, Array.getElem?_eq_getElem (by omega)]; rfl⟩⟩
theorem DoS.at2 (h : DoS w sl r s po ro d wr) {k : Nat} {x : Bool} (hx : d.se[k]? = some x) : ∃ g, ro.A2 = some ⟨g, 0, none⟩ ∧ k < ro.n2 ∧ ∀ j, wr.frozen? ⟨g, j, none⟩ = false ∧ (j < ro.n2 → (wr.cell? ⟨g, j, none⟩).isSome = true) := by
  have ho := h.row.own _ (List.mem_cons_of_mem _ List.mem_cons_self)
  dsimp only at ho
  have hl := (List.getElem?_eq_some_iff.1 hx).1
  have hn : ro.n2 = d.se.length := by have := ho.1; simp [cellsB] at this; omega
  rcases ho.2 with ⟨hv, h0⟩ | ⟨g, cap, cur, hv, hg, hh, hnc, hm, hs, hc⟩
  · omega
  · injection hv with e1 e2 e3
    have hB : Blk wr g 4 cur := hh
    exact ⟨g, e1, by omega, fun j => ⟨hB.frozen j, fun hj => by rw [hB.cell, Array.getElem?_eq_getElem (by omega)]; rfl⟩⟩
theorem DoS.at1 (h : DoS w sl r s po ro d wr) {k : Nat} {x : Int} (hx : d.pl[k]? = some x) : ∃ g, ro.A1 = some ⟨g, 0, none⟩ ∧ k < ro.n1 ∧ ∀ j, wr.frozen? ⟨g, j, none⟩ = false ∧ (j < ro.n1 → (wr.cell? ⟨g, j, none⟩).isSome = true) := by
  have ho := h.row.own _ (List.mem_cons_of_mem _ (List.mem_cons_of_mem _ List.mem_cons_self))
  dsimp only at ho
  have hl := (List.getElem?_eq_some_iff.1 hx).1
  have hn : ro.n1 = d.pl.length := by have := ho.1; simp [cellsI] at this; omega
  rcases ho.2 with ⟨hv, h0⟩ | ⟨g, cap, cur, hv, hg, hh, hnc, hm, hs, hc⟩
  · omega
  · injection hv with e1 e2 e3
    have hB : Blk wr g 3 cur := hh
    exact ⟨g, e1, by omega, fun j => ⟨hB.frozen j, fun hj => by rw [hB.cell, Array.getElem?_eq_getElem (by omega)]; rfl⟩⟩
end
/-- two arguments and a result in variables -/
structure WR (w : World) (sl : Int) (r : Raw) (s : Stp) (wr : World) : Prop where
  bel : Below w.heap.size w wr
  one : Blk wr w.heap.size 25 (wcs sl r)
  two : Blk wr (w.heap.size + 1) 39 (scs s)
  res : ∃ x y z u, Blk wr (w.heap.size + 2) 25 #[x, y, z, u]
section
variable {w wr w' : World} {sl : Int} {r ro : Raw} {s : Stp} {po : Nat} {d : Wd}
theorem WR.start (w : World) (sl : Int) (r : Raw) (s : Stp) : WR w sl r s (((w.alloc (.cells (wcs sl r) 25)).alloc (.cells (scs s) 39)).alloc (.cells #[.int .i64 0, .slice none 0 0, .slice none 0 0, .slice none 0 0] 25)) := by
  have h := WS.start w sl r s
  have hz : ((w.alloc (.cells (wcs sl r) 25)).alloc (.cells (scs s) 39)).heap.size = w.heap.size + 2 := by simp
  exact ⟨h.bel.alloc h.bel.size _, h.one.alloc _, h.two.alloc _, ⟨_, _, _, _, Blk.at_ hz.symm⟩⟩
theorem WR.next (h : WR w sl r s wr) (hb : Below wr.heap.size wr w') : WR w sl r s w' := by
  obtain ⟨h1, h2, h3, x, y, z, u, h4⟩ := h
  exact ⟨h1.trans (hb.mono h1.size), h2.belowB hb, h3.belowB hb, x, y, z, u, h4.belowB hb⟩
theorem WR.one4 (h : WR w sl r s wr) : wr.cell? ⟨w.heap.size, 0, none⟩ = some (.int .i64 sl) ∧ wr.cell? ⟨w.heap.size, 1, none⟩ = some (.slice r.A1 r.n1 r.c1) ∧ wr.cell? ⟨w.heap.size, 2, none⟩ = some (.slice r.A2 r.n2 r.c2) ∧ wr.cell? ⟨w.heap.size, 3, none⟩ = some (.slice r.A3 r.n3 r.c3) := ⟨h.one.cell 0, h.one.cell 1, h.one.cell 2, h.one.cell 3⟩
theorem WR.two5 (h : WR w sl r s wr) : wr.cell? ⟨w.heap.size + 1, 0, none⟩ = some (.int .i64 s.k) ∧ wr.cell? ⟨w.heap.size + 1, 1, none⟩ = some (.int .i64 s.a) ∧ wr.cell? ⟨w.heap.size + 1, 2, none⟩ = some (.int .i64 s.p) ∧ wr.cell? ⟨w.heap.size + 1, 3, none⟩ = some (.int .i64 s.s) ∧ wr.cell? ⟨w.heap.size + 1, 4, none⟩ = some (.int .i64 s.t) := ⟨h.two.cell 0, h.two.cell 1, h.two.cell 2, h.two.cell 3, h.two.cell 4⟩
/-- the room of a result -/
def Room (p : Nat) (wr : World) : Prop := ∃ x y z u, (wr.cell? ⟨p, 0, none⟩ = some x ∧ wr.cell? ⟨p, 1, none⟩ = some y ∧ wr.cell? ⟨p, 2, none⟩ = some z ∧ wr.cell? ⟨p, 3, none⟩ = some u) ∧ (wr.frozen? ⟨p, 0, none⟩ = false ∧ wr.frozen? ⟨p, 1, none⟩ = false ∧ wr.frozen? ⟨p, 2, none⟩ = false ∧ wr.frozen? ⟨p, 3, none⟩ = false)
theorem room_of {p : Nat} {t : TypeId} {x y z u : Value} (h : Blk wr p t #[x, y, z, u]) : Room p wr := ⟨x, y, z, u, ⟨h.cell 0, h.cell 1, h.cell 2, h.cell 3⟩, h.frozen 0, h.frozen 1, h.frozen 2, h.frozen 3⟩
theorem WR.room (h : WR w sl r s wr) : Room (w.heap.size + 2) wr := by
  obtain ⟨h1, h2, h3, x, y, z, u, h4⟩ := h
  exact room_of h4
theorem DoS.room (h : DoS w sl r s po ro d wr) : Room (w.heap.size + 2) wr := by
  obtain ⟨h1, h2, h3, ⟨x, y, z, u, h4⟩, h5, h6⟩ := h
  exact room_of h4
abbrev put4 (wr : World) (p : Nat) (a b c e : Value) : World := (((wr.setCell ⟨p, 0, none⟩ a).setCell ⟨p, 1, none⟩ b).setCell ⟨p, 2, none⟩ c).setCell ⟨p, 3, none⟩ e
theorem below_put4 {p B : Nat} (hB : B ≤ p) (wr : World) (a b c e : Value) : Below B wr (put4 wr p a b c e) :=
  (((((Below.refl B wr).setCell (p := ⟨p, 0, none⟩) hB a).setCell (p := ⟨p, 1, none⟩) hB b).setCell (p := ⟨p, 2, none⟩) hB c).setCell (p := ⟨p, 3, none⟩) hB e)
theorem blk_put4 {p : Nat} {t : TypeId} {x y z u : Value} (h : Blk wr p t #[x, y, z, u]) (a b c e : Value) : Blk (put4 wr p a b c e) p t #[a, b, c, e] := (((h.set_ 0 a).set_ 1 b).set_ 2 c).set_ 3 e
theorem WR.stored (h : WR w sl r s wr) (a b c e : Value) : Blk (put4 wr (w.heap.size + 2) a b c e) (w.heap.size + 2) 25 #[a, b, c, e] ∧ Below w.heap.size w (put4 wr (w.heap.size + 2) a b c e) := by
  obtain ⟨h1, h2, h3, x, y, z, u, h4⟩ := h
  exact ⟨blk_put4 h4 a b c e, h1.trans (below_put4 (by omega) wr a b c e)⟩
/-- the result is laid -/
theorem DoS.fin (h : DoS w sl r s po ro d wr) (a b c e : Value) : Blk (put4 wr (w.heap.size + 2) a b c e) (w.heap.size + 2) 25 #[a, b, c, e] ∧ (WOk (put4 wr (w.heap.size + 2) a b c e) ro d ∧ FrB w.heap.size ro) ∧ Below w.heap.size w (put4 wr (w.heap.size + 2) a b c e) := by
  obtain ⟨h1, h2, h3, ⟨x, y, z, u, h4⟩, h5, h6⟩ := h
  have hp : ∀ r ∈ rows3 ro d, r.v.ownBlock ≠ some (w.heap.size + 2) := by
    intro q hq e
    have hne : q.e ≠ 25 := by
      simp only [rows3, List.mem_cons, List.not_mem_nil, or_false] at hq
      rcases hq with rfl | rfl | rfl <;> (dsimp only; decide)
    exact own_blk_ne (h6.own q hq) h4 hne e.symm
  have hR := (((h6.store_far (p := ⟨w.heap.size + 2, 0, none⟩) hp (by show w.heap.size ≤ w.heap.size + 2; omega) a).store_far (p := ⟨w.heap.size + 2, 1, none⟩) hp (by show w.heap.size ≤ w.heap.size + 2; omega) b).store_far (p := ⟨w.heap.size + 2, 2, none⟩) hp (by show w.heap.size ≤ w.heap.size + 2; omega) c).store_far (p := ⟨w.heap.size + 2, 3, none⟩) hp (by show w.heap.size ≤ w.heap.size + 2; omega) e
  exact ⟨blk_put4 h4 a b c e, ⟨rows3_ok hR, rows3_fresh hR⟩, hR.below⟩
theorem Rws.lower {W w wr : World} {rs : List Rw} (h : Rws w rs wr) (hb : Below W.heap.size W w) : Rws W rs wr := ⟨hb.trans (h.below.mono hb.size), fun r hr => own_mono (h.own r hr) hb.size, h.apart⟩
theorem DoS.of (h : WR w sl r s wr) (hR : Rws wr (rows3 ro d) w') : DoS w sl r s w'.heap.size ro d (w'.alloc (.cells (wcs sl ro) 25)) := by
  have h1 := h.next hR.below
  obtain ⟨h1, h2, h3, x, y, z, u, h4⟩ := h1
  exact ⟨h1.alloc h1.size _, h2.alloc _, h3.alloc _, ⟨x, y, z, u, h4.alloc _⟩, Blk.new _ _ _, (hR.lower h.bel).alloc _⟩
end
theorem DoS.allE {w wr : World} {sl : Int} {r ro : Raw} {s : Stp} {po : Nat} {d : Wd} (h : DoS w sl r s po ro d wr) : wr.cell? ⟨w.heap.size, 0, none⟩ = some (.int .i64 sl) ∧ wr.cell? ⟨w.heap.size, 1, none⟩ = some (.slice r.A1 r.n1 r.c1) ∧ wr.cell? ⟨w.heap.size, 2, none⟩ = some (.slice r.A2 r.n2 r.c2) ∧ wr.cell? ⟨w.heap.size, 3, none⟩ = some (.slice r.A3 r.n3 r.c3) ∧
    wr.cell? ⟨w.heap.size + 1, 0, none⟩ = some (.int .i64 s.k) ∧ wr.cell? ⟨w.heap.size + 1, 1, none⟩ = some (.int .i64 s.a) ∧ wr.cell? ⟨w.heap.size + 1, 2, none⟩ = some (.int .i64 s.p) ∧ wr.cell? ⟨w.heap.size + 1, 3, none⟩ = some (.int .i64 s.s) ∧ wr.cell? ⟨w.heap.size + 1, 4, none⟩ = some (.int .i64 s.t) ∧
    wr.cell? ⟨po, 0, none⟩ = some (.int .i64 sl) ∧ wr.cell? ⟨po, 1, none⟩ = some (.slice ro.A1 ro.n1 ro.c1) ∧ wr.cell? ⟨po, 2, none⟩ = some (.slice ro.A2 ro.n2 ro.c2) ∧ wr.cell? ⟨po, 3, none⟩ = some (.slice ro.A3 ro.n3 ro.c3) ∧ ∃ d', DoS w sl r s po ro d' wr := by
  obtain ⟨a1, a2, a3, a4, a5, a6, a7, a8, a9, b1, b2, b3, b4, b5⟩ := h.all
  exact ⟨a1, a2, a3, a4, a5, a6, a7, a8, a9, b1, b2, b3, b4, _, b5⟩
theorem DoS.ne12 {w wr : World} {sl : Int} {r ro : Raw} {s : Stp} {po : Nat} {d : Wd} (h : DoS w sl r s po ro d wr) {g g' : Nat} (h1 : ro.A1 = some ⟨g, 0, none⟩) (h2 : ro.A2 = some ⟨g', 0, none⟩) : g ≠ g' := by
  have ho1 := h.row.own _ (List.mem_cons_of_mem _ (List.mem_cons_of_mem _ List.mem_cons_self))
  have ho2 := h.row.own _ (List.mem_cons_of_mem _ List.mem_cons_self)
  dsimp only at ho1 ho2
  intro e
  subst e
  rcases ho1.2 with ⟨hv, _⟩ | ⟨g1, cap, cur, hv, hg, hh, _⟩
  · injection hv with e1; rw [h1] at e1; cases e1
  · rcases ho2.2 with ⟨hv2, _⟩ | ⟨g2, cap2, cur2, hv2, hg2, hh2, _⟩
    · injection hv2 with e1; rw [h2] at e1; cases e1
    · injection hv with e1
      injection hv2 with e2
      rw [h1] at e1; rw [h2] at e2
      cases e1; cases e2
      rw [hh] at hh2
      injection hh2 with e3
      injection e3 with e4 e5
      exact absurd e5 (by decide)
/-- what Do and its reference hand back -/
def DoPost (d : Wd) (s : Stp) (w : World) (e : Ending) (w' : World) : Prop := ∃ r', e = .returned (.tuple #[wv (doN d s).sl r', .int .i64 (canE d s)]) ∧ (WOk w' r' (doN d s) ∧ FrB w.heap.size r') ∧ Below w.heap.size w w'
end Go.Proofs.Ytnaiflokmihmeaa

