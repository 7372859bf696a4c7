/- Walks: First (package tools), and the fact about tools that the statements begin with. -/
import Derived.Test.YtogjfmgecnoceaaToolsA
import Derived.Test.YtogjfmgecnoceaaToolsQ
namespace Go.Proofs.Ytogjfmgecnoceaa
open Go.RowKit
set_option linter.unusedVariables false
set_option linter.unusedSimpArgs false

theorem ret_first {us : List U} {u : U} {x y : Int} (h : firstU us u = (x, y)) : Ending.returned (.tuple #[.int .i64 x, .int .i64 y]) = .returned (.tuple #[.int .i64 (firstU us u).1, .int .i64 (firstU us u).2]) := by rw [h]
def nob (b : Bool) : Nat := if b then 1 else 0

set_option maxHeartbeats 800000 in
theorem first_any (us : List U) (A : Option Addr) (n c : Nat) (a f l : Int) (w : World) (hn : n = us.length) (hnc : n ≤ c) (hm : c ≤ maxLen) (h : UsesAt w w.heap.size A us) :
    Calls Try.prog 82 #[.slice A n c, .int .i64 a, .int .i64 f, .int .i64 l] w fun e w' => e = .returned (.tuple #[.int .i64 (firstU us ⟨a,f,l⟩).1, .int .i64 (firstU us ⟨a,f,l⟩).2]) ∧ Below w.heap.size w w' := by
  have HC := Lib.hid (check_any us A n c w hn hnc hm h)
  have HN := Lib.hid hn; clear hn
  have H := Lib.hid h; clear h
  unfold maxLen at hm
  by_cases hchk : chk us = 0
  · have hall := all_ok hchk
    have HALL := Lib.hid hall; clear hall
    have HCHK := Lib.hid hchk; clear hchk
    cases hok : okU ⟨a, f, l⟩ with
    | false =>
      have HOK := Lib.hid hok; clear hok
      go_enter Try.func82, Try.ntmps82
      go_wp2_with fail
      refine HC.out.mono ?_
      rw [HCHK.out]
      rintro e w1 ⟨rfl, hb1⟩
      go_wp2_with fail
      refine (valid_is _ _ _ _ HOK.out).mono ?_
      rintro e w2 ⟨rfl, hb2⟩
      go_wp2_with fail
      go_ret2
      exact ⟨ret_first (firstU_arg HCHK.out HOK.out), (hb1.alloc hb1.size _).trans (hb2.mono (by have := hb1.size; simp; omega))⟩
    | true =>
      have HOK := Lib.hid hok
      obtain ⟨t0, t1, f0, l0, l1, fl⟩ := okU_iff.1 hok; clear hok
      dsimp only at t0 t1 f0 l0 l1 fl
      go_enter Try.func82, Try.ntmps82
      go_wp2_with fail
      refine HC.out.mono ?_
      rw [HCHK.out]
      rintro e w1 ⟨rfl, hb1⟩
      go_wp2_with fail
      refine (valid_is _ _ _ _ HOK.out).mono ?_
      rintro e w2 ⟨rfl, hb2⟩
      have hblk : Blk w2 w1.heap.size 102 #[.int .i64 a, .int .i64 f, .int .i64 l] := (Blk.new w1 _ _).belowB hb2
      have hbw : Below w.heap.size w w2 := (hb1.alloc hb1.size _).trans (hb2.mono (by have := hb1.size; simp; omega))
      have hsz := hb1.size
      clear hb1 hb2
      generalize w1.heap.size = g at *
      have HBLK := Lib.hid hblk; clear hblk
      have HBW := Lib.hid hbw; clear hbw
      go_wp2_with fail
      go_loopg [12] (2 * (2001 - f).toNat + 1) (fun m ag wr => ∃ (b : Bool) (F : Int), m = 2 * (2001 - F).toNat + nob b ∧ ag = .bool b ∧ f ≤ F ∧ Hid (okU ⟨a, F, l⟩ = true) ∧ Hid (Below w.heap.size w wr) ∧ Hid (Blk wr g 102 #[.int .i64 a, .int .i64 F, .int .i64 l]) ∧
        Hid (∀ x, f ≤ x → x < F → freeAt us a l x = false) ∧ Hid (b = false → ∀ v ∈ us, clashU ⟨a, F, l⟩ v = false))
      case atStart => exact ⟨true, f, rfl, rfl, Int.le_refl _, HOK.out, HBW.out, HBLK.out, fun x h1 h2 => by omega, fun h => by cases h⟩
      case round =>
        obtain ⟨b, F, hgk, rfl, hF, hFok, hbel, hblk, hbusy, hno⟩ := hrel
        have HGK := Lib.hid hgk; clear hgk
        cases b with
        | false =>
          have e1 : wr.cell? ⟨g, 1, none⟩ = some (.int .i64 F) := hblk.out.cell 1
          go_wp2_with fail
          go_ret2
          exact ⟨ret_first (firstU_at HCHK.out HOK.out hF hFok.out hbusy.out (hno.out (by trivial))), hbel.out⟩
        | true =>
          go_wp2_with fail
          go_loopg [12, 30] n (fun m ag i wi => ∃ (b' : Bool) (F' : Int) (k : Nat), m = n - k ∧ k ≤ n ∧ i = .int .i64 k ∧ ag = .bool b' ∧ F ≤ F' ∧ F' ≤ 2000 ∧ Hid (Below w.heap.size w wi) ∧ Hid (Blk wi g 102 #[.int .i64 a, .int .i64 F', .int .i64 l]) ∧
            Hid (∀ x, f ≤ x → x < F' → freeAt us a l x = false) ∧ Hid (b' = false → F' = F ∧ ∀ j < k, ∀ v, us[j]? = some v → clashU ⟨a, F, l⟩ v = false) ∧ Hid (b' = true → F < F'))
          case atStart =>
            obtain ⟨_, _, _, _, _, hh⟩ := okU_iff.1 hFok.out
            exact ⟨false, F, 0, by omega, Nat.zero_le _, rfl, rfl, Int.le_refl _, by dsimp only at hh; omega, hbel.out, hblk.out, hbusy.out, fun _ => ⟨rfl, forall_lt_zero⟩, fun h => by cases h⟩
          case round =>
            obtain ⟨b', F', k, hgk2, hk, rfl, rfl, hFF, hF2, hbel2, hblk2, hbusy2, hno2, hlt2⟩ := hrel
            have HGK2 := Lib.hid hgk2; clear hgk2
            by_cases hlt : k < n
            · obtain ⟨v, hv⟩ := get_of_lt HN.out hlt
              obtain ⟨bb, off, rfl, hb, h0, h1, h2⟩ := H.out k v hv
              have HV := Lib.hid hv; clear hv
              have g0 := (hbel2.out.cell (p := ⟨bb, off + k*3, none⟩) hb).trans h0
              have g1 := (hbel2.out.cell (p := ⟨bb, off + k*3+1, none⟩) hb).trans h1
              have g2 := (hbel2.out.cell (p := ⟨bb, off + k*3+2, none⟩) hb).trans h2
              clear h0 h1 h2
              have hz := hbel2.out.size
              have hgz := hblk2.out.lt
              have e0 : wr.cell? ⟨g, 0, none⟩ = some (.int .i64 a) := hblk2.out.cell 0
              have e1 : wr.cell? ⟨g, 1, none⟩ = some (.int .i64 F') := hblk2.out.cell 1
              have e2 : wr.cell? ⟨g, 2, none⟩ = some (.int .i64 l) := hblk2.out.cell 2
              cases hcl : clashU ⟨a, F', l⟩ v with
              | false =>
                have HCL := Lib.hid hcl; clear hcl
                go_wp2_with fail
                refine (clash_is ⟨a, F', l⟩ v _ HCL.out).mono ?_
                rintro e w3 ⟨rfl, hb3⟩
                clear e0 e1 e2 g0 g1 g2
                go_wp2_with fail
                go_roundg (n - (k + 1))
                case measure => rw [HGK2.out]; omega
                case rel =>
                  refine ⟨b', F', k+1, rfl, by omega, by go_num, rfl, hFF, hF2, (hbel2.out.alloc hz _).trans (hb3.mono (by simp; omega)), (hblk2.out.alloc _).belowB hb3, hbusy2.out, fun hb' => ?_, hlt2.out⟩
                  obtain ⟨rfl, hh⟩ := hno2.out hb'
                  exact ⟨rfl, forall_lt_succ hh (fun v' hv' => by rw [HV.out] at hv'; cases hv'; exact HCL.out)⟩
              | true =>
                have hokF : okU ⟨a, F', l⟩ = true := by
                  simp only [clashU, Bool.and_eq_true] at hcl; exact hcl.1.1
                obtain ⟨c1, c2, c3, c4⟩ := busy_of_clash HALL.out hokF (List.mem_of_getElem? HV.out) hcl
                have hvok := okU_iff.1 (HALL.out v (List.mem_of_getElem? HV.out))
                obtain ⟨_, _, _, _, _, _⟩ := hvok
                dsimp only at c1 c2 c3
                have HC4 := Lib.hid c4; clear c4
                have HCL := Lib.hid hcl; clear hcl
                have HOKF := Lib.hid hokF; clear hokF
                go_wp2_with fail
                refine (clash_is ⟨a, F', l⟩ v _ HCL.out).mono ?_
                rintro e w3 ⟨rfl, hb3⟩
                clear e0 e1 e2 g0 g1 g2
                have hblk3 := (hblk2.out.alloc (.cells #[.int .i64 v.t, .int .i64 v.f, .int .i64 v.l] 102)).belowB hb3
                have hblkv : Blk w3 wr.heap.size 102 #[.int .i64 v.t, .int .i64 v.f, .int .i64 v.l] := (Blk.new wr _ _).belowB hb3
                have e1 : w3.cell? ⟨g, 1, none⟩ = some (.int .i64 F') := hblk3.cell 1
                have e1f : w3.frozen? ⟨g, 1, none⟩ = false := hblk3.frozen 1
                have v1 : w3.cell? ⟨wr.heap.size, 1, none⟩ = some (.int .i64 v.f) := hblkv.cell 1
                have v2 : w3.cell? ⟨wr.heap.size, 2, none⟩ = some (.int .i64 v.l) := hblkv.cell 2
                have HB3 := Lib.hid hblk3; clear hblk3 hblkv
                go_wp2_with fail
                go_roundg (n - (k + 1))
                case measure => rw [HGK2.out]; omega
                case rel =>
                  refine ⟨true, v.f + v.l, k+1, rfl, by omega, by go_num, rfl, by omega, by omega, ?_, HB3.out.set_ 1 _, fun x h1 h2 => ?_, fun h => (by cases h), fun _ => by omega⟩
                  · exact ((hbel2.out.alloc hz _).trans (hb3.mono (by simp; omega))).setCell (by simp; omega) _
                  · by_cases hx : x < F'
                    · exact hbusy2.out x h1 hx
                    · exact HC4.out x (by show F' ≤ x; omega) h2
            · have e0 : wr.cell? ⟨g, 0, none⟩ = some (.int .i64 a) := hblk2.out.cell 0
              have e1 : wr.cell? ⟨g, 1, none⟩ = some (.int .i64 F') := hblk2.out.cell 1
              have e2 : wr.cell? ⟨g, 2, none⟩ = some (.int .i64 l) := hblk2.out.cell 2
              have hz := hbel2.out.size
              cases hokF : okU ⟨a, F', l⟩ with
              | false =>
                have HOKF := Lib.hid hokF; clear hokF
                go_wp2_with fail
                refine (valid_is _ _ _ _ HOKF.out).mono ?_
                rintro e w3 ⟨rfl, hb3⟩
                go_wp2_with fail
                go_ret2
                refine ⟨ret_first (firstU_late HCHK.out HOK.out (F := F') ?_ hbusy2.out), hbel2.out.trans (hb3.mono hz)⟩
                have : ¬ (F' + l ≤ 2000) := fun hh => by
                  have := (okU_iff (u := ⟨a, F', l⟩)).2 ⟨t0, t1, by show 0 ≤ F'; omega, l0, l1, by show F' ≤ 2000 - l; omega⟩
                  rw [HOKF.out] at this; cases this
                show 2000 < F' + l
                omega
              | true =>
                have HOKF := Lib.hid hokF; clear hokF
                go_wp2_with fail
                refine (valid_is _ _ _ _ HOKF.out).mono ?_
                rintro e w3 ⟨rfl, hb3⟩
                clear e0 e1 e2
                go_wp2_with fail
                go_roundg (2 * (2001 - F').toNat + nob b')
                case measure =>
                  rw [HGK.out]
                  cases b' with
                  | false => simp [nob]; omega
                  | true => have := hlt2.out rfl; simp [nob]; omega
                case rel =>
                  refine ⟨b', F', rfl, rfl, by omega, HOKF.out, hbel2.out.trans (hb3.mono hz), hblk2.out.belowB hb3, hbusy2.out, fun hb' v hv => ?_⟩
                  obtain ⟨rfl, hh⟩ := hno2.out hb'
                  obtain ⟨j, hj⟩ := List.mem_iff_getElem?.1 hv
                  refine hh j ?_ v hj
                  have := HN.out
                  rcases Nat.lt_or_ge j us.length with h | h
                  · omega
                  · rw [List.getElem?_eq_none h] at hj; cases hj
  · have HCHK := Lib.hid hchk; clear hchk
    generalize hcc : chk us = cc at *
    have HCC := Lib.hid hcc; clear hcc
    have hb : (cc != 0) = true := by simpa using HCHK.out
    go_enter Try.func82, Try.ntmps82
    go_wp2_with fail
    refine HC.out.mono ?_
    rintro e w1 ⟨rfl, hb1⟩
    go_wp2_with fail
    go_ret2
    exact ⟨ret_first (by rw [firstU_bad (by rw [HCC.out]; exact HCHK.out), HCC.out]), hb1⟩
end Go.Proofs.Ytogjfmgecnoceaa
