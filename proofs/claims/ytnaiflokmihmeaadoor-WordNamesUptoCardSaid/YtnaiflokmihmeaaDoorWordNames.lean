/- The law WordNames: IsName, IsNumber and Line against the document. -/
import Derived.Test.YtnaiflokmihmeaaDoorWnI
import Derived.Test.YtnaiflokmihmeaaDoorRows
import Derived.Test.YtnaiflokmihmeaaDoorBulk
import Derived.ChangeMaps5
namespace Go.Proofs.YtnaiflokmihmeaaDoor
open Go.RowKit Go.ChangeShapes Go.WideShapes Go.Deep
set_option linter.unusedVariables false
set_option linter.unusedSimpArgs false

theorem maxL_of {w : World} (h : w.ShapedOpen Tryd.prog) : MaxL w := by
  obtain ⟨m, hm⟩ := Tryd.laysM219.s1_3 w h
  have hm' : w.cell? ⟨0, 0, none⟩ = some (.int .i64 m) := hm
  refine ⟨?_, m, hm'⟩
  rcases Nat.eq_zero_or_pos w.heap.size with h0 | h0
  · exfalso
    have : w.heap[0]? = none := Array.getElem?_eq_none (by omega)
    unfold World.cell? at hm'
    simp [this] at hm'
  · exact h0
/-- line breaks ahead of a place -/
def lnC (l : List UInt8) (a j : Nat) : Nat := ((l.take j).take a).count 10
theorem lnC_step {l : List UInt8} {a j : Nat} {x : UInt8} (h : l[j]? = some x) : lnC l a (j + 1) = lnC l a j + if j < a ∧ x = 10 then 1 else 0 := by
  have hj := (List.getElem?_eq_some_iff.1 h).1
  unfold lnC
  rw [List.take_take, List.take_take]
  by_cases hja : j < a
  · rw [Nat.min_eq_right (by omega : j + 1 ≤ a), Nat.min_eq_right (by omega : j ≤ a), List.take_add_one, h, List.count_append]
    by_cases hx : x = 10
    · subst hx; simp [hja]
    · simp [hx, hja]
  · rw [Nat.min_eq_left (by omega : a ≤ j + 1), Nat.min_eq_left (by omega : a ≤ j)]
    simp [hja]
theorem lnC_le (l : List UInt8) (a j : Nat) : lnC l a j ≤ j := by
  unfold lnC
  refine Nat.le_trans List.count_le_length ?_
  rw [List.length_take, List.length_take]; omega

set_option maxHeartbeats 4000000 in
set_option maxRecDepth 20000 in
theorem wordNames_main (s : ByteArray) (a : Int) (W : World) (hs : s.size ≤ 1048576) (hM : MaxL W) :
    Calls Tryd.prog 3 #[.string s, .int .i64 a] W fun e W' => e = .returned (.bool true) ∧ Below W.heap.size W W' := by
  have HM := Lib.hid hM
  have HW := Lib.hid (fun w (h : MaxL w) => worded_any w h)
  have HI := Lib.hid (fun w => isName_any s w)
  have HN := Lib.hid (fun w => nameIs_any s w hs)
  have HU := Lib.hid (fun w (h : MaxL w) => isNumber_any s w hs h)
  have HV := Lib.hid (fun w (h : MaxL w) => numberIs_any s w hs h)
  have HL := Lib.hid (fun w => line_any s a w hs)
  have HLE : Hid (((bl s).take a.toNat).count 10 = lnC (bl s) a.toNat s.size) := Lib.hid (by
    unfold lnC
    rw [List.take_of_length_le (l := bl s) (i := s.size) (by rw [bl_len]; exact Nat.le_refl _)])
  have HLB := Lib.hid (lnC_le (bl s) a.toNat)
  have HST := Lib.hid (fun j (h : j < s.size) => lnC_step (a := a.toNat) (bl_at s h))
  generalize ((bl s).take a.toNat).count 10 = cn at *
  generalize nameB (bl s) = xn at *
  generalize numB (bl s) = xu at *
  clear hM
  go_enter Tryd.func3, Tryd.ntmps3
  go_wp2_with fail
  go_loopg [5, 9] s.size (fun k n i wr => W = wr ∧ ∃ j : Nat, k = s.size - j ∧ j ≤ s.size ∧ i = .int .i64 j ∧ n = .int .i64 ((1 + lnC (bl s) a.toNat j : Nat) : Int))
  case atStart => exact ⟨rfl, 0, rfl, Nat.zero_le _, rfl, by unfold lnC; simp⟩
  case round =>
    obtain ⟨rfl, j, hgk, hj, rfl, rfl⟩ := hrel
    have HGK := Lib.hid hgk; clear hgk
    by_cases hlt : j < s.size
    · have HS1 := Lib.hid (HST.out j hlt)
      have HLJ := Lib.hid (HLB.out j)
      obtain ⟨c, hc⟩ : ∃ c, lnC (bl s) a.toNat j = c := ⟨_, rfl⟩
      rw [hc] at HS1 HLJ ⊢
      clear hc
      have hcs : c ≤ 1048576 := by have := HLJ.out; omega
      rcases Int.lt_or_le (j : Int) a with ha | ha
      · have e10 := ieq (s[j]'hlt).toNat 10
        cases h10 : decide ((s[j]'hlt).toNat = 10) <;> rw [h10] at e10
        · have HN1 : Hid (lnC (bl s) a.toNat (j + 1) = c) := Lib.hid (by
            rw [HS1.out, if_neg (fun h => by have := of_decide_eq_false h10; rw [h.2] at this; exact this rfl), Nat.add_zero])
          clear h10
          go_wp2_with fail
          go_roundg (s.size - (j + 1))
          case measure => rw [HGK.out]; omega
          case rel => exact ⟨rfl, j + 1, rfl, by omega, by go_num, by first | (rw [HN1.out]; done) | (rw [HN1.out]; rfl)⟩
        · have HN1 : Hid (lnC (bl s) a.toNat (j + 1) = c + 1) := Lib.hid (by
            rw [HS1.out, if_pos ⟨by omega, UInt8.toNat_inj.1 (by rw [of_decide_eq_true h10]; rfl)⟩])
          clear h10
          go_wp2_with fail
          go_roundg (s.size - (j + 1))
          case measure => rw [HGK.out]; omega
          case rel => exact ⟨rfl, j + 1, rfl, by omega, by go_num, by first | (rw [HN1.out]; done) | (rw [HN1.out]; congr 1; done) | (rw [HN1.out]; congr 1; omega)⟩
      · have HN1 : Hid (lnC (bl s) a.toNat (j + 1) = c) := Lib.hid (by rw [HS1.out, if_neg (fun h => by have := h.1; omega), Nat.add_zero])
        go_wp2_with fail
        go_roundg (s.size - (j + 1))
        case measure => rw [HGK.out]; omega
        case rel => exact ⟨rfl, j + 1, rfl, by omega, by go_num, by first | (rw [HN1.out]; done) | (rw [HN1.out]; rfl)⟩
    · obtain rfl : j = s.size := by omega
      rw [← HLE.out]
      cases xn <;> cases xu
      all_goals
        go_wp2_with first
          | (go_at_call 6; refine (HW.out _ HM.out).mono ?_; rintro e w1 ⟨rfl, hb1⟩; have HB1 := Lib.hid hb1; have HM1 := Lib.hid (HM.out.below hb1); clear hb1)
          | (go_at_call 7; refine (HI.out _).mono ?_; rintro e w' ⟨rfl, hw⟩; rw [hw])
          | (go_at_call 8; refine (HN.out _).mono ?_; rintro e w2 ⟨rfl, hb2⟩; have HB2 := Lib.hid (HB1.out.trans (hb2.mono HB1.out.size)); have HM2 := Lib.hid (HM1.out.below hb2); clear hb2)
          | (go_at_call 9; refine (HU.out _ HM2.out).mono ?_; rintro e w3 ⟨rfl, hb3⟩; have HB3 := Lib.hid (HB2.out.trans (hb3.mono HB2.out.size)); have HM3 := Lib.hid (HM2.out.below hb3); clear hb3)
          | (go_at_call 10; refine (HV.out _ HM3.out).mono ?_; rintro e w4 ⟨rfl, hb4⟩; have HB4 := Lib.hid (HB3.out.trans (hb4.mono HB3.out.size)); clear hb4)
          | (go_at_call 11; refine (HL.out _).mono ?_; rintro e w' ⟨rfl, hw⟩; rw [hw])
        go_ret
        exact ⟨rfl, HB4.out⟩

theorem wordNames_walk {H : Type} {enc : TypeId × Value → H} (W : World) (v0 v1 : Value) {d0 d1 : DataW H} {p0 p1 : List MemPlace} {base : Nat}
    (h0 : DataW.Trod enc Tryd.prog W 0 (fun _ => true) true 9 v0 d0 p0) (h1 : DataW.Trod enc Tryd.prog W 0 (fun _ => true) true 3 v1 d1 p1)
    (o0 : Value.okWide Tryd.prog W .any base 9 v0) (o1 : Value.okWide Tryd.prog W .any base 3 v1)
    (w0 : Light Tryd.prog 9 d0) (w1 : Light Tryd.prog 3 d1) (hk : Rows.uptoBulkAll [d0, d1] ≤ 1048576) (hS : W.ShapedOpen Tryd.prog) :
    Calls Tryd.prog 3 #[v0, v1] W fun e W' => e = .returned (.bool true) ∧ Below W.heap.size W W' := by
  obtain ⟨s, rfl, rfl, rfl, hs⟩ := Go.ChangeMaps.open_string Tryd.underlying9 o0 h0
  obtain ⟨a, rfl, rfl, rfl, ha⟩ := open_int Tryd.underlying3 o1 h1
  have hb : Rows.uptoBulk (DataW.lit (H := H) (.string s.data.toList)) ≤ 1048576 := Nat.le_trans (bulk_mem List.mem_cons_self) hk
  simp only [Rows.uptoBulk] at hb
  have hl := bl_len s
  unfold bl at hl
  exact wordNames_main s a W (by omega) (maxL_of hS)
end Go.Proofs.YtnaiflokmihmeaaDoor
