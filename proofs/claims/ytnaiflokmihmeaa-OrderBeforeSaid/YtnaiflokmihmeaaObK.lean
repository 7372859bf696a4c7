/- Walks: Long (package order), sameLists. The map of durations. -/
import Derived.Test.YtnaiflokmihmeaaObA
import Derived.Test.YtnaiflokmihmeaaMgB
namespace Go.Proofs.Ytnaiflokmihmeaa
open Go.RowKit
set_option linter.unusedVariables false
set_option linter.unusedSimpArgs false

set_option maxHeartbeats 4000000 in
theorem longS_any (s : Stp) (w : World) : Calls Try.prog 42 #[sv s] w fun e w' => e = .returned (.int .i64 (longN s)) ∧ Below w.heap.size w w' := by
  have HB := Lib.hid ((Below.refl w.heap.size w).alloc (Nat.le_refl _) (.cells #[.int .i64 s.k, .int .i64 s.a, .int .i64 s.p, .int .i64 s.s, .int .i64 s.t] 39))
  obtain ⟨k, a, p, q, t⟩ := s
  unfold sv
  dsimp only at HB ⊢
  by_cases h0 : k = 0
  · subst h0
    have HE : Hid (longN ⟨0, a, p, q, t⟩ = 40) := Lib.hid rfl
    go_enter Try.func42, Try.ntmps42
    go_wp2_with fail
    go_ret
    exact ⟨ret_int HE.out.symm, HB.out⟩
  by_cases h1 : k = 1
  · subst h1
    have HE : Hid (longN ⟨1, a, p, q, t⟩ = 10) := Lib.hid rfl
    go_enter Try.func42, Try.ntmps42
    go_wp2_with fail
    go_ret
    exact ⟨ret_int HE.out.symm, HB.out⟩
  by_cases h2 : k = 2
  · subst h2
    have HE : Hid (longN ⟨2, a, p, q, t⟩ = 10) := Lib.hid rfl
    go_enter Try.func42, Try.ntmps42
    go_wp2_with fail
    go_ret
    exact ⟨ret_int HE.out.symm, HB.out⟩
  by_cases h3 : k = 3
  · subst h3
    have HE : Hid (longN ⟨3, a, p, q, t⟩ = 20) := Lib.hid rfl
    go_enter Try.func42, Try.ntmps42
    go_wp2_with fail
    go_ret
    exact ⟨ret_int HE.out.symm, HB.out⟩
  by_cases h4 : k = 4
  · subst h4
    have HE : Hid (longN ⟨4, a, p, q, t⟩ = min (max t 0) 2000) := Lib.hid rfl
    go_enter Try.func42, Try.ntmps42
    go_wp2_with fail
    go_ret
    exact ⟨ret_int HE.out.symm, HB.out⟩
  · have HE : Hid (longN ⟨k, a, p, q, t⟩ = 0) := Lib.hid (by simp [longN, h0, h1, h2, h3, h4])
    have q0 : (k == 0) = false := by simp [h0]
    have q1 : (k == 1) = false := by simp [h1]
    have q2 : (k == 2) = false := by simp [h2]
    have q3 : (k == 3) = false := by simp [h3]
    have q4 : (k == 4) = false := by simp [h4]
    clear h0 h1 h2 h3 h4
    go_enter Try.func42, Try.ntmps42
    go_wp2_with fail
    go_ret
    exact ⟨ret_int HE.out.symm, HB.out⟩
abbrev eJ (x : Int) : Value := .int .i64 x
theorem kEJ : KLaw Try.prog 3 eJ := klaw_int Try.underlying3
theorem zJ (w : World) : (zeroValue 3).run Try.prog w = .ok (.int .i64 0) w := by kernel_rfl
theorem long_map (W : World) (x k : Int) : ∃ m2 m3 m4 m5 m6 : World,
    (Instr.mapUpdate 60 (.map (some W.heap.size)) (.int .i64 0) (.int .i64 40)).run Try.prog (W.alloc (.map #[] 0)) = .ok () m2 ∧
    (Instr.mapUpdate 60 (.map (some W.heap.size)) (.int .i64 1) (.int .i64 10)).run Try.prog m2 = .ok () m3 ∧
    (Instr.mapUpdate 60 (.map (some W.heap.size)) (.int .i64 2) (.int .i64 10)).run Try.prog m3 = .ok () m4 ∧
    (Instr.mapUpdate 60 (.map (some W.heap.size)) (.int .i64 3) (.int .i64 20)).run Try.prog m4 = .ok () m5 ∧
    (Instr.mapUpdate 60 (.map (some W.heap.size)) (.int .i64 4) (.int .i64 x)).run Try.prog m5 = .ok () m6 ∧
    (Instr.lookup 60 (.map (some W.heap.size)) (.int .i64 k) false).run Try.prog m6 = .ok (.int .i64 (if k = 0 then 40 else if k = 1 then 10 else if k = 2 then 10 else if k = 3 then 20 else if k = 4 then x else 0)) m6 ∧
    Below W.heap.size W m5 ∧ Below W.heap.size W m6 := by
  have hM0 : MapOf eJ eJ (W.alloc (.map #[] 0)) W.heap.size [] := MapOf.made W
  obtain ⟨m2, r2, hM2, g2⟩ := hM0.update kEJ Try.underlying60 0 40
  obtain ⟨m3, r3, hM3, g3⟩ := hM2.update kEJ Try.underlying60 1 10
  obtain ⟨m4, r4, hM4, g4⟩ := hM3.update kEJ Try.underlying60 2 10
  obtain ⟨m5, r5, hM5, g5⟩ := hM4.update kEJ Try.underlying60 3 20
  obtain ⟨m6, r6, hM6, g6⟩ := hM5.update kEJ Try.underlying60 4 x
  have hlk := hM6.lookup kEJ Try.underlying60 (zJ m6) k false (v := .int .i64 (if k = 0 then 40 else if k = 1 then 10 else if k = 2 then 10 else if k = 3 then 20 else if k = 4 then x else 0)) (o := (aget (aput (aput (aput (aput (aput [] 0 40) 1 10) 2 10) 3 20) 4 x) k).isSome) (by
    simp only [aget_aput, aget]
    by_cases h4 : k = 4
    · subst h4; simp
    · by_cases h3 : k = 3
      · subst h3; simp
      · by_cases h2 : k = 2
        · subst h2; simp
        · by_cases h1 : k = 1
          · subst h1; simp
          · by_cases h0 : k = 0
            · subst h0; simp
            · simp [h0, h1, h2, h3, h4]) rfl
  simp only [Bool.false_eq_true, if_false] at hlk
  have h0 : Below W.heap.size W (W.alloc (.map #[] 0)) := (Below.refl _ _).alloc (Nat.le_refl _) _
  have hk : ∀ k, some W.heap.size = some k → W.heap.size ≤ k := fun k e => by injection e with e; omega
  have h2 := h0.grown g2 h0.size hk
  have h3 := h2.grown g3 h2.size hk
  have h4 := h3.grown g4 h3.size hk
  have h5 := h4.grown g5 h4.size hk
  exact ⟨m2, m3, m4, m5, m6, r2, r3, r4, r5, r6, hlk, h5, h5.grown g6 h5.size hk⟩
set_option maxHeartbeats 2000000 in
set_option maxRecDepth 20000 in
/-- slices.EqualFunc with slices.Equal at equal lists -/
theorem eqFunc_any (rs qs : List Od.Row) (A B : Option Addr) (n c c' : Nat) (w : World) (hn : n = rs.length) (hq : n = qs.length) (hm : n ≤ 9223372036854775807) (h : Od.RowsAt w w.heap.size A rs) (h' : Od.RowsAt w w.heap.size B qs) (he : Od.ll rs = Od.ll qs) :
    Calls Try.prog 80 #[.slice A n c, .slice B n c', .func (.func 64) #[] #[]] w fun e w' => e = .returned (.bool true) ∧ Below w.heap.size w w' := by
  have HN := Lib.hid hn
  have HQ := Lib.hid hq
  have H := Lib.hid h
  have H' := Lib.hid h'
  have HE := Lib.hid he
  clear hn hq h h' he
  go_enter Try.func80, Try.ntmps80
  go_wp2_with fail
  go_loopg [17] n (fun kx i wr => ∃ j : Nat, kx = n - j ∧ j ≤ n ∧ i = .int .i64 (j : Int) ∧ Hid (Below w.heap.size w wr))
  case atStart => exact ⟨0, by omega, Nat.zero_le _, rfl, Lib.hid (Below.refl _ _)⟩
  case round =>
    obtain ⟨j, hgk, hj, rfl, HB⟩ := hrel
    have HGK := Lib.hid hgk; clear hgk
    by_cases hlt : j < n
    · obtain ⟨⟨RA, rc, rxs⟩, hr⟩ := get_of_lt HN.out hlt
      obtain ⟨⟨RB, rd, qxs⟩, hs⟩ := get_of_lt HQ.out hlt
      have e1 := Od.ll_get hr
      have e2 := Od.ll_get hs
      rw [HE.out, e2] at e1
      have e3 := Option.some.inj e1
      dsimp only at e3
      subst e3
      obtain ⟨b, off, hA, hb, hc1, hl, hi⟩ := H.out j _ hr
      obtain ⟨b', off', hB, hb', hc1', hl', hi'⟩ := H'.out j _ hs
      subst hA
      subst hB
      dsimp only at hc1 hc1' hl hl' hi hi'
      have s0 := (HB.out.cell (p := ⟨b, off + j, none⟩) hb).trans hc1
      have s1 := (HB.out.cell (p := ⟨b', off' + j, none⟩) hb').trans hc1'
      have HX := Lib.hid (equalI_any qxs qxs RA RB qxs.length qxs.length rc rd wr rfl rfl hl hl (hi.next HB.out) (hi'.next HB.out) (r := true) (by simp))
      clear hr hs e1 e2 hb hb' hc1 hc1' hl hl' hi hi'
      generalize qxs.length = m at *
      have i1 : (0 : Int) ≤ (j : Int) := by omega
      have i2 : (j : Int) < (n : Int) := by omega
      go_wp2_with fail
      refine HX.out.mono ?_
      rintro e w5 ⟨rfl, hb5⟩
      have HB5 := Lib.hid (HB.out.trans (hb5.mono HB.out.size))
      clear hb5 s0 s1
      go_wp2_with fail
      go_roundg (n - (j + 1))
      case measure => rw [HGK.out]; omega
      case rel => exact ⟨j + 1, rfl, by omega, by go_num, HB5⟩
    · go_wp2_with fail
      go_ret
      exact ⟨rfl, HB.out⟩
theorem sameLists_any (rs qs : List Od.Row) (A B : Option Addr) (n c c' : Nat) (w : World) (hn : n = rs.length) (hq : n = qs.length) (hm : n ≤ 9223372036854775807) (h : Od.RowsAt w w.heap.size A rs) (h' : Od.RowsAt w w.heap.size B qs) (he : Od.ll rs = Od.ll qs) :
    Calls Try.prog 41 #[.slice A n c, .slice B n c'] w fun e w' => e = .returned (.bool true) ∧ Below w.heap.size w w' := by
  have HX := Lib.hid (eqFunc_any rs qs A B n c c' w hn hq hm h h' he)
  clear hn hq h h' he
  go_enter Try.func41, Try.ntmps41
  go_wp2_with fail
  refine HX.out.mono ?_
  rintro e w5 ⟨rfl, hb5⟩
  have HB5 := Lib.hid hb5
  go_wp2_with fail
  go_ret
  exact ⟨rfl, HB5.out⟩
end Go.Proofs.Ytnaiflokmihmeaa
