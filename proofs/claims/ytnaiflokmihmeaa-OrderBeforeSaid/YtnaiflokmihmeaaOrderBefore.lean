/- The law OrderBefore. -/
import Derived.Test.YtnaiflokmihmeaaObI
import Derived.Test.YtnaiflokmihmeaaObJ
import Derived.Test.YtnaiflokmihmeaaObK
namespace Go.Proofs.Ytnaiflokmihmeaa
open Go.RowKit Go.ChangeShapes Go.WideShapes Go.Deep
set_option linter.unusedVariables false
set_option linter.unusedSimpArgs false

/-- the law's variables: the world, the step -/
structure ObL (w : World) (sl : Int) (r : Raw) (s : Stp) (wr : World) : Prop where
  bel : Below w.heap.size w wr
  b0 : Blk wr w.heap.size 25 (wcs sl r)
  bs : Blk wr (w.heap.size + 1) 39 #[.int .i64 s.k, .int .i64 s.a, .int .i64 s.p, .int .i64 s.s, .int .i64 s.t]
theorem ObL.start (w : World) (sl : Int) (r : Raw) (s : Stp) : ObL w sl r s ((w.alloc (.cells (wcs sl r) 25)).alloc (.cells #[.int .i64 s.k, .int .i64 s.a, .int .i64 s.p, .int .i64 s.s, .int .i64 s.t] 39)) := by
  have e1 : Below w.heap.size w (w.alloc (.cells (wcs sl r) 25)) := (Below.refl _ _).alloc (Nat.le_refl _) _
  have b1 := Blk.new w 25 (wcs sl r)
  generalize hw1 : w.alloc (.cells (wcs sl r) 25) = w1 at *
  have s1 : w1.heap.size = w.heap.size + 1 := by rw [← hw1]; simp
  have e2 : Below w1.heap.size w1 (w1.alloc (.cells #[.int .i64 s.k, .int .i64 s.a, .int .i64 s.p, .int .i64 s.s, .int .i64 s.t] 39)) := (Below.refl _ _).alloc (Nat.le_refl _) _
  have b2 := Blk.new w1 39 #[.int .i64 s.k, .int .i64 s.a, .int .i64 s.p, .int .i64 s.s, .int .i64 s.t]
  rw [s1] at b2
  exact ⟨e1.trans (e2.mono (by omega)), b1.belowB e2, b2⟩
theorem ObL.next {w wr w' : World} {sl : Int} {r : Raw} {s : Stp} (h : ObL w sl r s wr) (hb : Below wr.heap.size wr w') : ObL w sl r s w' :=
  ⟨h.bel.trans (hb.mono h.bel.size), h.b0.belowB hb, h.bs.belowB hb⟩
theorem ObL.all {w wr : World} {sl : Int} {r : Raw} {s : Stp} (h : ObL w sl r s wr) : wr.cell? ⟨w.heap.size, 0, none⟩ = some (.int .i64 sl) ∧ wr.cell? ⟨w.heap.size, 1, none⟩ = some (.slice r.A1 r.n1 r.c1) ∧ wr.cell? ⟨w.heap.size, 2, none⟩ = some (.slice r.A2 r.n2 r.c2) ∧ wr.cell? ⟨w.heap.size, 3, none⟩ = some (.slice r.A3 r.n3 r.c3) :=
  ⟨h.b0.cell 0, h.b0.cell 1, h.b0.cell 2, h.b0.cell 3⟩
theorem ObL.stp {w wr : World} {sl : Int} {r : Raw} {s : Stp} (h : ObL w sl r s wr) : wr.cell? ⟨w.heap.size + 1, 0, none⟩ = some (.int .i64 s.k) ∧ wr.cell? ⟨w.heap.size + 1, 1, none⟩ = some (.int .i64 s.a) ∧ wr.cell? ⟨w.heap.size + 1, 2, none⟩ = some (.int .i64 s.p) ∧ wr.cell? ⟨w.heap.size + 1, 3, none⟩ = some (.int .i64 s.s) ∧ wr.cell? ⟨w.heap.size + 1, 4, none⟩ = some (.int .i64 s.t) :=
  ⟨h.bs.cell 0, h.bs.cell 1, h.bs.cell 2, h.bs.cell 3, h.bs.cell 4⟩
/-- lists of lists with an error -/
def LlPost (L : List (List Int)) (E : Int) (w : World) (e : Ending) (w' : World) : Prop := ∃ A n c rows, e = .returned (.tuple #[.slice A n c, .int .i64 E]) ∧ Od.ll rows = L ∧ n = rows.length ∧ n ≤ 9223372036854775807 ∧ Od.RowsAt w' w'.heap.size A rows ∧ Below w.heap.size w w'
theorem ll_th {f : Nat} {vs : Array Value} {d : Wd} {ss : List Stp} {w : World} (h : Calls Try.prog f vs w (ThPost d ss w)) : Calls Try.prog f vs w (LlPost (thR d ss) (thE d ss) w) :=
  h.mono fun e w' ⟨A, n, c, rows, h1, h2, h3, h4, h5, h6, _, h7⟩ => ⟨A, n, c, rows, h1, h2, h3, by unfold maxLen at h5; omega, h6, h7⟩
theorem ll_be {f : Nat} {vs : Array Value} {d : Wd} {ss : List Stp} {w : World} (h : Calls Try.prog f vs w (BePost d ss w)) : Calls Try.prog f vs w (LlPost (if thE d ss = 0 then befT (thL d ss) ss.length ss.length 0 else []) (thE d ss) w) :=
  h.mono fun e w' ⟨A, n, c, rows, h1, h2, h3, h4, h5, h6, _, h7⟩ => ⟨A, n, c, rows, h1, h2, h3, by unfold maxLen at h5; omega, h6, h7⟩
set_option maxHeartbeats 8000000 in
set_option maxRecDepth 20000 in
theorem orderBefore_core (d : Wd) (r : Raw) (ss : List Stp) (A : Option Addr) (n c : Nat) (s : Stp) (w : World) (hn : n = ss.length) (hm : n * 40 ≤ 140737488351232) (hc : n ≤ c) (h : WOk w r d) (hs : StepsAt w w.heap.size A ss) (hlo : ∀ x ∈ d.pl, -9223372036854775808 ≤ x) :
    Calls Try.prog 6 #[wv d.sl r, .slice A n c, sv s] w fun e w' => e = .returned (.bool true) ∧ Below w.heap.size w w' := by
  have HT1 := Lib.hid (fun W (hb : Below w.heap.size w W) => ll_th (things_any d r ss A n c W hn hm hc (h.next hb) (hs.next hb)))
  have HT2 := Lib.hid (fun W (hb : Below w.heap.size w W) => ll_th (thingsOf_any d r ss A n c W hn hm hc (h.next hb) (hs.next hb) hlo))
  have HT3 := Lib.hid (fun W (hb : Below w.heap.size w W) => ll_be (before_any d r ss A n c W hn hm hc (h.next hb) (hs.next hb)))
  have HT4 := Lib.hid (fun W (hb : Below w.heap.size w W) => ll_be (beforeOf_any d r ss A n c W hn hm hc (h.next hb) (hs.next hb) hlo))
  have HLO := Lib.hid (fun W => longS_any s W)
  have HOR := Lib.hid (fun W => Od.ordered_any W)
  have HSL := Lib.hid (fun (rs qs : List Row) (A B : Option Addr) (n c c' : Nat) W hn hq hm h h' he => sameLists_any rs qs A B n c c' W hn hq hm h h' he)
  have HS0 := Lib.hid (ObL.start w d.sl r s)
  have HLM := Lib.hid (fun W => long_map W (min (max s.t 0) 2000) s.k)
  have HLN : Hid (longN s = if s.k = 0 then 40 else if s.k = 1 then 10 else if s.k = 2 then 10 else if s.k = 3 then 20 else if s.k = 4 then min (max s.t 0) 2000 else 0) := Lib.hid rfl
  clear hn hm hc h hs hlo
  generalize (if thE d ss = 0 then befT (thL d ss) ss.length ss.length 0 else []) = L2 at *
  generalize thR d ss = L1 at *
  generalize thE d ss = E at *
  generalize longN s = lo at *
  obtain ⟨A1, n1, c1, A2, n2, c2, A3, n3, c3⟩ := r
  obtain ⟨k, a, p, q, t⟩ := s
  unfold wv wcs sv
  unfold LlPost wv wcs at HT1 HT2 HT3 HT4
  unfold sv at HLO
  dsimp only at HT1 HT2 HT3 HT4 HLO HLM HLN ⊢
  unfold wcs at HS0
  dsimp only at HS0
  go_enter Try.func6, Try.ntmps6
  go_upto_region 1 with (fail)
  generalize World.alloc (World.alloc w _) _ = w1 at *
  obtain ⟨k0, k1, k2, k3⟩ := HS0.out.all
  dsimp only at k0 k1 k2 k3
  go_wp2_with fail
  refine (HT1.out _ HS0.out.bel).mono ?_
  rintro e w2 ⟨B1, m1, e1, r1, rfl, hl1, hn1, hm1, ha1, hb1⟩
  have HS1 := Lib.hid (HS0.out.next hb1)
  have HA1 := Lib.hid ha1
  have HL1 := Lib.hid (And.intro hl1 (And.intro hn1 hm1))
  clear hl1 hn1 hm1 ha1 hb1 HS0 HT1 k0 k1 k2 k3
  obtain ⟨k0, k1, k2, k3⟩ := HS1.out.all
  dsimp only at k0 k1 k2 k3
  go_wp2_with fail
  refine (HT2.out _ HS1.out.bel).mono ?_
  rintro e w3 ⟨B2, m2, e2, r2, rfl, hl2, hn2, hm2, ha2, hb2⟩
  have HS2 := Lib.hid (HS1.out.next hb2)
  have HA1 := Lib.hid (HA1.out.next hb2)
  have HA2 := Lib.hid ha2
  have HL2 := Lib.hid (And.intro hl2 (And.intro hn2 hm2))
  clear hl2 hn2 hm2 ha2 hb2 HS1 HT2 k0 k1 k2 k3
  obtain ⟨k0, k1, k2, k3⟩ := HS2.out.all
  dsimp only at k0 k1 k2 k3
  go_wp2_with fail
  refine (HT3.out _ HS2.out.bel).mono ?_
  rintro e w4 ⟨B3, m3, e3, r3, rfl, hl3, hn3, hm3, ha3, hb3⟩
  have HS3 := Lib.hid (HS2.out.next hb3)
  have HA1 := Lib.hid (HA1.out.next hb3)
  have HA2 := Lib.hid (HA2.out.next hb3)
  have HA3 := Lib.hid ha3
  have HL3 := Lib.hid (And.intro hl3 (And.intro hn3 hm3))
  clear hl3 hn3 hm3 ha3 hb3 HS2 HT3 k0 k1 k2 k3
  obtain ⟨k0, k1, k2, k3⟩ := HS3.out.all
  dsimp only at k0 k1 k2 k3
  go_wp2_with fail
  refine (HT4.out _ HS3.out.bel).mono ?_
  rintro e w5 ⟨B4, m4, e4, r4, rfl, hl4, hn4, hm4, ha4, hb4⟩
  have HS4 := Lib.hid (HS3.out.next hb4)
  have HA1 := Lib.hid (HA1.out.next hb4)
  have HA2 := Lib.hid (HA2.out.next hb4)
  have HA3 := Lib.hid (HA3.out.next hb4)
  have HA4 := Lib.hid ha4
  have HL4 := Lib.hid (And.intro hl4 (And.intro hn4 hm4))
  clear hl4 hn4 hm4 ha4 hb4 HS3 HT4 k0 k1 k2 k3
  have e12 : m1 = m2 := by rw [HL1.out.2.1, HL2.out.2.1, ← Od.ll_len, ← Od.ll_len, HL1.out.1, HL2.out.1]
  have e34 : m3 = m4 := by rw [HL3.out.2.1, HL4.out.2.1, ← Od.ll_len, ← Od.ll_len, HL3.out.1, HL4.out.1]
  subst e12
  subst e34
  obtain ⟨x2, x3, x4, x5, x6, u2, u3, u4, u5, u6, ulk, ub5, ub6⟩ := HLM.out w5
  rw [← HLN.out] at ulk
  have HS5 := Lib.hid (HS4.out.next ub5)
  have HS6 := Lib.hid (HS4.out.next ub6)
  have HA1 := Lib.hid (HA1.out.next ub6)
  have HA2 := Lib.hid (HA2.out.next ub6)
  have HA3 := Lib.hid (HA3.out.next ub6)
  have HA4 := Lib.hid (HA4.out.next ub6)
  obtain ⟨_, _, _, _, t5⟩ := HS5.out.stp
  obtain ⟨t6, _, _, _, _⟩ := HS6.out.stp
  have hmm := @run_makeMap Try.prog
  clear ub5 ub6 HLM HLN HS4 HS5
  dsimp only at t5 t6
  go_wp2_with fail
  clear u2 u3 u4 u5 u6 ulk hmm t5 t6
  refine (HOR.out _).mono ?_
  rintro e y1 ⟨rfl, hb5⟩
  have HS7 := Lib.hid (HS6.out.next hb5)
  have HA1 := Lib.hid (HA1.out.next hb5)
  have HA2 := Lib.hid (HA2.out.next hb5)
  have HA3 := Lib.hid (HA3.out.next hb5)
  have HA4 := Lib.hid (HA4.out.next hb5)
  clear hb5 HS6
  go_wp2_with fail
  refine (HSL.out r1 r2 B1 B2 m1 e1 e2 _ HL1.out.2.1 HL2.out.2.1 HL1.out.2.2 HA1.out HA2.out (by rw [HL1.out.1, HL2.out.1])).mono ?_
  rintro e y2 ⟨rfl, hb5⟩
  have HS8 := Lib.hid (HS7.out.next hb5)
  have HA3 := Lib.hid (HA3.out.next hb5)
  have HA4 := Lib.hid (HA4.out.next hb5)
  clear hb5 HS7 HA1 HA2
  go_wp2_with fail
  refine (HSL.out r3 r4 B3 B4 m3 e3 e4 _ HL3.out.2.1 HL4.out.2.1 HL3.out.2.2 HA3.out HA4.out (by rw [HL3.out.1, HL4.out.1])).mono ?_
  rintro e y3 ⟨rfl, hb5⟩
  have HS9 := Lib.hid (HS8.out.next hb5)
  clear hb5 HS8 HA3 HA4
  obtain ⟨t0, t1, t2, t3, t4⟩ := HS9.out.stp
  dsimp only at t0 t1 t2 t3 t4
  go_wp2_with fail
  refine (HLO.out _).mono ?_
  rintro e y4 ⟨rfl, hb5⟩
  have HSZ := Lib.hid (HS9.out.next hb5).bel
  clear hb5 HS9 t0 t1 t2 t3 t4
  go_wp2_with fail
  go_ret
  exact ⟨rfl, HSZ.out⟩
set_option maxRecDepth 40000 in
theorem orderBefore_walk {H : Type} {enc : TypeId × Value → H} (W : World) (v0 v1 v2 : Value) {d0 d1 d2 : DataW H} {p0 p1 p2 : List MemPlace} {base : Nat}
    (h0 : DataW.Trod enc Try.prog W 0 (fun _ => true) true 25 v0 d0 p0) (h1 : DataW.Trod enc Try.prog W 0 (fun _ => true) true 26 v1 d1 p1) (h2 : DataW.Trod enc Try.prog W 0 (fun _ => true) true 39 v2 d2 p2)
    (o0 : Value.okWide Try.prog W .any base 25 v0) (o1 : Value.okWide Try.prog W .any base 26 v1) (o2 : Value.okWide Try.prog W .any base 39 v2)
    (w0 : Light Try.prog 25 d0) (w1 : Light Try.prog 26 d1) (w2 : Light Try.prog 39 d2) :
    Calls Try.prog 6 #[v0, v1, v2] W fun e W' => e = .returned (.bool true) ∧ Below W.heap.size W W' := by
  obtain ⟨d, r, rfl, hok, _, hpl, _⟩ := open_world h0 o0 w0
  obtain ⟨A, c, ss, rfl, hc, _, hb, hss⟩ := open_steps h1 o1 w1
  obtain ⟨s, rfl, _⟩ := open_step h2 o2
  exact orderBefore_core d r ss A ss.length c s W rfl (by omega) hc hok hss (fun x hx => (hpl x hx).1)
end Go.Proofs.Ytnaiflokmihmeaa
