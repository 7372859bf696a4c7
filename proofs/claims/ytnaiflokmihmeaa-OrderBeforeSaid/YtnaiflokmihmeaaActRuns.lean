/- The law ActRuns. -/
import Derived.Test.YtnaiflokmihmeaaMgK
namespace Go.Proofs.Ytnaiflokmihmeaa
open Go.RowKit Go.ChangeShapes Go.WideShapes Go.Deep
set_option linter.unusedVariables false
set_option linter.unusedSimpArgs false

/-- a world in a variable -/
structure W1S (w : World) (s : Int) (r : Raw) (wr : World) : Prop where
  bel : Below w.heap.size w wr
  one : Blk wr w.heap.size 25 (wcs s r)
section
variable {w wr w' : World} {s : Int} {r : Raw}
theorem W1S.start (w : World) (s : Int) (r : Raw) : W1S w s r (w.alloc (.cells (wcs s r) 25)) := ⟨(Below.refl w.heap.size w).alloc (Nat.le_refl _) _, Blk.new _ _ _⟩
theorem W1S.next (h : W1S w s r wr) (hb : Below wr.heap.size wr w') : W1S w s r w' := ⟨h.bel.trans (hb.mono h.bel.size), h.one.belowB hb⟩
theorem W1S.all (h : W1S w s r wr) : wr.cell? ⟨w.heap.size, 0, none⟩ = some (.int .i64 s) ∧ wr.cell? ⟨w.heap.size, 1, none⟩ = some (.slice r.A1 r.n1 r.c1) ∧ wr.cell? ⟨w.heap.size, 2, none⟩ = some (.slice r.A2 r.n2 r.c2) ∧ wr.cell? ⟨w.heap.size, 3, none⟩ = some (.slice r.A3 r.n3 r.c3) :=
  ⟨h.one.cell 0, h.one.cell 1, h.one.cell 2, h.one.cell 3⟩
end
theorem same_self (D : Wd) (r q : Raw) (w : World) (h : WOk w r D) (h' : WOk w q D) :
    Calls Try.prog 12 #[wv D.sl r, wv D.sl q] w fun x w' => x = .returned (.bool true) ∧ Below w.heap.size w w' := by
  have h9 := same_any D D r q w h h'
  rw [decide_eq_true (rfl : D = D)] at h9
  exact h9
set_option maxHeartbeats 2000000 in
set_option maxRecDepth 20000 in
theorem actRuns_core (d : Wd) (r : Raw) (ss : List Stp) (A : Option Addr) (n c : Nat) (w : World) (hn : n = ss.length) (hm : n * 40 ≤ 140737488351232) (hc : n ≤ c) (h : WOk w r d) (hs : StepsAt w w.heap.size A ss) (hlo : ∀ x ∈ d.pl, -9223372036854775808 ≤ x) :
    Calls Try.prog 3 #[wv d.sl r, .slice A n c] w fun e w' => e = .returned (.bool true) ∧ Below w.heap.size w w' := by
  have HRU := Lib.hid (fun W (hb : Below w.heap.size w W) => run_any d r ss A n c W hn hm hc (h.next hb) (hs.next hb))
  have HRO := Lib.hid (fun W (hb : Below w.heap.size w W) => runOf_any d r ss A n c W hn hm hc (h.next hb) (hs.next hb) hlo)
  have HAC := Lib.hid (fun W => acted_any W)
  have HSM := Lib.hid (fun (D : Wd) (r q : Raw) W (h1 : WOk W r D) (h2 : WOk W q D) => same_self D r q W h1 h2)
  have HS0 := Lib.hid (W1S.start w d.sl r)
  unfold RunPost at HRU HRO
  generalize runE d ss = R at *
  obtain ⟨D, j, ec⟩ := R
  clear h hs hn hlo
  obtain ⟨A1, n1, c1, A2, n2, c2, A3, n3, c3⟩ := r
  unfold wv wcs
  unfold wv wcs at HRU HRO HSM
  unfold wcs at HS0
  dsimp only at HRU HRO HSM HS0 ⊢
  go_enter Try.func3, Try.ntmps3
  go_wp2_with fail
  generalize World.alloc w _ = w1 at *
  obtain ⟨k0, k1, k2, k3⟩ := HS0.out.all
  dsimp only at k0 k1 k2 k3
  go_wp2_with fail
  refine (HRU.out _ HS0.out.bel).mono ?_
  rintro e w2 ⟨⟨B1, m1, e1, B2, m2, e2, B3, m3, e3⟩, rfl, ho2, hb2⟩
  have hbx : Below w2.heap.size w2 (w2.alloc (.cells #[.int .i64 D.sl, .slice B1 m1 e1, .slice B2 m2 e2, .slice B3 m3 e3] 25)) := (Below.refl _ _).alloc (Nat.le_refl _) _
  have HS3 := Lib.hid ((HS0.out.next hb2).next hbx)
  have HO3 := Lib.hid (ho2.next hbx)
  have HX3 := Lib.hid (Blk.new w2 25 #[.int .i64 D.sl, .slice B1 m1 e1, .slice B2 m2 e2, .slice B3 m3 e3])
  clear hbx hb2 ho2 k0 k1 k2 k3 HS0 HRU
  dsimp only
  go_upto_region 2 with (fail)
  generalize World.alloc w2 _ = w3 at *
  generalize w2.heap.size = pa at *
  obtain ⟨k0, k1, k2, k3⟩ := HS3.out.all
  dsimp only at k0 k1 k2 k3
  go_wp2_with fail
  refine (HRO.out _ HS3.out.bel).mono ?_
  rintro e w4 ⟨⟨C1, p1, f1, C2, p2, f2, C3, p3, f3⟩, rfl, ho4, hb4⟩
  have hbx : Below w4.heap.size w4 (w4.alloc (.cells #[.int .i64 D.sl, .slice C1 p1 f1, .slice C2 p2 f2, .slice C3 p3 f3] 25)) := (Below.refl _ _).alloc (Nat.le_refl _) _
  have HB5 := Lib.hid ((HS3.out.next hb4).next hbx).bel
  have HO5 := Lib.hid ((HO3.out.next hb4).next hbx)
  have HX5 := Lib.hid ((HX3.out.belowB hb4).belowB hbx)
  have HP5 := Lib.hid (ho4.next hbx)
  have HY5 := Lib.hid (Blk.new w4 25 #[.int .i64 D.sl, .slice C1 p1 f1, .slice C2 p2 f2, .slice C3 p3 f3])
  clear hbx hb4 ho4 k0 k1 k2 k3 HS3 HO3 HX3 HRO
  dsimp only
  go_upto_region 3 with (fail)
  generalize World.alloc w4 _ = w5 at *
  generalize w4.heap.size = pb at *
  go_wp2_with fail
  refine (HAC.out _).mono ?_
  rintro e w6 ⟨rfl, hb6⟩
  have HB6 := Lib.hid (HB5.out.trans (hb6.mono HB5.out.size))
  have HO6 := Lib.hid (HO5.out.next hb6)
  have HP6 := Lib.hid (HP5.out.next hb6)
  have HX6 := HX5.out.belowB hb6
  have HY6 := HY5.out.belowB hb6
  have k0 := HX6.cell 0
  have k1 := HX6.cell 1
  have k2 := HX6.cell 2
  have k3 := HX6.cell 3
  have g0 := HY6.cell 0
  have g1 := HY6.cell 1
  have g2 := HY6.cell 2
  have g3 := HY6.cell 3
  simp at k0 k1 k2 k3 g0 g1 g2 g3
  clear HX6 HY6 hb6 HB5 HO5 HP5 HX5 HY5
  have HQ := Lib.hid (HSM.out D _ _ w6 HO6.out HP6.out)
  dsimp only at HQ
  go_wp2_with fail
  refine HQ.out.mono ?_
  rintro e w7 ⟨rfl, hb7⟩
  have HB7 := Lib.hid (HB6.out.trans (hb7.mono HB6.out.size))
  clear hb7
  go_wp2_with fail
  go_ret
  exact ⟨rfl, HB7.out⟩
set_option maxRecDepth 40000 in
theorem actRuns_walk {H : Type} {enc : TypeId × Value → H} (W : World) (v0 v1 : Value) {d0 d1 : DataW H} {p0 p1 : List MemPlace} {base : Nat}
    (h0 : DataW.Trod enc Try.prog W 0 (fun _ => true) true 25 v0 d0 p0) (h1 : DataW.Trod enc Try.prog W 0 (fun _ => true) true 26 v1 d1 p1)
    (o0 : Value.okWide Try.prog W .any base 25 v0) (o1 : Value.okWide Try.prog W .any base 26 v1)
    (w0 : Light Try.prog 25 d0) (w1 : Light Try.prog 26 d1) :
    Calls Try.prog 3 #[v0, v1] W fun e W' => e = .returned (.bool true) ∧ Below W.heap.size W W' := by
  obtain ⟨d, r, rfl, hok, _, hpl, _⟩ := open_world h0 o0 w0
  obtain ⟨A, c, ss, rfl, hlc, hc, hm, hss⟩ := open_steps h1 o1 w1
  exact actRuns_core d r ss A _ c W rfl hm hlc hok hss (fun x hx => (hpl x hx).1)
end Go.Proofs.Ytnaiflokmihmeaa
