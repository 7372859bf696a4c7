/- The law ActSteps. -/
import Derived.Test.YtnaiflokmihmeaaAsL
import Derived.Test.YtnaiflokmihmeaaActRuns
import Derived.Test.YtnaiflokmihmeaaActH
import Derived.Test.YtnaiflokmihmeaaMgD
namespace Go.Proofs.Ytnaiflokmihmeaa
open Go.RowKit Go.ChangeShapes Go.WideShapes Go.Deep
set_option linter.unusedVariables false
set_option linter.unusedSimpArgs false

set_option maxHeartbeats 1000000 in
theorem equalT_any (xs : List Stp) (A B : Option Addr) (n c d : Nat) (w : World) (hn : n = xs.length) (hx : n ≤ 9223372036854775807) (h : StepsAt w w.heap.size A xs) (h' : StepsAt w w.heap.size B xs) :
    Calls Try.prog 60 #[.slice A n c, .slice B n d] w fun e w' => e = .returned (.bool true) ∧ Below w.heap.size w w' := by
  have HN := Lib.hid hn; clear hn
  have H := Lib.hid h; clear h
  have H' := Lib.hid h'; clear h'
  go_enter Try.func60, Try.ntmps60
  go_wp2_with fail
  go_loopg [13] n (fun k i wr => ∃ j : Nat, k = n - j ∧ j ≤ n ∧ i = .int .i64 j ∧ Hid (Below w.heap.size w wr))
  case atStart => exact ⟨0, by omega, Nat.zero_le _, rfl, Below.refl _ _⟩
  case round =>
    obtain ⟨j, hgk, hj, rfl, hbel⟩ := hrel
    have HGK := Lib.hid hgk; clear hgk
    by_cases hlt : j < n
    · obtain ⟨u, hu⟩ := get_of_lt HN.out hlt
      obtain ⟨b, off, rfl, hb, h0, h1, h2, h3, h4⟩ := H.out.five hu
      obtain ⟨b', off', rfl, hb', h0', h1', h2', h3', h4'⟩ := H'.out.five hu
      clear hu
      have g0 := (hbel.out.cell (p := ⟨b, off + j*5, none⟩) hb).trans h0
      have g1 := (hbel.out.cell (p := ⟨b, off + j*5+1, none⟩) hb).trans h1
      have g2 := (hbel.out.cell (p := ⟨b, off + j*5+2, none⟩) hb).trans h2
      have g3 := (hbel.out.cell (p := ⟨b, off + j*5+3, none⟩) hb).trans h3
      have g4 := (hbel.out.cell (p := ⟨b, off + j*5+4, none⟩) hb).trans h4
      have g0' := (hbel.out.cell (p := ⟨b', off' + j*5, none⟩) hb').trans h0'
      have g1' := (hbel.out.cell (p := ⟨b', off' + j*5+1, none⟩) hb').trans h1'
      have g2' := (hbel.out.cell (p := ⟨b', off' + j*5+2, none⟩) hb').trans h2'
      have g3' := (hbel.out.cell (p := ⟨b', off' + j*5+3, none⟩) hb').trans h3'
      have g4' := (hbel.out.cell (p := ⟨b', off' + j*5+4, none⟩) hb').trans h4'
      clear h0 h1 h2 h3 h4 h0' h1' h2' h3' h4'
      have i1 : (0 : Int) ≤ (j : Int) := by omega
      have i2 : (j : Int) < (n : Int) := by omega
      go_wp2_with fail
      go_quiet (fail)
      go_wp2_with fail
      go_roundg (n - (j + 1))
      case measure => rw [HGK.out]; omega
      case rel => exact ⟨j+1, rfl, by omega, by go_num, below_drewN hbel.out _⟩
    · go_wp2_with fail
      go_ret
      exact ⟨rfl, hbel.out⟩
theorem eqE_same (x y : Operand) (p : Int) (w : World) : ((do eqGuard .eql 27 x y (.int .i64 p) (.int .i64 p); binOp .eql 27 (.int .i64 p) (.int .i64 p) : Sem Value)).run Try.prog w = .ok (.bool true) w := by
  go_simp
theorem eqI_same (x y : Operand) (p : Int) (w : World) : ((do eqGuard .eql 3 x y (.int .i64 p) (.int .i64 p); binOp .eql 3 (.int .i64 p) (.int .i64 p) : Sem Value)).run Try.prog w = .ok (.bool true) w := by
  go_simp
def isSs (d : Wd) : Told := fun u w => ∃ l A c, u = .slice A (List.length l) c ∧ l.length ≤ c ∧ c ≤ maxLen ∧ StepsAt w w.heap.size A l ∧ AscS l ∧ (∀ s, s ∈ l ↔ wErr d = 0 ∧ gaS d.sp.length d.pl.length d.sl.toNat 4 0 0 0 s ∧ canE d s = 0)
theorem isSs_st {d : Wd} (v : Value) (w w' : World) (h : isSs d v w) (hb : Below w.heap.size w w') : isSs d v w' := by
  obtain ⟨l, A, c, e, h1, h2, h3, h4⟩ := h
  exact ⟨l, A, c, e, h1, h2, h3.next hb, h4⟩
theorem ss_told {f : Nat} {vs : Array Value} {d : Wd} {w : World} (h : Calls Try.prog f vs w (SsPost d w)) : Calls Try.prog f vs w fun e w' => ∃ v, e = .returned v ∧ isSs d v w' ∧ Below w.heap.size w w' :=
  h.mono fun e w' ⟨l, A, c, e1, h1, h2, h3, h4, h5, h6⟩ => ⟨_, e1, ⟨l, A, c, rfl, h1, h2, h3, h4, h5⟩, h6⟩
theorem isSs_eq {d : Wd} {l m : List Stp} (h1 : AscS l) (h2 : ∀ s, s ∈ l ↔ wErr d = 0 ∧ gaS d.sp.length d.pl.length d.sl.toNat 4 0 0 0 s ∧ canE d s = 0) (h3 : AscS m) (h4 : ∀ s, s ∈ m ↔ wErr d = 0 ∧ gaS d.sp.length d.pl.length d.sl.toNat 4 0 0 0 s ∧ canE d s = 0) : l = m :=
  ascS_ext h1 h3 (fun s => (h2 s).trans (h4 s).symm)
/-- the law's variables: the world, two steps -/
structure SL (w : World) (sl : Int) (r : Raw) (s t : Stp) (wr : World) : Prop where
  bel : Below w.heap.size w wr
  b0 : Blk wr w.heap.size 25 (wcs sl r)
  bs : Blk wr (w.heap.size + 1) 39 #[.int .i64 s.k, .int .i64 s.a, .int .i64 s.p, .int .i64 s.s, .int .i64 s.t]
  bt : Blk wr (w.heap.size + 2) 39 #[.int .i64 t.k, .int .i64 t.a, .int .i64 t.p, .int .i64 t.s, .int .i64 t.t]
theorem SL.start (w : World) (sl : Int) (r : Raw) (s t : Stp) : SL w sl r s t (((w.alloc (.cells (wcs sl r) 25)).alloc (.cells #[.int .i64 s.k, .int .i64 s.a, .int .i64 s.p, .int .i64 s.s, .int .i64 s.t] 39)).alloc (.cells #[.int .i64 t.k, .int .i64 t.a, .int .i64 t.p, .int .i64 t.s, .int .i64 t.t] 39)) := by
  have e1 : Below w.heap.size w (w.alloc (.cells (wcs sl r) 25)) := (Below.refl _ _).alloc (Nat.le_refl _) _
  have b1 := Blk.new w 25 (wcs sl r)
  generalize hw1 : w.alloc (.cells (wcs sl r) 25) = w1 at *
  have s1 : w1.heap.size = w.heap.size + 1 := by rw [← hw1]; simp
  have e2 : Below w1.heap.size w1 (w1.alloc (.cells #[.int .i64 s.k, .int .i64 s.a, .int .i64 s.p, .int .i64 s.s, .int .i64 s.t] 39)) := (Below.refl _ _).alloc (Nat.le_refl _) _
  have b2 := Blk.new w1 39 #[.int .i64 s.k, .int .i64 s.a, .int .i64 s.p, .int .i64 s.s, .int .i64 s.t]
  generalize hw2 : w1.alloc (.cells #[.int .i64 s.k, .int .i64 s.a, .int .i64 s.p, .int .i64 s.s, .int .i64 s.t] 39) = w2 at *
  have s2 : w2.heap.size = w.heap.size + 2 := by rw [← hw2]; simp [s1]
  have e3 : Below w2.heap.size w2 (w2.alloc (.cells #[.int .i64 t.k, .int .i64 t.a, .int .i64 t.p, .int .i64 t.s, .int .i64 t.t] 39)) := (Below.refl _ _).alloc (Nat.le_refl _) _
  have b3 := Blk.new w2 39 #[.int .i64 t.k, .int .i64 t.a, .int .i64 t.p, .int .i64 t.s, .int .i64 t.t]
  rw [s1] at b2
  rw [s2] at b3
  exact ⟨(e1.trans (e2.mono (by omega))).trans (e3.mono (by omega)), (b1.belowB e2).belowB e3, b2.belowB e3, b3⟩
theorem SL.next {w wr w' : World} {sl : Int} {r : Raw} {s t : Stp} (h : SL w sl r s t wr) (hb : Below wr.heap.size wr w') : SL w sl r s t w' :=
  ⟨h.bel.trans (hb.mono h.bel.size), h.b0.belowB hb, h.bs.belowB hb, h.bt.belowB hb⟩
/-- a world in a box -/
def BxW (p : Nat) (D : Wd) (r : Raw) (wr : World) : Prop := Blk wr p 25 (wcs D.sl r) ∧ WOk wr r D
theorem BxW.next {p : Nat} {D : Wd} {r : Raw} {wr w' : World} (h : BxW p D r wr) (hb : Below wr.heap.size wr w') : BxW p D r w' := ⟨h.1.belowB hb, h.2.next hb⟩
/-- .. and the two worlds that came out -/
structure SM (w : World) (sl : Int) (r : Raw) (s t : Stp) (pa pb : Nat) (D : Wd) (ra rb : Raw) (wr : World) : Prop where
  l : SL w sl r s t wr
  a : BxW pa D ra wr
  b : BxW pb D rb wr
theorem SM.next {w wr w' : World} {sl : Int} {r ra rb : Raw} {s t : Stp} {pa pb : Nat} {D : Wd} (h : SM w sl r s t pa pb D ra rb wr) (hb : Below wr.heap.size wr w') : SM w sl r s t pa pb D ra rb w' := ⟨h.l.next hb, h.a.next hb, h.b.next hb⟩
set_option maxHeartbeats 20000000 in
set_option maxRecDepth 20000 in
theorem actSteps_less (d : Wd) (r : Raw) (s t : Stp) (w : World) (h : WOk w r d) (hlo : ∀ x ∈ d.pl, -9223372036854775808 ≤ x) (hz1 : decide (scmp s t < 0) = true) (hz2 : decide (scmp t s < 0) = false) (hc : scmp s t = -1) :
    Calls Try.prog 8 #[wv d.sl r, sv s, sv t] w fun e w' => e = .returned (.bool true) ∧ Below w.heap.size w w' := by
  have HL1 := Lib.hid (fun W => sless_any s t W)
  have HL2 := Lib.hid (fun W => sless_any t s W)
  have HCM := Lib.hid (fun W => scmp_any s t W)
  have HDO := Lib.hid (fun W (hb : Below w.heap.size w W) => do_any d r s W (h.next hb))
  have HDS := Lib.hid (fun W (hb : Below w.heap.size w W) => stepOf_any d r s W (h.next hb) hlo)
  have HAC := Lib.hid (fun W => acted_any W)
  have HFO := Lib.hid (fun W => form_any s W)
  have HFI := Lib.hid (fun W => formis_any s W)
  have HCA := Lib.hid (fun W (hb : Below w.heap.size w W) => can_any d r s W (h.next hb))
  have HSM := Lib.hid (fun (D : Wd) (r q : Raw) W (h1 : WOk W r D) (h2 : WOk W q D) => same_self D r q W h1 h2)
  have HST := Lib.hid (fun W (hb : Below w.heap.size w W) => steps_any d r W (h.next hb))
  have HSO := Lib.hid (fun W (hb : Below w.heap.size w W) => stepsOf_any d r W (h.next hb) hlo)
  have HS0 := Lib.hid (SL.start w d.sl r s t)
  rw [hz1] at HL1
  rw [hz2] at HL2
  rw [hc] at HCM
  clear h hlo hz1 hz2 hc
  unfold DoPost at HDO HDS
  generalize canE d s = ce at *
  generalize formB s = fz at *
  generalize doN d s = D at *
  obtain ⟨A1, n1, c1, A2, n2, c2, A3, n3, c3⟩ := r
  obtain ⟨k, a0, q, s0, t0⟩ := s
  obtain ⟨k2, a2, q2, s2, t2⟩ := t
  unfold wv wcs sv
  unfold sv at HL1 HL2 HCM HFO HFI
  unfold wv wcs at HSM HST HSO
  unfold wv wcs sv at HDO HDS HCA
  unfold wcs at HS0
  dsimp only at HL1 HL2 HCM HDO HDS HFO HFI HCA HSM HST HSO HS0 ⊢
  generalize d.sl = sl at *
  go_enter Try.func8, Try.ntmps8
  go_upto_region 1 with (fail)
  generalize World.alloc (World.alloc (World.alloc w _) _) _ = w1 at *
  have HSA := HS0
  clear HS0
  have k0_ := HSA.out.b0.cell 0
  have k1_ := HSA.out.b0.cell 1
  have k2_ := HSA.out.b0.cell 2
  have k3_ := HSA.out.b0.cell 3
  have g0_ := HSA.out.bs.cell 0
  have g1_ := HSA.out.bs.cell 1
  have g2_ := HSA.out.bs.cell 2
  have g3_ := HSA.out.bs.cell 3
  have g4_ := HSA.out.bs.cell 4
  have h0_ := HSA.out.bt.cell 0
  have h1_ := HSA.out.bt.cell 1
  have h2_ := HSA.out.bt.cell 2
  have h3_ := HSA.out.bt.cell 3
  have h4_ := HSA.out.bt.cell 4
  simp [wcs] at k0_ k1_ k2_ k3_ g0_ g1_ g2_ g3_ g4_ h0_ h1_ h2_ h3_ h4_
  go_wp2_with fail
  refine (HL1.out _).mono ?_
  rintro e w2 ⟨rfl, hb2⟩
  have HSB := Lib.hid (HSA.out.next hb2)
  clear k0_ k1_ k2_ k3_ g0_ g1_ g2_ g3_ g4_ h0_ h1_ h2_ h3_ h4_
  clear hb2 HSA
  have k0_ := HSB.out.b0.cell 0
  have k1_ := HSB.out.b0.cell 1
  have k2_ := HSB.out.b0.cell 2
  have k3_ := HSB.out.b0.cell 3
  have g0_ := HSB.out.bs.cell 0
  have g1_ := HSB.out.bs.cell 1
  have g2_ := HSB.out.bs.cell 2
  have g3_ := HSB.out.bs.cell 3
  have g4_ := HSB.out.bs.cell 4
  have h0_ := HSB.out.bt.cell 0
  have h1_ := HSB.out.bt.cell 1
  have h2_ := HSB.out.bt.cell 2
  have h3_ := HSB.out.bt.cell 3
  have h4_ := HSB.out.bt.cell 4
  simp [wcs] at k0_ k1_ k2_ k3_ g0_ g1_ g2_ g3_ g4_ h0_ h1_ h2_ h3_ h4_
  go_wp2_with fail
  refine (HL2.out _).mono ?_
  rintro e w3 ⟨rfl, hb3⟩
  have HSC := Lib.hid (HSB.out.next hb3)
  clear k0_ k1_ k2_ k3_ g0_ g1_ g2_ g3_ g4_ h0_ h1_ h2_ h3_ h4_
  clear hb3 HSB
  have k0_ := HSC.out.b0.cell 0
  have k1_ := HSC.out.b0.cell 1
  have k2_ := HSC.out.b0.cell 2
  have k3_ := HSC.out.b0.cell 3
  have g0_ := HSC.out.bs.cell 0
  have g1_ := HSC.out.bs.cell 1
  have g2_ := HSC.out.bs.cell 2
  have g3_ := HSC.out.bs.cell 3
  have g4_ := HSC.out.bs.cell 4
  have h0_ := HSC.out.bt.cell 0
  have h1_ := HSC.out.bt.cell 1
  have h2_ := HSC.out.bt.cell 2
  have h3_ := HSC.out.bt.cell 3
  have h4_ := HSC.out.bt.cell 4
  simp [wcs] at k0_ k1_ k2_ k3_ g0_ g1_ g2_ g3_ g4_ h0_ h1_ h2_ h3_ h4_
  go_wp2_with fail
  refine (HDO.out _ HSC.out.bel).mono ?_
  rintro e w4 ⟨⟨B1, m1, e1, B2, m2, e2, B3, m3, e3⟩, rfl, ⟨ho4, _⟩, hb4⟩
  have hbx : Below w4.heap.size w4 (w4.alloc (.cells #[.int .i64 D.sl, .slice B1 m1 e1, .slice B2 m2 e2, .slice B3 m3 e3] 25)) := (Below.refl _ _).alloc (Nat.le_refl _) _
  have HSD := Lib.hid ((HSC.out.next hb4).next hbx)
  have HAD : Hid (BxW w4.heap.size D ⟨B1, m1, e1, B2, m2, e2, B3, m3, e3⟩ (w4.alloc (.cells #[.int .i64 D.sl, .slice B1 m1 e1, .slice B2 m2 e2, .slice B3 m3 e3] 25))) := Lib.hid ⟨Blk.new w4 _ _, ho4.next hbx⟩
  clear k0_ k1_ k2_ k3_ g0_ g1_ g2_ g3_ g4_ h0_ h1_ h2_ h3_ h4_
  clear hbx hb4 ho4 HSC HDO
  dsimp only
  go_upto_region 7 with (fail)
  generalize World.alloc w4 _ = w5 at *
  generalize w4.heap.size = pa at *
  have k0_ := HSD.out.b0.cell 0
  have k1_ := HSD.out.b0.cell 1
  have k2_ := HSD.out.b0.cell 2
  have k3_ := HSD.out.b0.cell 3
  have g0_ := HSD.out.bs.cell 0
  have g1_ := HSD.out.bs.cell 1
  have g2_ := HSD.out.bs.cell 2
  have g3_ := HSD.out.bs.cell 3
  have g4_ := HSD.out.bs.cell 4
  have h0_ := HSD.out.bt.cell 0
  have h1_ := HSD.out.bt.cell 1
  have h2_ := HSD.out.bt.cell 2
  have h3_ := HSD.out.bt.cell 3
  have h4_ := HSD.out.bt.cell 4
  simp [wcs] at k0_ k1_ k2_ k3_ g0_ g1_ g2_ g3_ g4_ h0_ h1_ h2_ h3_ h4_
  go_wp2_with fail
  refine (HDS.out _ HSD.out.bel).mono ?_
  rintro e w6 ⟨⟨D1, l1, f1, D2, l2, f2, D3, l3, f3⟩, rfl, ⟨ho6, _⟩, hb6⟩
  have hbx : Below w6.heap.size w6 (w6.alloc (.cells #[.int .i64 D.sl, .slice D1 l1 f1, .slice D2 l2 f2, .slice D3 l3 f3] 25)) := (Below.refl _ _).alloc (Nat.le_refl _) _
  have HX5 : Hid (SM w sl ⟨A1, n1, c1, A2, n2, c2, A3, n3, c3⟩ ⟨k, a0, q, s0, t0⟩ ⟨k2, a2, q2, s2, t2⟩ pa w6.heap.size D ⟨B1, m1, e1, B2, m2, e2, B3, m3, e3⟩ ⟨D1, l1, f1, D2, l2, f2, D3, l3, f3⟩ (w6.alloc (.cells #[.int .i64 D.sl, .slice D1 l1 f1, .slice D2 l2 f2, .slice D3 l3 f3] 25))) := Lib.hid ⟨(HSD.out.next hb6).next hbx, (HAD.out.next hb6).next hbx, Blk.new w6 _ _, ho6.next hbx⟩
  clear k0_ k1_ k2_ k3_ g0_ g1_ g2_ g3_ g4_ h0_ h1_ h2_ h3_ h4_
  clear hbx hb6 ho6 HSD HAD HDS
  dsimp only
  go_upto_region 8 with (fail)
  generalize World.alloc w6 _ = w7 at *
  generalize w6.heap.size = pb at *
  refine wp_inv (S := (SM w sl ⟨A1, n1, c1, A2, n2, c2, A3, n3, c3⟩ ⟨k, a0, q, s0, t0⟩ ⟨k2, a2, q2, s2, t2⟩ pa pb D ⟨B1, m1, e1, B2, m2, e2, B3, m3, e3⟩ ⟨D1, l1, f1, D2, l2, f2, D3, l3, f3⟩)) (isV (.bool true) :: isV (.bool true) :: isV (.agg #[.int .i64 k, .int .i64 a0, .int .i64 q, .int .i64 s0, .int .i64 t0]) :: isV (.agg #[.int .i64 k2, .int .i64 a2, .int .i64 q2, .int .i64 s2, .int .i64 t2]) :: isV (.int .i64 (-1)) :: isV (.int .i64 (-1)) :: isV (.bool true) :: isV (.bool true) :: isV (.bool true) :: isV (.agg #[.int .i64 k, .int .i64 a0, .int .i64 q, .int .i64 s0, .int .i64 t0]) :: isV (.bool fz) :: isV (.agg #[.int .i64 k, .int .i64 a0, .int .i64 q, .int .i64 s0, .int .i64 t0]) :: isV (.bool fz) :: isV (.bool true) :: isV (.bool true) :: isV (.bool true) :: isV (.int .i64 ce) :: isV (.int .i64 ce) :: isV (.bool true) :: isV (.bool true) :: isV (.bool true) :: isV (.agg #[.int .i64 sl, .slice A1 n1 c1, .slice A2 n2 c2, .slice A3 n3 c3]) :: isV (.agg #[.int .i64 k, .int .i64 a0, .int .i64 q, .int .i64 s0, .int .i64 t0]) :: isV (.int .i64 ce) :: isV (.int .i64 ce) :: isV (.bool true) :: isV (.bool true) :: isV (.bool true) :: isV (.agg #[.int .i64 D.sl, .slice B1 m1 e1, .slice B2 m2 e2, .slice B3 m3 e3]) :: isV (.agg #[.int .i64 D.sl, .slice D1 l1 f1, .slice D2 l2 f2, .slice D3 l3 f3]) :: isV (.bool true) :: isV (.bool true) :: isV (.bool true) :: isV (.agg #[.int .i64 sl, .slice A1 n1 c1, .slice A2 n2 c2, .slice A3 n3 c3]) :: isSs d :: isV (.agg #[.int .i64 sl, .slice A1 n1 c1, .slice A2 n2 c2, .slice A3 n3 c3]) :: isSs d :: isV (.bool true) :: isV (.bool true) :: isV (.bool true) :: []) (by kernel_rfl) (by kernel_rfl) (fun _ _ h9 hb9 => h9.next hb9) HX5.out ?plan ?fin
  case plan =>
    refine PlanI.cons (OpI.mkV fun a wx hs hf hp => ?_) ?_
    · exact StepI.callV rfl (wants_none rfl) rfl (by kernel_rfl) (HAC.out wx)
    refine PlanI.cons (OpI.mkV fun a wx hs hf hp => ?_) ?_
    · exact StepI.mov rfl (wants_none rfl) (hp 0 30 (by kernel_rfl) rfl)
    refine PlanI.cons (OpI.mkV fun a wx hs hf hp => ?_) ?_
    · exact StepI.load rfl (wants_at rfl rfl (hp 1 31 (by kernel_rfl) rfl) (r := true) rfl) (hf.keep 4 (by kernel_rfl)) (run_load_blk hs.l.bs (n := 5) rfl (by kernel_rfl)) rfl
    refine PlanI.cons (OpI.mkV fun a wx hs hf hp => ?_) ?_
    · exact StepI.load rfl (wants_at rfl rfl (hp 1 31 (by kernel_rfl) rfl) (r := true) rfl) (hf.keep 5 (by kernel_rfl)) (run_load_blk hs.l.bt (n := 5) rfl (by kernel_rfl)) rfl
    refine PlanI.cons (OpI.mkV fun a wx hs hf hp => ?_) ?_
    · exact StepI.callV rfl (wants_at rfl rfl (hp 1 31 (by kernel_rfl) rfl) (r := true) rfl) (args2 (hp 2 32 (by kernel_rfl) rfl) (hp 3 33 (by kernel_rfl) rfl)) (by kernel_rfl) (HCM.out wx)
    refine PlanI.cons (OpI.mkV fun a wx hs hf hp => ?_) ?_
    · exact StepI.mov rfl (wants_at rfl rfl (hp 1 31 (by kernel_rfl) rfl) (r := true) rfl) (hf.keep 7 (by kernel_rfl))
    refine PlanI.cons (OpI.mkV fun a wx hs hf hp => ?_) ?_
    · exact StepI.bin rfl (wants_at rfl rfl (hp 1 31 (by kernel_rfl) rfl) (r := true) rfl) (hp 4 34 (by kernel_rfl) rfl) (hp 5 35 (by kernel_rfl) rfl) (eqI_same _ _ _ wx) rfl
    refine PlanI.cons (OpI.mkV fun a wx hs hf hp => ?_) ?_
    · exact StepI.pick (b := true) rfl (wants_none rfl) (hp 1 31 (by kernel_rfl) rfl) (hp 6 36 (by kernel_rfl) rfl)
    refine PlanI.cons (OpI.mkV fun a wx hs hf hp => ?_) ?_
    · exact StepI.mov rfl (wants_none rfl) (hp 7 37 (by kernel_rfl) rfl)
    refine PlanI.cons (OpI.mkV fun a wx hs hf hp => ?_) ?_
    · exact StepI.load rfl (wants_at rfl rfl (hp 8 38 (by kernel_rfl) rfl) (r := true) rfl) (hf.keep 4 (by kernel_rfl)) (run_load_blk hs.l.bs (n := 5) rfl (by kernel_rfl)) rfl
    refine PlanI.cons (OpI.mkV fun a wx hs hf hp => ?_) ?_
    · exact StepI.callV rfl (wants_at rfl rfl (hp 8 38 (by kernel_rfl) rfl) (r := true) rfl) (args1 (hp 9 39 (by kernel_rfl) rfl)) (by kernel_rfl) (HFO.out wx)
    refine PlanI.cons (OpI.mkV fun a wx hs hf hp => ?_) ?_
    · exact StepI.load rfl (wants_at rfl rfl (hp 8 38 (by kernel_rfl) rfl) (r := true) rfl) (hf.keep 4 (by kernel_rfl)) (run_load_blk hs.l.bs (n := 5) rfl (by kernel_rfl)) rfl
    refine PlanI.cons (OpI.mkV fun a wx hs hf hp => ?_) ?_
    · exact StepI.callV rfl (wants_at rfl rfl (hp 8 38 (by kernel_rfl) rfl) (r := true) rfl) (args1 (hp 11 41 (by kernel_rfl) rfl)) (by kernel_rfl) (HFI.out wx)
    refine PlanI.cons (OpI.mkV fun a wx hs hf hp => ?_) ?_
    · exact StepI.bin rfl (wants_at rfl rfl (hp 8 38 (by kernel_rfl) rfl) (r := true) rfl) (hp 10 40 (by kernel_rfl) rfl) (hp 12 42 (by kernel_rfl) rfl) (eqB_same _ _ _ wx) rfl
    refine PlanI.cons (OpI.mkV fun a wx hs hf hp => ?_) ?_
    · exact StepI.pick (b := true) rfl (wants_none rfl) (hp 8 38 (by kernel_rfl) rfl) (hp 13 43 (by kernel_rfl) rfl)
    refine PlanI.cons (OpI.mkV fun a wx hs hf hp => ?_) ?_
    · exact StepI.mov rfl (wants_none rfl) (hp 14 44 (by kernel_rfl) rfl)
    refine PlanI.cons (OpI.mkV fun a wx hs hf hp => ?_) ?_
    · exact StepI.mov rfl (wants_at rfl rfl (hp 15 45 (by kernel_rfl) rfl) (r := true) rfl) (hf.keep 9 (by kernel_rfl))
    refine PlanI.cons (OpI.mkV fun a wx hs hf hp => ?_) ?_
    · exact StepI.mov rfl (wants_at rfl rfl (hp 15 45 (by kernel_rfl) rfl) (r := true) rfl) (hf.keep 11 (by kernel_rfl))
    refine PlanI.cons (OpI.mkV fun a wx hs hf hp => ?_) ?_
    · exact StepI.bin rfl (wants_at rfl rfl (hp 15 45 (by kernel_rfl) rfl) (r := true) rfl) (hp 16 46 (by kernel_rfl) rfl) (hp 17 47 (by kernel_rfl) rfl) (eqE_same _ _ _ wx) rfl
    refine PlanI.cons (OpI.mkV fun a wx hs hf hp => ?_) ?_
    · exact StepI.pick (b := true) rfl (wants_none rfl) (hp 15 45 (by kernel_rfl) rfl) (hp 18 48 (by kernel_rfl) rfl)
    refine PlanI.cons (OpI.mkV fun a wx hs hf hp => ?_) ?_
    · exact StepI.mov rfl (wants_none rfl) (hp 19 49 (by kernel_rfl) rfl)
    refine PlanI.cons (OpI.mkV fun a wx hs hf hp => ?_) ?_
    · exact StepI.load rfl (wants_at rfl rfl (hp 20 50 (by kernel_rfl) rfl) (r := true) rfl) (hf.keep 3 (by kernel_rfl)) (run_load_blk hs.l.b0 (n := 4) rfl (by kernel_rfl)) rfl
    refine PlanI.cons (OpI.mkV fun a wx hs hf hp => ?_) ?_
    · exact StepI.load rfl (wants_at rfl rfl (hp 20 50 (by kernel_rfl) rfl) (r := true) rfl) (hf.keep 4 (by kernel_rfl)) (run_load_blk hs.l.bs (n := 5) rfl (by kernel_rfl)) rfl
    refine PlanI.cons (OpI.mkV fun a wx hs hf hp => ?_) ?_
    · exact StepI.callV rfl (wants_at rfl rfl (hp 20 50 (by kernel_rfl) rfl) (r := true) rfl) (args2 (hp 21 51 (by kernel_rfl) rfl) (hp 22 52 (by kernel_rfl) rfl)) (by kernel_rfl) (HCA.out wx hs.l.bel)
    refine PlanI.cons (OpI.mkV fun a wx hs hf hp => ?_) ?_
    · exact StepI.mov rfl (wants_at rfl rfl (hp 20 50 (by kernel_rfl) rfl) (r := true) rfl) (hf.keep 11 (by kernel_rfl))
    refine PlanI.cons (OpI.mkV fun a wx hs hf hp => ?_) ?_
    · exact StepI.bin rfl (wants_at rfl rfl (hp 20 50 (by kernel_rfl) rfl) (r := true) rfl) (hp 23 53 (by kernel_rfl) rfl) (hp 24 54 (by kernel_rfl) rfl) (eqE_same _ _ _ wx) rfl
    refine PlanI.cons (OpI.mkV fun a wx hs hf hp => ?_) ?_
    · exact StepI.pick (b := true) rfl (wants_none rfl) (hp 20 50 (by kernel_rfl) rfl) (hp 25 55 (by kernel_rfl) rfl)
    refine PlanI.cons (OpI.mkV fun a wx hs hf hp => ?_) ?_
    · exact StepI.mov rfl (wants_none rfl) (hp 26 56 (by kernel_rfl) rfl)
    refine PlanI.cons (OpI.mkV fun a wx hs hf hp => ?_) ?_
    · exact StepI.load rfl (wants_at rfl rfl (hp 27 57 (by kernel_rfl) rfl) (r := true) rfl) (hf.keep 8 (by kernel_rfl)) (run_load_blk hs.a.1 (n := 4) rfl (by kernel_rfl)) rfl
    refine PlanI.cons (OpI.mkV fun a wx hs hf hp => ?_) ?_
    · exact StepI.load rfl (wants_at rfl rfl (hp 27 57 (by kernel_rfl) rfl) (r := true) rfl) (hf.keep 10 (by kernel_rfl)) (run_load_blk hs.b.1 (n := 4) rfl (by kernel_rfl)) rfl
    refine PlanI.cons (OpI.mkV fun a wx hs hf hp => ?_) ?_
    · exact StepI.callV rfl (wants_at rfl rfl (hp 27 57 (by kernel_rfl) rfl) (r := true) rfl) (args2 (hp 28 58 (by kernel_rfl) rfl) (hp 29 59 (by kernel_rfl) rfl)) (by kernel_rfl) (HSM.out D ⟨B1, m1, e1, B2, m2, e2, B3, m3, e3⟩ ⟨D1, l1, f1, D2, l2, f2, D3, l3, f3⟩ wx hs.a.2 hs.b.2)
    refine PlanI.cons (OpI.mkV fun a wx hs hf hp => ?_) ?_
    · exact StepI.pick (b := true) rfl (wants_none rfl) (hp 27 57 (by kernel_rfl) rfl) (hp 30 60 (by kernel_rfl) rfl)
    refine PlanI.cons (OpI.mkV fun a wx hs hf hp => ?_) ?_
    · exact StepI.mov rfl (wants_none rfl) (hp 31 61 (by kernel_rfl) rfl)
    refine PlanI.cons (OpI.mkV fun a wx hs hf hp => ?_) ?_
    · exact StepI.load rfl (wants_at rfl rfl (hp 32 62 (by kernel_rfl) rfl) (r := true) rfl) (hf.keep 3 (by kernel_rfl)) (run_load_blk hs.l.b0 (n := 4) rfl (by kernel_rfl)) rfl
    refine PlanI.cons (OpI.mk isSs_st fun a wx hs hf hp => ?_) ?_
    · exact StepI.call rfl (wants_at rfl rfl (hp 32 62 (by kernel_rfl) rfl) (r := true) rfl) (args1 (hp 33 63 (by kernel_rfl) rfl)) (by kernel_rfl) (ss_told (HST.out wx hs.l.bel))
    refine PlanI.cons (OpI.mkV fun a wx hs hf hp => ?_) ?_
    · exact StepI.load rfl (wants_at rfl rfl (hp 32 62 (by kernel_rfl) rfl) (r := true) rfl) (hf.keep 3 (by kernel_rfl)) (run_load_blk hs.l.b0 (n := 4) rfl (by kernel_rfl)) rfl
    refine PlanI.cons (OpI.mk isSs_st fun a wx hs hf hp => ?_) ?_
    · exact StepI.call rfl (wants_at rfl rfl (hp 32 62 (by kernel_rfl) rfl) (r := true) rfl) (args1 (hp 35 65 (by kernel_rfl) rfl)) (by kernel_rfl) (ss_told (HSO.out wx hs.l.bel))
    refine PlanI.cons (OpI.mkV fun a wx hs hf hp => ?_) ?_
    · obtain ⟨la, A9, c9, e9, g1, g2, g3, g4, g5⟩ := (show isSs d (a.eval (.tmp 64)) wx from (hp 34 64 (by kernel_rfl) rfl))
      obtain ⟨lb, A8, c8, e8, g6, g7, g8, g9, g10⟩ := (show isSs d (a.eval (.tmp 66)) wx from (hp 36 66 (by kernel_rfl) rfl))
      obtain rfl := isSs_eq g4 g5 g9 g10
      unfold maxLen at g2
      exact StepI.callV rfl (wants_at rfl rfl (hp 32 62 (by kernel_rfl) rfl) (r := true) rfl) (args2 e9 e8) (by kernel_rfl) (equalT_any la A9 A8 _ c9 c8 wx rfl (by omega) g3 g8)
    refine PlanI.cons (OpI.mkV fun a wx hs hf hp => ?_) ?_
    · exact StepI.pick (b := true) rfl (wants_none rfl) (hp 32 62 (by kernel_rfl) rfl) (hp 37 67 (by kernel_rfl) rfl)
    refine PlanI.cons (OpI.mkV fun a wx hs hf hp => ?_) ?_
    · exact StepI.asg rfl (wants_none rfl) (hp 38 68 (by kernel_rfl) rfl)
    exact PlanI.nil
  case fin =>
    intro a wx hs hf hv
    obtain ⟨v64, h64⟩ : ∃ v, a.tmps.getD 64 undef = v := ⟨_, rfl⟩
    obtain ⟨v66, h66⟩ : ∃ v, a.tmps.getD 66 undef = v := ⟨_, rfl⟩
    have hput := hf.puts ((30, .bool true) :: (31, .bool true) :: (32, .agg #[.int .i64 k, .int .i64 a0, .int .i64 q, .int .i64 s0, .int .i64 t0]) :: (33, .agg #[.int .i64 k2, .int .i64 a2, .int .i64 q2, .int .i64 s2, .int .i64 t2]) :: (34, .int .i64 (-1)) :: (35, .int .i64 (-1)) :: (36, .bool true) :: (37, .bool true) :: (38, .bool true) :: (39, .agg #[.int .i64 k, .int .i64 a0, .int .i64 q, .int .i64 s0, .int .i64 t0]) :: (40, .bool fz) :: (41, .agg #[.int .i64 k, .int .i64 a0, .int .i64 q, .int .i64 s0, .int .i64 t0]) :: (42, .bool fz) :: (43, .bool true) :: (44, .bool true) :: (45, .bool true) :: (46, .int .i64 ce) :: (47, .int .i64 ce) :: (48, .bool true) :: (49, .bool true) :: (50, .bool true) :: (51, .agg #[.int .i64 sl, .slice A1 n1 c1, .slice A2 n2 c2, .slice A3 n3 c3]) :: (52, .agg #[.int .i64 k, .int .i64 a0, .int .i64 q, .int .i64 s0, .int .i64 t0]) :: (53, .int .i64 ce) :: (54, .int .i64 ce) :: (55, .bool true) :: (56, .bool true) :: (57, .bool true) :: (58, .agg #[.int .i64 D.sl, .slice B1 m1 e1, .slice B2 m2 e2, .slice B3 m3 e3]) :: (59, .agg #[.int .i64 D.sl, .slice D1 l1 f1, .slice D2 l2 f2, .slice D3 l3 f3]) :: (60, .bool true) :: (61, .bool true) :: (62, .bool true) :: (63, .agg #[.int .i64 sl, .slice A1 n1 c1, .slice A2 n2 c2, .slice A3 n3 c3]) :: (64, v64) :: (65, .agg #[.int .i64 sl, .slice A1 n1 c1, .slice A2 n2 c2, .slice A3 n3 c3]) :: (66, v66) :: (67, .bool true) :: (68, .bool true) :: (6, .bool true) :: []) (by kernel_rfl) (List.forall_mem_cons.2 ⟨hv 0 30 rfl, (List.forall_mem_cons.2 ⟨hv 1 31 rfl, (List.forall_mem_cons.2 ⟨hv 2 32 rfl, (List.forall_mem_cons.2 ⟨hv 3 33 rfl, (List.forall_mem_cons.2 ⟨hv 4 34 rfl, (List.forall_mem_cons.2 ⟨hv 5 35 rfl, (List.forall_mem_cons.2 ⟨hv 6 36 rfl, (List.forall_mem_cons.2 ⟨hv 7 37 rfl, (List.forall_mem_cons.2 ⟨hv 8 38 rfl, (List.forall_mem_cons.2 ⟨hv 9 39 rfl, (List.forall_mem_cons.2 ⟨hv 10 40 rfl, (List.forall_mem_cons.2 ⟨hv 11 41 rfl, (List.forall_mem_cons.2 ⟨hv 12 42 rfl, (List.forall_mem_cons.2 ⟨hv 13 43 rfl, (List.forall_mem_cons.2 ⟨hv 14 44 rfl, (List.forall_mem_cons.2 ⟨hv 15 45 rfl, (List.forall_mem_cons.2 ⟨hv 16 46 rfl, (List.forall_mem_cons.2 ⟨hv 17 47 rfl, (List.forall_mem_cons.2 ⟨hv 18 48 rfl, (List.forall_mem_cons.2 ⟨hv 19 49 rfl, (List.forall_mem_cons.2 ⟨hv 20 50 rfl, (List.forall_mem_cons.2 ⟨hv 21 51 rfl, (List.forall_mem_cons.2 ⟨hv 22 52 rfl, (List.forall_mem_cons.2 ⟨hv 23 53 rfl, (List.forall_mem_cons.2 ⟨hv 24 54 rfl, (List.forall_mem_cons.2 ⟨hv 25 55 rfl, (List.forall_mem_cons.2 ⟨hv 26 56 rfl, (List.forall_mem_cons.2 ⟨hv 27 57 rfl, (List.forall_mem_cons.2 ⟨hv 28 58 rfl, (List.forall_mem_cons.2 ⟨hv 29 59 rfl, (List.forall_mem_cons.2 ⟨hv 30 60 rfl, (List.forall_mem_cons.2 ⟨hv 31 61 rfl, (List.forall_mem_cons.2 ⟨hv 32 62 rfl, (List.forall_mem_cons.2 ⟨hv 33 63 rfl, (List.forall_mem_cons.2 ⟨h64, (List.forall_mem_cons.2 ⟨hv 35 65 rfl, (List.forall_mem_cons.2 ⟨h66, (List.forall_mem_cons.2 ⟨hv 37 67 rfl, (List.forall_mem_cons.2 ⟨hv 38 68 rfl, (List.forall_mem_cons.2 ⟨hv 39 6 rfl, (by intro p hp; cases hp)⟩)⟩)⟩)⟩)⟩)⟩)⟩)⟩)⟩)⟩)⟩)⟩)⟩)⟩)⟩)⟩)⟩)⟩)⟩)⟩)⟩)⟩)⟩)⟩)⟩)⟩)⟩)⟩)⟩)⟩)⟩)⟩)⟩)⟩)⟩)⟩)⟩)⟩)⟩)⟩)
    clear hf hv
    clear h64
    clear h66
    subst hput
    simp only [puts, Act.put, List.setIfInBounds_toArray, List.set_cons_zero, List.set_cons_succ]
    have HX8 := Lib.hid hs.l.bel
    clear hs HX5
    go_wp2_with fail
    go_ret
    exact ⟨rfl, HX8.out⟩
set_option maxHeartbeats 20000000 in
set_option maxRecDepth 20000 in
theorem actSteps_same (d : Wd) (r : Raw) (s t : Stp) (w : World) (h : WOk w r d) (hlo : ∀ x ∈ d.pl, -9223372036854775808 ≤ x) (hz1 : decide (scmp s t < 0) = false) (hz2 : decide (scmp t s < 0) = false) (hc : scmp s t = 0) :
    Calls Try.prog 8 #[wv d.sl r, sv s, sv t] w fun e w' => e = .returned (.bool true) ∧ Below w.heap.size w w' := by
  have HL1 := Lib.hid (fun W => sless_any s t W)
  have HL2 := Lib.hid (fun W => sless_any t s W)
  have HCM := Lib.hid (fun W => scmp_any s t W)
  have HDO := Lib.hid (fun W (hb : Below w.heap.size w W) => do_any d r s W (h.next hb))
  have HDS := Lib.hid (fun W (hb : Below w.heap.size w W) => stepOf_any d r s W (h.next hb) hlo)
  have HAC := Lib.hid (fun W => acted_any W)
  have HFO := Lib.hid (fun W => form_any s W)
  have HFI := Lib.hid (fun W => formis_any s W)
  have HCA := Lib.hid (fun W (hb : Below w.heap.size w W) => can_any d r s W (h.next hb))
  have HSM := Lib.hid (fun (D : Wd) (r q : Raw) W (h1 : WOk W r D) (h2 : WOk W q D) => same_self D r q W h1 h2)
  have HST := Lib.hid (fun W (hb : Below w.heap.size w W) => steps_any d r W (h.next hb))
  have HSO := Lib.hid (fun W (hb : Below w.heap.size w W) => stepsOf_any d r W (h.next hb) hlo)
  have HS0 := Lib.hid (SL.start w d.sl r s t)
  rw [hz1] at HL1
  rw [hz2] at HL2
  rw [hc] at HCM
  clear h hlo hz1 hz2 hc
  unfold DoPost at HDO HDS
  generalize canE d s = ce at *
  generalize formB s = fz at *
  generalize doN d s = D at *
  obtain ⟨A1, n1, c1, A2, n2, c2, A3, n3, c3⟩ := r
  obtain ⟨k, a0, q, s0, t0⟩ := s
  obtain ⟨k2, a2, q2, s2, t2⟩ := t
  unfold wv wcs sv
  unfold sv at HL1 HL2 HCM HFO HFI
  unfold wv wcs at HSM HST HSO
  unfold wv wcs sv at HDO HDS HCA
  unfold wcs at HS0
  dsimp only at HL1 HL2 HCM HDO HDS HFO HFI HCA HSM HST HSO HS0 ⊢
  generalize d.sl = sl at *
  go_enter Try.func8, Try.ntmps8
  go_upto_region 1 with (fail)
  generalize World.alloc (World.alloc (World.alloc w _) _) _ = w1 at *
  have HSA := HS0
  clear HS0
  have k0_ := HSA.out.b0.cell 0
  have k1_ := HSA.out.b0.cell 1
  have k2_ := HSA.out.b0.cell 2
  have k3_ := HSA.out.b0.cell 3
  have g0_ := HSA.out.bs.cell 0
  have g1_ := HSA.out.bs.cell 1
  have g2_ := HSA.out.bs.cell 2
  have g3_ := HSA.out.bs.cell 3
  have g4_ := HSA.out.bs.cell 4
  have h0_ := HSA.out.bt.cell 0
  have h1_ := HSA.out.bt.cell 1
  have h2_ := HSA.out.bt.cell 2
  have h3_ := HSA.out.bt.cell 3
  have h4_ := HSA.out.bt.cell 4
  simp [wcs] at k0_ k1_ k2_ k3_ g0_ g1_ g2_ g3_ g4_ h0_ h1_ h2_ h3_ h4_
  go_wp2_with fail
  refine (HL1.out _).mono ?_
  rintro e w2 ⟨rfl, hb2⟩
  have HSB := Lib.hid (HSA.out.next hb2)
  clear k0_ k1_ k2_ k3_ g0_ g1_ g2_ g3_ g4_ h0_ h1_ h2_ h3_ h4_
  clear hb2 HSA
  have k0_ := HSB.out.b0.cell 0
  have k1_ := HSB.out.b0.cell 1
  have k2_ := HSB.out.b0.cell 2
  have k3_ := HSB.out.b0.cell 3
  have g0_ := HSB.out.bs.cell 0
  have g1_ := HSB.out.bs.cell 1
  have g2_ := HSB.out.bs.cell 2
  have g3_ := HSB.out.bs.cell 3
  have g4_ := HSB.out.bs.cell 4
  have h0_ := HSB.out.bt.cell 0
  have h1_ := HSB.out.bt.cell 1
  have h2_ := HSB.out.bt.cell 2
  have h3_ := HSB.out.bt.cell 3
  have h4_ := HSB.out.bt.cell 4
  simp [wcs] at k0_ k1_ k2_ k3_ g0_ g1_ g2_ g3_ g4_ h0_ h1_ h2_ h3_ h4_
  go_wp2_with fail
  refine (HL2.out _).mono ?_
  rintro e w3 ⟨rfl, hb3⟩
  have HSC := Lib.hid (HSB.out.next hb3)
  clear k0_ k1_ k2_ k3_ g0_ g1_ g2_ g3_ g4_ h0_ h1_ h2_ h3_ h4_
  clear hb3 HSB
  have k0_ := HSC.out.b0.cell 0
  have k1_ := HSC.out.b0.cell 1
  have k2_ := HSC.out.b0.cell 2
  have k3_ := HSC.out.b0.cell 3
  have g0_ := HSC.out.bs.cell 0
  have g1_ := HSC.out.bs.cell 1
  have g2_ := HSC.out.bs.cell 2
  have g3_ := HSC.out.bs.cell 3
  have g4_ := HSC.out.bs.cell 4
  have h0_ := HSC.out.bt.cell 0
  have h1_ := HSC.out.bt.cell 1
  have h2_ := HSC.out.bt.cell 2
  have h3_ := HSC.out.bt.cell 3
  have h4_ := HSC.out.bt.cell 4
  simp [wcs] at k0_ k1_ k2_ k3_ g0_ g1_ g2_ g3_ g4_ h0_ h1_ h2_ h3_ h4_
  go_wp2_with fail
  refine (HDO.out _ HSC.out.bel).mono ?_
  rintro e w4 ⟨⟨B1, m1, e1, B2, m2, e2, B3, m3, e3⟩, rfl, ⟨ho4, _⟩, hb4⟩
  have hbx : Below w4.heap.size w4 (w4.alloc (.cells #[.int .i64 D.sl, .slice B1 m1 e1, .slice B2 m2 e2, .slice B3 m3 e3] 25)) := (Below.refl _ _).alloc (Nat.le_refl _) _
  have HSD := Lib.hid ((HSC.out.next hb4).next hbx)
  have HAD : Hid (BxW w4.heap.size D ⟨B1, m1, e1, B2, m2, e2, B3, m3, e3⟩ (w4.alloc (.cells #[.int .i64 D.sl, .slice B1 m1 e1, .slice B2 m2 e2, .slice B3 m3 e3] 25))) := Lib.hid ⟨Blk.new w4 _ _, ho4.next hbx⟩
  clear k0_ k1_ k2_ k3_ g0_ g1_ g2_ g3_ g4_ h0_ h1_ h2_ h3_ h4_
  clear hbx hb4 ho4 HSC HDO
  dsimp only
  go_upto_region 7 with (fail)
  generalize World.alloc w4 _ = w5 at *
  generalize w4.heap.size = pa at *
  have k0_ := HSD.out.b0.cell 0
  have k1_ := HSD.out.b0.cell 1
  have k2_ := HSD.out.b0.cell 2
  have k3_ := HSD.out.b0.cell 3
  have g0_ := HSD.out.bs.cell 0
  have g1_ := HSD.out.bs.cell 1
  have g2_ := HSD.out.bs.cell 2
  have g3_ := HSD.out.bs.cell 3
  have g4_ := HSD.out.bs.cell 4
  have h0_ := HSD.out.bt.cell 0
  have h1_ := HSD.out.bt.cell 1
  have h2_ := HSD.out.bt.cell 2
  have h3_ := HSD.out.bt.cell 3
  have h4_ := HSD.out.bt.cell 4
  simp [wcs] at k0_ k1_ k2_ k3_ g0_ g1_ g2_ g3_ g4_ h0_ h1_ h2_ h3_ h4_
  go_wp2_with fail
  refine (HDS.out _ HSD.out.bel).mono ?_
  rintro e w6 ⟨⟨D1, l1, f1, D2, l2, f2, D3, l3, f3⟩, rfl, ⟨ho6, _⟩, hb6⟩
  have hbx : Below w6.heap.size w6 (w6.alloc (.cells #[.int .i64 D.sl, .slice D1 l1 f1, .slice D2 l2 f2, .slice D3 l3 f3] 25)) := (Below.refl _ _).alloc (Nat.le_refl _) _
  have HX5 : Hid (SM w sl ⟨A1, n1, c1, A2, n2, c2, A3, n3, c3⟩ ⟨k, a0, q, s0, t0⟩ ⟨k2, a2, q2, s2, t2⟩ pa w6.heap.size D ⟨B1, m1, e1, B2, m2, e2, B3, m3, e3⟩ ⟨D1, l1, f1, D2, l2, f2, D3, l3, f3⟩ (w6.alloc (.cells #[.int .i64 D.sl, .slice D1 l1 f1, .slice D2 l2 f2, .slice D3 l3 f3] 25))) := Lib.hid ⟨(HSD.out.next hb6).next hbx, (HAD.out.next hb6).next hbx, Blk.new w6 _ _, ho6.next hbx⟩
  clear k0_ k1_ k2_ k3_ g0_ g1_ g2_ g3_ g4_ h0_ h1_ h2_ h3_ h4_
  clear hbx hb6 ho6 HSD HAD HDS
  dsimp only
  go_upto_region 8 with (fail)
  generalize World.alloc w6 _ = w7 at *
  generalize w6.heap.size = pb at *
  refine wp_inv (S := (SM w sl ⟨A1, n1, c1, A2, n2, c2, A3, n3, c3⟩ ⟨k, a0, q, s0, t0⟩ ⟨k2, a2, q2, s2, t2⟩ pa pb D ⟨B1, m1, e1, B2, m2, e2, B3, m3, e3⟩ ⟨D1, l1, f1, D2, l2, f2, D3, l3, f3⟩)) (isV (.bool true) :: isV (.bool true) :: isV (.agg #[.int .i64 k, .int .i64 a0, .int .i64 q, .int .i64 s0, .int .i64 t0]) :: isV (.agg #[.int .i64 k2, .int .i64 a2, .int .i64 q2, .int .i64 s2, .int .i64 t2]) :: isV (.int .i64 (0)) :: isV (.int .i64 (0)) :: isV (.bool true) :: isV (.bool true) :: isV (.bool true) :: isV (.agg #[.int .i64 k, .int .i64 a0, .int .i64 q, .int .i64 s0, .int .i64 t0]) :: isV (.bool fz) :: isV (.agg #[.int .i64 k, .int .i64 a0, .int .i64 q, .int .i64 s0, .int .i64 t0]) :: isV (.bool fz) :: isV (.bool true) :: isV (.bool true) :: isV (.bool true) :: isV (.int .i64 ce) :: isV (.int .i64 ce) :: isV (.bool true) :: isV (.bool true) :: isV (.bool true) :: isV (.agg #[.int .i64 sl, .slice A1 n1 c1, .slice A2 n2 c2, .slice A3 n3 c3]) :: isV (.agg #[.int .i64 k, .int .i64 a0, .int .i64 q, .int .i64 s0, .int .i64 t0]) :: isV (.int .i64 ce) :: isV (.int .i64 ce) :: isV (.bool true) :: isV (.bool true) :: isV (.bool true) :: isV (.agg #[.int .i64 D.sl, .slice B1 m1 e1, .slice B2 m2 e2, .slice B3 m3 e3]) :: isV (.agg #[.int .i64 D.sl, .slice D1 l1 f1, .slice D2 l2 f2, .slice D3 l3 f3]) :: isV (.bool true) :: isV (.bool true) :: isV (.bool true) :: isV (.agg #[.int .i64 sl, .slice A1 n1 c1, .slice A2 n2 c2, .slice A3 n3 c3]) :: isSs d :: isV (.agg #[.int .i64 sl, .slice A1 n1 c1, .slice A2 n2 c2, .slice A3 n3 c3]) :: isSs d :: isV (.bool true) :: isV (.bool true) :: isV (.bool true) :: []) (by kernel_rfl) (by kernel_rfl) (fun _ _ h9 hb9 => h9.next hb9) HX5.out ?plan ?fin
  case plan =>
    refine PlanI.cons (OpI.mkV fun a wx hs hf hp => ?_) ?_
    · exact StepI.callV rfl (wants_none rfl) rfl (by kernel_rfl) (HAC.out wx)
    refine PlanI.cons (OpI.mkV fun a wx hs hf hp => ?_) ?_
    · exact StepI.mov rfl (wants_none rfl) (hp 0 30 (by kernel_rfl) rfl)
    refine PlanI.cons (OpI.mkV fun a wx hs hf hp => ?_) ?_
    · exact StepI.load rfl (wants_at rfl rfl (hp 1 31 (by kernel_rfl) rfl) (r := true) rfl) (hf.keep 4 (by kernel_rfl)) (run_load_blk hs.l.bs (n := 5) rfl (by kernel_rfl)) rfl
    refine PlanI.cons (OpI.mkV fun a wx hs hf hp => ?_) ?_
    · exact StepI.load rfl (wants_at rfl rfl (hp 1 31 (by kernel_rfl) rfl) (r := true) rfl) (hf.keep 5 (by kernel_rfl)) (run_load_blk hs.l.bt (n := 5) rfl (by kernel_rfl)) rfl
    refine PlanI.cons (OpI.mkV fun a wx hs hf hp => ?_) ?_
    · exact StepI.callV rfl (wants_at rfl rfl (hp 1 31 (by kernel_rfl) rfl) (r := true) rfl) (args2 (hp 2 32 (by kernel_rfl) rfl) (hp 3 33 (by kernel_rfl) rfl)) (by kernel_rfl) (HCM.out wx)
    refine PlanI.cons (OpI.mkV fun a wx hs hf hp => ?_) ?_
    · exact StepI.mov rfl (wants_at rfl rfl (hp 1 31 (by kernel_rfl) rfl) (r := true) rfl) (hf.keep 7 (by kernel_rfl))
    refine PlanI.cons (OpI.mkV fun a wx hs hf hp => ?_) ?_
    · exact StepI.bin rfl (wants_at rfl rfl (hp 1 31 (by kernel_rfl) rfl) (r := true) rfl) (hp 4 34 (by kernel_rfl) rfl) (hp 5 35 (by kernel_rfl) rfl) (eqI_same _ _ _ wx) rfl
    refine PlanI.cons (OpI.mkV fun a wx hs hf hp => ?_) ?_
    · exact StepI.pick (b := true) rfl (wants_none rfl) (hp 1 31 (by kernel_rfl) rfl) (hp 6 36 (by kernel_rfl) rfl)
    refine PlanI.cons (OpI.mkV fun a wx hs hf hp => ?_) ?_
    · exact StepI.mov rfl (wants_none rfl) (hp 7 37 (by kernel_rfl) rfl)
    refine PlanI.cons (OpI.mkV fun a wx hs hf hp => ?_) ?_
    · exact StepI.load rfl (wants_at rfl rfl (hp 8 38 (by kernel_rfl) rfl) (r := true) rfl) (hf.keep 4 (by kernel_rfl)) (run_load_blk hs.l.bs (n := 5) rfl (by kernel_rfl)) rfl
    refine PlanI.cons (OpI.mkV fun a wx hs hf hp => ?_) ?_
    · exact StepI.callV rfl (wants_at rfl rfl (hp 8 38 (by kernel_rfl) rfl) (r := true) rfl) (args1 (hp 9 39 (by kernel_rfl) rfl)) (by kernel_rfl) (HFO.out wx)
    refine PlanI.cons (OpI.mkV fun a wx hs hf hp => ?_) ?_
    · exact StepI.load rfl (wants_at rfl rfl (hp 8 38 (by kernel_rfl) rfl) (r := true) rfl) (hf.keep 4 (by kernel_rfl)) (run_load_blk hs.l.bs (n := 5) rfl (by kernel_rfl)) rfl
    refine PlanI.cons (OpI.mkV fun a wx hs hf hp => ?_) ?_
    · exact StepI.callV rfl (wants_at rfl rfl (hp 8 38 (by kernel_rfl) rfl) (r := true) rfl) (args1 (hp 11 41 (by kernel_rfl) rfl)) (by kernel_rfl) (HFI.out wx)
    refine PlanI.cons (OpI.mkV fun a wx hs hf hp => ?_) ?_
    · exact StepI.bin rfl (wants_at rfl rfl (hp 8 38 (by kernel_rfl) rfl) (r := true) rfl) (hp 10 40 (by kernel_rfl) rfl) (hp 12 42 (by kernel_rfl) rfl) (eqB_same _ _ _ wx) rfl
    refine PlanI.cons (OpI.mkV fun a wx hs hf hp => ?_) ?_
    · exact StepI.pick (b := true) rfl (wants_none rfl) (hp 8 38 (by kernel_rfl) rfl) (hp 13 43 (by kernel_rfl) rfl)
    refine PlanI.cons (OpI.mkV fun a wx hs hf hp => ?_) ?_
    · exact StepI.mov rfl (wants_none rfl) (hp 14 44 (by kernel_rfl) rfl)
    refine PlanI.cons (OpI.mkV fun a wx hs hf hp => ?_) ?_
    · exact StepI.mov rfl (wants_at rfl rfl (hp 15 45 (by kernel_rfl) rfl) (r := true) rfl) (hf.keep 9 (by kernel_rfl))
    refine PlanI.cons (OpI.mkV fun a wx hs hf hp => ?_) ?_
    · exact StepI.mov rfl (wants_at rfl rfl (hp 15 45 (by kernel_rfl) rfl) (r := true) rfl) (hf.keep 11 (by kernel_rfl))
    refine PlanI.cons (OpI.mkV fun a wx hs hf hp => ?_) ?_
    · exact StepI.bin rfl (wants_at rfl rfl (hp 15 45 (by kernel_rfl) rfl) (r := true) rfl) (hp 16 46 (by kernel_rfl) rfl) (hp 17 47 (by kernel_rfl) rfl) (eqE_same _ _ _ wx) rfl
    refine PlanI.cons (OpI.mkV fun a wx hs hf hp => ?_) ?_
    · exact StepI.pick (b := true) rfl (wants_none rfl) (hp 15 45 (by kernel_rfl) rfl) (hp 18 48 (by kernel_rfl) rfl)
    refine PlanI.cons (OpI.mkV fun a wx hs hf hp => ?_) ?_
    · exact StepI.mov rfl (wants_none rfl) (hp 19 49 (by kernel_rfl) rfl)
    refine PlanI.cons (OpI.mkV fun a wx hs hf hp => ?_) ?_
    · exact StepI.load rfl (wants_at rfl rfl (hp 20 50 (by kernel_rfl) rfl) (r := true) rfl) (hf.keep 3 (by kernel_rfl)) (run_load_blk hs.l.b0 (n := 4) rfl (by kernel_rfl)) rfl
    refine PlanI.cons (OpI.mkV fun a wx hs hf hp => ?_) ?_
    · exact StepI.load rfl (wants_at rfl rfl (hp 20 50 (by kernel_rfl) rfl) (r := true) rfl) (hf.keep 4 (by kernel_rfl)) (run_load_blk hs.l.bs (n := 5) rfl (by kernel_rfl)) rfl
    refine PlanI.cons (OpI.mkV fun a wx hs hf hp => ?_) ?_
    · exact StepI.callV rfl (wants_at rfl rfl (hp 20 50 (by kernel_rfl) rfl) (r := true) rfl) (args2 (hp 21 51 (by kernel_rfl) rfl) (hp 22 52 (by kernel_rfl) rfl)) (by kernel_rfl) (HCA.out wx hs.l.bel)
    refine PlanI.cons (OpI.mkV fun a wx hs hf hp => ?_) ?_
    · exact StepI.mov rfl (wants_at rfl rfl (hp 20 50 (by kernel_rfl) rfl) (r := true) rfl) (hf.keep 11 (by kernel_rfl))
    refine PlanI.cons (OpI.mkV fun a wx hs hf hp => ?_) ?_
    · exact StepI.bin rfl (wants_at rfl rfl (hp 20 50 (by kernel_rfl) rfl) (r := true) rfl) (hp 23 53 (by kernel_rfl) rfl) (hp 24 54 (by kernel_rfl) rfl) (eqE_same _ _ _ wx) rfl
    refine PlanI.cons (OpI.mkV fun a wx hs hf hp => ?_) ?_
    · exact StepI.pick (b := true) rfl (wants_none rfl) (hp 20 50 (by kernel_rfl) rfl) (hp 25 55 (by kernel_rfl) rfl)
    refine PlanI.cons (OpI.mkV fun a wx hs hf hp => ?_) ?_
    · exact StepI.mov rfl (wants_none rfl) (hp 26 56 (by kernel_rfl) rfl)
    refine PlanI.cons (OpI.mkV fun a wx hs hf hp => ?_) ?_
    · exact StepI.load rfl (wants_at rfl rfl (hp 27 57 (by kernel_rfl) rfl) (r := true) rfl) (hf.keep 8 (by kernel_rfl)) (run_load_blk hs.a.1 (n := 4) rfl (by kernel_rfl)) rfl
    refine PlanI.cons (OpI.mkV fun a wx hs hf hp => ?_) ?_
    · exact StepI.load rfl (wants_at rfl rfl (hp 27 57 (by kernel_rfl) rfl) (r := true) rfl) (hf.keep 10 (by kernel_rfl)) (run_load_blk hs.b.1 (n := 4) rfl (by kernel_rfl)) rfl
    refine PlanI.cons (OpI.mkV fun a wx hs hf hp => ?_) ?_
    · exact StepI.callV rfl (wants_at rfl rfl (hp 27 57 (by kernel_rfl) rfl) (r := true) rfl) (args2 (hp 28 58 (by kernel_rfl) rfl) (hp 29 59 (by kernel_rfl) rfl)) (by kernel_rfl) (HSM.out D ⟨B1, m1, e1, B2, m2, e2, B3, m3, e3⟩ ⟨D1, l1, f1, D2, l2, f2, D3, l3, f3⟩ wx hs.a.2 hs.b.2)
    refine PlanI.cons (OpI.mkV fun a wx hs hf hp => ?_) ?_
    · exact StepI.pick (b := true) rfl (wants_none rfl) (hp 27 57 (by kernel_rfl) rfl) (hp 30 60 (by kernel_rfl) rfl)
    refine PlanI.cons (OpI.mkV fun a wx hs hf hp => ?_) ?_
    · exact StepI.mov rfl (wants_none rfl) (hp 31 61 (by kernel_rfl) rfl)
    refine PlanI.cons (OpI.mkV fun a wx hs hf hp => ?_) ?_
    · exact StepI.load rfl (wants_at rfl rfl (hp 32 62 (by kernel_rfl) rfl) (r := true) rfl) (hf.keep 3 (by kernel_rfl)) (run_load_blk hs.l.b0 (n := 4) rfl (by kernel_rfl)) rfl
    refine PlanI.cons (OpI.mk isSs_st fun a wx hs hf hp => ?_) ?_
    · exact StepI.call rfl (wants_at rfl rfl (hp 32 62 (by kernel_rfl) rfl) (r := true) rfl) (args1 (hp 33 63 (by kernel_rfl) rfl)) (by kernel_rfl) (ss_told (HST.out wx hs.l.bel))
    refine PlanI.cons (OpI.mkV fun a wx hs hf hp => ?_) ?_
    · exact StepI.load rfl (wants_at rfl rfl (hp 32 62 (by kernel_rfl) rfl) (r := true) rfl) (hf.keep 3 (by kernel_rfl)) (run_load_blk hs.l.b0 (n := 4) rfl (by kernel_rfl)) rfl
    refine PlanI.cons (OpI.mk isSs_st fun a wx hs hf hp => ?_) ?_
    · exact StepI.call rfl (wants_at rfl rfl (hp 32 62 (by kernel_rfl) rfl) (r := true) rfl) (args1 (hp 35 65 (by kernel_rfl) rfl)) (by kernel_rfl) (ss_told (HSO.out wx hs.l.bel))
    refine PlanI.cons (OpI.mkV fun a wx hs hf hp => ?_) ?_
    · obtain ⟨la, A9, c9, e9, g1, g2, g3, g4, g5⟩ := (show isSs d (a.eval (.tmp 64)) wx from (hp 34 64 (by kernel_rfl) rfl))
      obtain ⟨lb, A8, c8, e8, g6, g7, g8, g9, g10⟩ := (show isSs d (a.eval (.tmp 66)) wx from (hp 36 66 (by kernel_rfl) rfl))
      obtain rfl := isSs_eq g4 g5 g9 g10
      unfold maxLen at g2
      exact StepI.callV rfl (wants_at rfl rfl (hp 32 62 (by kernel_rfl) rfl) (r := true) rfl) (args2 e9 e8) (by kernel_rfl) (equalT_any la A9 A8 _ c9 c8 wx rfl (by omega) g3 g8)
    refine PlanI.cons (OpI.mkV fun a wx hs hf hp => ?_) ?_
    · exact StepI.pick (b := true) rfl (wants_none rfl) (hp 32 62 (by kernel_rfl) rfl) (hp 37 67 (by kernel_rfl) rfl)
    refine PlanI.cons (OpI.mkV fun a wx hs hf hp => ?_) ?_
    · exact StepI.asg rfl (wants_none rfl) (hp 38 68 (by kernel_rfl) rfl)
    exact PlanI.nil
  case fin =>
    intro a wx hs hf hv
    obtain ⟨v64, h64⟩ : ∃ v, a.tmps.getD 64 undef = v := ⟨_, rfl⟩
    obtain ⟨v66, h66⟩ : ∃ v, a.tmps.getD 66 undef = v := ⟨_, rfl⟩
    have hput := hf.puts ((30, .bool true) :: (31, .bool true) :: (32, .agg #[.int .i64 k, .int .i64 a0, .int .i64 q, .int .i64 s0, .int .i64 t0]) :: (33, .agg #[.int .i64 k2, .int .i64 a2, .int .i64 q2, .int .i64 s2, .int .i64 t2]) :: (34, .int .i64 (0)) :: (35, .int .i64 (0)) :: (36, .bool true) :: (37, .bool true) :: (38, .bool true) :: (39, .agg #[.int .i64 k, .int .i64 a0, .int .i64 q, .int .i64 s0, .int .i64 t0]) :: (40, .bool fz) :: (41, .agg #[.int .i64 k, .int .i64 a0, .int .i64 q, .int .i64 s0, .int .i64 t0]) :: (42, .bool fz) :: (43, .bool true) :: (44, .bool true) :: (45, .bool true) :: (46, .int .i64 ce) :: (47, .int .i64 ce) :: (48, .bool true) :: (49, .bool true) :: (50, .bool true) :: (51, .agg #[.int .i64 sl, .slice A1 n1 c1, .slice A2 n2 c2, .slice A3 n3 c3]) :: (52, .agg #[.int .i64 k, .int .i64 a0, .int .i64 q, .int .i64 s0, .int .i64 t0]) :: (53, .int .i64 ce) :: (54, .int .i64 ce) :: (55, .bool true) :: (56, .bool true) :: (57, .bool true) :: (58, .agg #[.int .i64 D.sl, .slice B1 m1 e1, .slice B2 m2 e2, .slice B3 m3 e3]) :: (59, .agg #[.int .i64 D.sl, .slice D1 l1 f1, .slice D2 l2 f2, .slice D3 l3 f3]) :: (60, .bool true) :: (61, .bool true) :: (62, .bool true) :: (63, .agg #[.int .i64 sl, .slice A1 n1 c1, .slice A2 n2 c2, .slice A3 n3 c3]) :: (64, v64) :: (65, .agg #[.int .i64 sl, .slice A1 n1 c1, .slice A2 n2 c2, .slice A3 n3 c3]) :: (66, v66) :: (67, .bool true) :: (68, .bool true) :: (6, .bool true) :: []) (by kernel_rfl) (List.forall_mem_cons.2 ⟨hv 0 30 rfl, (List.forall_mem_cons.2 ⟨hv 1 31 rfl, (List.forall_mem_cons.2 ⟨hv 2 32 rfl, (List.forall_mem_cons.2 ⟨hv 3 33 rfl, (List.forall_mem_cons.2 ⟨hv 4 34 rfl, (List.forall_mem_cons.2 ⟨hv 5 35 rfl, (List.forall_mem_cons.2 ⟨hv 6 36 rfl, (List.forall_mem_cons.2 ⟨hv 7 37 rfl, (List.forall_mem_cons.2 ⟨hv 8 38 rfl, (List.forall_mem_cons.2 ⟨hv 9 39 rfl, (List.forall_mem_cons.2 ⟨hv 10 40 rfl, (List.forall_mem_cons.2 ⟨hv 11 41 rfl, (List.forall_mem_cons.2 ⟨hv 12 42 rfl, (List.forall_mem_cons.2 ⟨hv 13 43 rfl, (List.forall_mem_cons.2 ⟨hv 14 44 rfl, (List.forall_mem_cons.2 ⟨hv 15 45 rfl, (List.forall_mem_cons.2 ⟨hv 16 46 rfl, (List.forall_mem_cons.2 ⟨hv 17 47 rfl, (List.forall_mem_cons.2 ⟨hv 18 48 rfl, (List.forall_mem_cons.2 ⟨hv 19 49 rfl, (List.forall_mem_cons.2 ⟨hv 20 50 rfl, (List.forall_mem_cons.2 ⟨hv 21 51 rfl, (List.forall_mem_cons.2 ⟨hv 22 52 rfl, (List.forall_mem_cons.2 ⟨hv 23 53 rfl, (List.forall_mem_cons.2 ⟨hv 24 54 rfl, (List.forall_mem_cons.2 ⟨hv 25 55 rfl, (List.forall_mem_cons.2 ⟨hv 26 56 rfl, (List.forall_mem_cons.2 ⟨hv 27 57 rfl, (List.forall_mem_cons.2 ⟨hv 28 58 rfl, (List.forall_mem_cons.2 ⟨hv 29 59 rfl, (List.forall_mem_cons.2 ⟨hv 30 60 rfl, (List.forall_mem_cons.2 ⟨hv 31 61 rfl, (List.forall_mem_cons.2 ⟨hv 32 62 rfl, (List.forall_mem_cons.2 ⟨hv 33 63 rfl, (List.forall_mem_cons.2 ⟨h64, (List.forall_mem_cons.2 ⟨hv 35 65 rfl, (List.forall_mem_cons.2 ⟨h66, (List.forall_mem_cons.2 ⟨hv 37 67 rfl, (List.forall_mem_cons.2 ⟨hv 38 68 rfl, (List.forall_mem_cons.2 ⟨hv 39 6 rfl, (by intro p hp; cases hp)⟩)⟩)⟩)⟩)⟩)⟩)⟩)⟩)⟩)⟩)⟩)⟩)⟩)⟩)⟩)⟩)⟩)⟩)⟩)⟩)⟩)⟩)⟩)⟩)⟩)⟩)⟩)⟩)⟩)⟩)⟩)⟩)⟩)⟩)⟩)⟩)⟩)⟩)⟩)⟩)
    clear hf hv
    clear h64
    clear h66
    subst hput
    simp only [puts, Act.put, List.setIfInBounds_toArray, List.set_cons_zero, List.set_cons_succ]
    have HX8 := Lib.hid hs.l.bel
    clear hs HX5
    go_wp2_with fail
    go_ret
    exact ⟨rfl, HX8.out⟩
set_option maxHeartbeats 20000000 in
set_option maxRecDepth 20000 in
theorem actSteps_more (d : Wd) (r : Raw) (s t : Stp) (w : World) (h : WOk w r d) (hlo : ∀ x ∈ d.pl, -9223372036854775808 ≤ x) (hz1 : decide (scmp s t < 0) = false) (hz2 : decide (scmp t s < 0) = true) (hc : scmp s t = 1) :
    Calls Try.prog 8 #[wv d.sl r, sv s, sv t] w fun e w' => e = .returned (.bool true) ∧ Below w.heap.size w w' := by
  have HL1 := Lib.hid (fun W => sless_any s t W)
  have HL2 := Lib.hid (fun W => sless_any t s W)
  have HCM := Lib.hid (fun W => scmp_any s t W)
  have HDO := Lib.hid (fun W (hb : Below w.heap.size w W) => do_any d r s W (h.next hb))
  have HDS := Lib.hid (fun W (hb : Below w.heap.size w W) => stepOf_any d r s W (h.next hb) hlo)
  have HAC := Lib.hid (fun W => acted_any W)
  have HFO := Lib.hid (fun W => form_any s W)
  have HFI := Lib.hid (fun W => formis_any s W)
  have HCA := Lib.hid (fun W (hb : Below w.heap.size w W) => can_any d r s W (h.next hb))
  have HSM := Lib.hid (fun (D : Wd) (r q : Raw) W (h1 : WOk W r D) (h2 : WOk W q D) => same_self D r q W h1 h2)
  have HST := Lib.hid (fun W (hb : Below w.heap.size w W) => steps_any d r W (h.next hb))
  have HSO := Lib.hid (fun W (hb : Below w.heap.size w W) => stepsOf_any d r W (h.next hb) hlo)
  have HS0 := Lib.hid (SL.start w d.sl r s t)
  rw [hz1] at HL1
  rw [hz2] at HL2
  rw [hc] at HCM
  clear h hlo hz1 hz2 hc
  unfold DoPost at HDO HDS
  generalize canE d s = ce at *
  generalize formB s = fz at *
  generalize doN d s = D at *
  obtain ⟨A1, n1, c1, A2, n2, c2, A3, n3, c3⟩ := r
  obtain ⟨k, a0, q, s0, t0⟩ := s
  obtain ⟨k2, a2, q2, s2, t2⟩ := t
  unfold wv wcs sv
  unfold sv at HL1 HL2 HCM HFO HFI
  unfold wv wcs at HSM HST HSO
  unfold wv wcs sv at HDO HDS HCA
  unfold wcs at HS0
  dsimp only at HL1 HL2 HCM HDO HDS HFO HFI HCA HSM HST HSO HS0 ⊢
  generalize d.sl = sl at *
  go_enter Try.func8, Try.ntmps8
  go_upto_region 1 with (fail)
  generalize World.alloc (World.alloc (World.alloc w _) _) _ = w1 at *
  have HSA := HS0
  clear HS0
  have k0_ := HSA.out.b0.cell 0
  have k1_ := HSA.out.b0.cell 1
  have k2_ := HSA.out.b0.cell 2
  have k3_ := HSA.out.b0.cell 3
  have g0_ := HSA.out.bs.cell 0
  have g1_ := HSA.out.bs.cell 1
  have g2_ := HSA.out.bs.cell 2
  have g3_ := HSA.out.bs.cell 3
  have g4_ := HSA.out.bs.cell 4
  have h0_ := HSA.out.bt.cell 0
  have h1_ := HSA.out.bt.cell 1
  have h2_ := HSA.out.bt.cell 2
  have h3_ := HSA.out.bt.cell 3
  have h4_ := HSA.out.bt.cell 4
  simp [wcs] at k0_ k1_ k2_ k3_ g0_ g1_ g2_ g3_ g4_ h0_ h1_ h2_ h3_ h4_
  go_wp2_with fail
  refine (HL1.out _).mono ?_
  rintro e w2 ⟨rfl, hb2⟩
  have HSB := Lib.hid (HSA.out.next hb2)
  clear k0_ k1_ k2_ k3_ g0_ g1_ g2_ g3_ g4_ h0_ h1_ h2_ h3_ h4_
  clear hb2 HSA
  have k0_ := HSB.out.b0.cell 0
  have k1_ := HSB.out.b0.cell 1
  have k2_ := HSB.out.b0.cell 2
  have k3_ := HSB.out.b0.cell 3
  have g0_ := HSB.out.bs.cell 0
  have g1_ := HSB.out.bs.cell 1
  have g2_ := HSB.out.bs.cell 2
  have g3_ := HSB.out.bs.cell 3
  have g4_ := HSB.out.bs.cell 4
  have h0_ := HSB.out.bt.cell 0
  have h1_ := HSB.out.bt.cell 1
  have h2_ := HSB.out.bt.cell 2
  have h3_ := HSB.out.bt.cell 3
  have h4_ := HSB.out.bt.cell 4
  simp [wcs] at k0_ k1_ k2_ k3_ g0_ g1_ g2_ g3_ g4_ h0_ h1_ h2_ h3_ h4_
  go_wp2_with fail
  refine (HL2.out _).mono ?_
  rintro e w3 ⟨rfl, hb3⟩
  have HSC := Lib.hid (HSB.out.next hb3)
  clear k0_ k1_ k2_ k3_ g0_ g1_ g2_ g3_ g4_ h0_ h1_ h2_ h3_ h4_
  clear hb3 HSB
  have k0_ := HSC.out.b0.cell 0
  have k1_ := HSC.out.b0.cell 1
  have k2_ := HSC.out.b0.cell 2
  have k3_ := HSC.out.b0.cell 3
  have g0_ := HSC.out.bs.cell 0
  have g1_ := HSC.out.bs.cell 1
  have g2_ := HSC.out.bs.cell 2
  have g3_ := HSC.out.bs.cell 3
  have g4_ := HSC.out.bs.cell 4
  have h0_ := HSC.out.bt.cell 0
  have h1_ := HSC.out.bt.cell 1
  have h2_ := HSC.out.bt.cell 2
  have h3_ := HSC.out.bt.cell 3
  have h4_ := HSC.out.bt.cell 4
  simp [wcs] at k0_ k1_ k2_ k3_ g0_ g1_ g2_ g3_ g4_ h0_ h1_ h2_ h3_ h4_
  go_wp2_with fail
  refine (HDO.out _ HSC.out.bel).mono ?_
  rintro e w4 ⟨⟨B1, m1, e1, B2, m2, e2, B3, m3, e3⟩, rfl, ⟨ho4, _⟩, hb4⟩
  have hbx : Below w4.heap.size w4 (w4.alloc (.cells #[.int .i64 D.sl, .slice B1 m1 e1, .slice B2 m2 e2, .slice B3 m3 e3] 25)) := (Below.refl _ _).alloc (Nat.le_refl _) _
  have HSD := Lib.hid ((HSC.out.next hb4).next hbx)
  have HAD : Hid (BxW w4.heap.size D ⟨B1, m1, e1, B2, m2, e2, B3, m3, e3⟩ (w4.alloc (.cells #[.int .i64 D.sl, .slice B1 m1 e1, .slice B2 m2 e2, .slice B3 m3 e3] 25))) := Lib.hid ⟨Blk.new w4 _ _, ho4.next hbx⟩
  clear k0_ k1_ k2_ k3_ g0_ g1_ g2_ g3_ g4_ h0_ h1_ h2_ h3_ h4_
  clear hbx hb4 ho4 HSC HDO
  dsimp only
  go_upto_region 7 with (fail)
  generalize World.alloc w4 _ = w5 at *
  generalize w4.heap.size = pa at *
  have k0_ := HSD.out.b0.cell 0
  have k1_ := HSD.out.b0.cell 1
  have k2_ := HSD.out.b0.cell 2
  have k3_ := HSD.out.b0.cell 3
  have g0_ := HSD.out.bs.cell 0
  have g1_ := HSD.out.bs.cell 1
  have g2_ := HSD.out.bs.cell 2
  have g3_ := HSD.out.bs.cell 3
  have g4_ := HSD.out.bs.cell 4
  have h0_ := HSD.out.bt.cell 0
  have h1_ := HSD.out.bt.cell 1
  have h2_ := HSD.out.bt.cell 2
  have h3_ := HSD.out.bt.cell 3
  have h4_ := HSD.out.bt.cell 4
  simp [wcs] at k0_ k1_ k2_ k3_ g0_ g1_ g2_ g3_ g4_ h0_ h1_ h2_ h3_ h4_
  go_wp2_with fail
  refine (HDS.out _ HSD.out.bel).mono ?_
  rintro e w6 ⟨⟨D1, l1, f1, D2, l2, f2, D3, l3, f3⟩, rfl, ⟨ho6, _⟩, hb6⟩
  have hbx : Below w6.heap.size w6 (w6.alloc (.cells #[.int .i64 D.sl, .slice D1 l1 f1, .slice D2 l2 f2, .slice D3 l3 f3] 25)) := (Below.refl _ _).alloc (Nat.le_refl _) _
  have HX5 : Hid (SM w sl ⟨A1, n1, c1, A2, n2, c2, A3, n3, c3⟩ ⟨k, a0, q, s0, t0⟩ ⟨k2, a2, q2, s2, t2⟩ pa w6.heap.size D ⟨B1, m1, e1, B2, m2, e2, B3, m3, e3⟩ ⟨D1, l1, f1, D2, l2, f2, D3, l3, f3⟩ (w6.alloc (.cells #[.int .i64 D.sl, .slice D1 l1 f1, .slice D2 l2 f2, .slice D3 l3 f3] 25))) := Lib.hid ⟨(HSD.out.next hb6).next hbx, (HAD.out.next hb6).next hbx, Blk.new w6 _ _, ho6.next hbx⟩
  clear k0_ k1_ k2_ k3_ g0_ g1_ g2_ g3_ g4_ h0_ h1_ h2_ h3_ h4_
  clear hbx hb6 ho6 HSD HAD HDS
  dsimp only
  go_upto_region 8 with (fail)
  generalize World.alloc w6 _ = w7 at *
  generalize w6.heap.size = pb at *
  refine wp_inv (S := (SM w sl ⟨A1, n1, c1, A2, n2, c2, A3, n3, c3⟩ ⟨k, a0, q, s0, t0⟩ ⟨k2, a2, q2, s2, t2⟩ pa pb D ⟨B1, m1, e1, B2, m2, e2, B3, m3, e3⟩ ⟨D1, l1, f1, D2, l2, f2, D3, l3, f3⟩)) (isV (.bool true) :: isV (.bool true) :: isV (.agg #[.int .i64 k, .int .i64 a0, .int .i64 q, .int .i64 s0, .int .i64 t0]) :: isV (.agg #[.int .i64 k2, .int .i64 a2, .int .i64 q2, .int .i64 s2, .int .i64 t2]) :: isV (.int .i64 (1)) :: isV (.int .i64 (1)) :: isV (.bool true) :: isV (.bool true) :: isV (.bool true) :: isV (.agg #[.int .i64 k, .int .i64 a0, .int .i64 q, .int .i64 s0, .int .i64 t0]) :: isV (.bool fz) :: isV (.agg #[.int .i64 k, .int .i64 a0, .int .i64 q, .int .i64 s0, .int .i64 t0]) :: isV (.bool fz) :: isV (.bool true) :: isV (.bool true) :: isV (.bool true) :: isV (.int .i64 ce) :: isV (.int .i64 ce) :: isV (.bool true) :: isV (.bool true) :: isV (.bool true) :: isV (.agg #[.int .i64 sl, .slice A1 n1 c1, .slice A2 n2 c2, .slice A3 n3 c3]) :: isV (.agg #[.int .i64 k, .int .i64 a0, .int .i64 q, .int .i64 s0, .int .i64 t0]) :: isV (.int .i64 ce) :: isV (.int .i64 ce) :: isV (.bool true) :: isV (.bool true) :: isV (.bool true) :: isV (.agg #[.int .i64 D.sl, .slice B1 m1 e1, .slice B2 m2 e2, .slice B3 m3 e3]) :: isV (.agg #[.int .i64 D.sl, .slice D1 l1 f1, .slice D2 l2 f2, .slice D3 l3 f3]) :: isV (.bool true) :: isV (.bool true) :: isV (.bool true) :: isV (.agg #[.int .i64 sl, .slice A1 n1 c1, .slice A2 n2 c2, .slice A3 n3 c3]) :: isSs d :: isV (.agg #[.int .i64 sl, .slice A1 n1 c1, .slice A2 n2 c2, .slice A3 n3 c3]) :: isSs d :: isV (.bool true) :: isV (.bool true) :: isV (.bool true) :: []) (by kernel_rfl) (by kernel_rfl) (fun _ _ h9 hb9 => h9.next hb9) HX5.out ?plan ?fin
  case plan =>
    refine PlanI.cons (OpI.mkV fun a wx hs hf hp => ?_) ?_
    · exact StepI.callV rfl (wants_none rfl) rfl (by kernel_rfl) (HAC.out wx)
    refine PlanI.cons (OpI.mkV fun a wx hs hf hp => ?_) ?_
    · exact StepI.mov rfl (wants_none rfl) (hp 0 30 (by kernel_rfl) rfl)
    refine PlanI.cons (OpI.mkV fun a wx hs hf hp => ?_) ?_
    · exact StepI.load rfl (wants_at rfl rfl (hp 1 31 (by kernel_rfl) rfl) (r := true) rfl) (hf.keep 4 (by kernel_rfl)) (run_load_blk hs.l.bs (n := 5) rfl (by kernel_rfl)) rfl
    refine PlanI.cons (OpI.mkV fun a wx hs hf hp => ?_) ?_
    · exact StepI.load rfl (wants_at rfl rfl (hp 1 31 (by kernel_rfl) rfl) (r := true) rfl) (hf.keep 5 (by kernel_rfl)) (run_load_blk hs.l.bt (n := 5) rfl (by kernel_rfl)) rfl
    refine PlanI.cons (OpI.mkV fun a wx hs hf hp => ?_) ?_
    · exact StepI.callV rfl (wants_at rfl rfl (hp 1 31 (by kernel_rfl) rfl) (r := true) rfl) (args2 (hp 2 32 (by kernel_rfl) rfl) (hp 3 33 (by kernel_rfl) rfl)) (by kernel_rfl) (HCM.out wx)
    refine PlanI.cons (OpI.mkV fun a wx hs hf hp => ?_) ?_
    · exact StepI.mov rfl (wants_at rfl rfl (hp 1 31 (by kernel_rfl) rfl) (r := true) rfl) (hf.keep 7 (by kernel_rfl))
    refine PlanI.cons (OpI.mkV fun a wx hs hf hp => ?_) ?_
    · exact StepI.bin rfl (wants_at rfl rfl (hp 1 31 (by kernel_rfl) rfl) (r := true) rfl) (hp 4 34 (by kernel_rfl) rfl) (hp 5 35 (by kernel_rfl) rfl) (eqI_same _ _ _ wx) rfl
    refine PlanI.cons (OpI.mkV fun a wx hs hf hp => ?_) ?_
    · exact StepI.pick (b := true) rfl (wants_none rfl) (hp 1 31 (by kernel_rfl) rfl) (hp 6 36 (by kernel_rfl) rfl)
    refine PlanI.cons (OpI.mkV fun a wx hs hf hp => ?_) ?_
    · exact StepI.mov rfl (wants_none rfl) (hp 7 37 (by kernel_rfl) rfl)
    refine PlanI.cons (OpI.mkV fun a wx hs hf hp => ?_) ?_
    · exact StepI.load rfl (wants_at rfl rfl (hp 8 38 (by kernel_rfl) rfl) (r := true) rfl) (hf.keep 4 (by kernel_rfl)) (run_load_blk hs.l.bs (n := 5) rfl (by kernel_rfl)) rfl
    refine PlanI.cons (OpI.mkV fun a wx hs hf hp => ?_) ?_
    · exact StepI.callV rfl (wants_at rfl rfl (hp 8 38 (by kernel_rfl) rfl) (r := true) rfl) (args1 (hp 9 39 (by kernel_rfl) rfl)) (by kernel_rfl) (HFO.out wx)
    refine PlanI.cons (OpI.mkV fun a wx hs hf hp => ?_) ?_
    · exact StepI.load rfl (wants_at rfl rfl (hp 8 38 (by kernel_rfl) rfl) (r := true) rfl) (hf.keep 4 (by kernel_rfl)) (run_load_blk hs.l.bs (n := 5) rfl (by kernel_rfl)) rfl
    refine PlanI.cons (OpI.mkV fun a wx hs hf hp => ?_) ?_
    · exact StepI.callV rfl (wants_at rfl rfl (hp 8 38 (by kernel_rfl) rfl) (r := true) rfl) (args1 (hp 11 41 (by kernel_rfl) rfl)) (by kernel_rfl) (HFI.out wx)
    refine PlanI.cons (OpI.mkV fun a wx hs hf hp => ?_) ?_
    · exact StepI.bin rfl (wants_at rfl rfl (hp 8 38 (by kernel_rfl) rfl) (r := true) rfl) (hp 10 40 (by kernel_rfl) rfl) (hp 12 42 (by kernel_rfl) rfl) (eqB_same _ _ _ wx) rfl
    refine PlanI.cons (OpI.mkV fun a wx hs hf hp => ?_) ?_
    · exact StepI.pick (b := true) rfl (wants_none rfl) (hp 8 38 (by kernel_rfl) rfl) (hp 13 43 (by kernel_rfl) rfl)
    refine PlanI.cons (OpI.mkV fun a wx hs hf hp => ?_) ?_
    · exact StepI.mov rfl (wants_none rfl) (hp 14 44 (by kernel_rfl) rfl)
    refine PlanI.cons (OpI.mkV fun a wx hs hf hp => ?_) ?_
    · exact StepI.mov rfl (wants_at rfl rfl (hp 15 45 (by kernel_rfl) rfl) (r := true) rfl) (hf.keep 9 (by kernel_rfl))
    refine PlanI.cons (OpI.mkV fun a wx hs hf hp => ?_) ?_
    · exact StepI.mov rfl (wants_at rfl rfl (hp 15 45 (by kernel_rfl) rfl) (r := true) rfl) (hf.keep 11 (by kernel_rfl))
    refine PlanI.cons (OpI.mkV fun a wx hs hf hp => ?_) ?_
    · exact StepI.bin rfl (wants_at rfl rfl (hp 15 45 (by kernel_rfl) rfl) (r := true) rfl) (hp 16 46 (by kernel_rfl) rfl) (hp 17 47 (by kernel_rfl) rfl) (eqE_same _ _ _ wx) rfl
    refine PlanI.cons (OpI.mkV fun a wx hs hf hp => ?_) ?_
    · exact StepI.pick (b := true) rfl (wants_none rfl) (hp 15 45 (by kernel_rfl) rfl) (hp 18 48 (by kernel_rfl) rfl)
    refine PlanI.cons (OpI.mkV fun a wx hs hf hp => ?_) ?_
    · exact StepI.mov rfl (wants_none rfl) (hp 19 49 (by kernel_rfl) rfl)
    refine PlanI.cons (OpI.mkV fun a wx hs hf hp => ?_) ?_
    · exact StepI.load rfl (wants_at rfl rfl (hp 20 50 (by kernel_rfl) rfl) (r := true) rfl) (hf.keep 3 (by kernel_rfl)) (run_load_blk hs.l.b0 (n := 4) rfl (by kernel_rfl)) rfl
    refine PlanI.cons (OpI.mkV fun a wx hs hf hp => ?_) ?_
    · exact StepI.load rfl (wants_at rfl rfl (hp 20 50 (by kernel_rfl) rfl) (r := true) rfl) (hf.keep 4 (by kernel_rfl)) (run_load_blk hs.l.bs (n := 5) rfl (by kernel_rfl)) rfl
    refine PlanI.cons (OpI.mkV fun a wx hs hf hp => ?_) ?_
    · exact StepI.callV rfl (wants_at rfl rfl (hp 20 50 (by kernel_rfl) rfl) (r := true) rfl) (args2 (hp 21 51 (by kernel_rfl) rfl) (hp 22 52 (by kernel_rfl) rfl)) (by kernel_rfl) (HCA.out wx hs.l.bel)
    refine PlanI.cons (OpI.mkV fun a wx hs hf hp => ?_) ?_
    · exact StepI.mov rfl (wants_at rfl rfl (hp 20 50 (by kernel_rfl) rfl) (r := true) rfl) (hf.keep 11 (by kernel_rfl))
    refine PlanI.cons (OpI.mkV fun a wx hs hf hp => ?_) ?_
    · exact StepI.bin rfl (wants_at rfl rfl (hp 20 50 (by kernel_rfl) rfl) (r := true) rfl) (hp 23 53 (by kernel_rfl) rfl) (hp 24 54 (by kernel_rfl) rfl) (eqE_same _ _ _ wx) rfl
    refine PlanI.cons (OpI.mkV fun a wx hs hf hp => ?_) ?_
    · exact StepI.pick (b := true) rfl (wants_none rfl) (hp 20 50 (by kernel_rfl) rfl) (hp 25 55 (by kernel_rfl) rfl)
    refine PlanI.cons (OpI.mkV fun a wx hs hf hp => ?_) ?_
    · exact StepI.mov rfl (wants_none rfl) (hp 26 56 (by kernel_rfl) rfl)
    refine PlanI.cons (OpI.mkV fun a wx hs hf hp => ?_) ?_
    · exact StepI.load rfl (wants_at rfl rfl (hp 27 57 (by kernel_rfl) rfl) (r := true) rfl) (hf.keep 8 (by kernel_rfl)) (run_load_blk hs.a.1 (n := 4) rfl (by kernel_rfl)) rfl
    refine PlanI.cons (OpI.mkV fun a wx hs hf hp => ?_) ?_
    · exact StepI.load rfl (wants_at rfl rfl (hp 27 57 (by kernel_rfl) rfl) (r := true) rfl) (hf.keep 10 (by kernel_rfl)) (run_load_blk hs.b.1 (n := 4) rfl (by kernel_rfl)) rfl
    refine PlanI.cons (OpI.mkV fun a wx hs hf hp => ?_) ?_
    · exact StepI.callV rfl (wants_at rfl rfl (hp 27 57 (by kernel_rfl) rfl) (r := true) rfl) (args2 (hp 28 58 (by kernel_rfl) rfl) (hp 29 59 (by kernel_rfl) rfl)) (by kernel_rfl) (HSM.out D ⟨B1, m1, e1, B2, m2, e2, B3, m3, e3⟩ ⟨D1, l1, f1, D2, l2, f2, D3, l3, f3⟩ wx hs.a.2 hs.b.2)
    refine PlanI.cons (OpI.mkV fun a wx hs hf hp => ?_) ?_
    · exact StepI.pick (b := true) rfl (wants_none rfl) (hp 27 57 (by kernel_rfl) rfl) (hp 30 60 (by kernel_rfl) rfl)
    refine PlanI.cons (OpI.mkV fun a wx hs hf hp => ?_) ?_
    · exact StepI.mov rfl (wants_none rfl) (hp 31 61 (by kernel_rfl) rfl)
    refine PlanI.cons (OpI.mkV fun a wx hs hf hp => ?_) ?_
    · exact StepI.load rfl (wants_at rfl rfl (hp 32 62 (by kernel_rfl) rfl) (r := true) rfl) (hf.keep 3 (by kernel_rfl)) (run_load_blk hs.l.b0 (n := 4) rfl (by kernel_rfl)) rfl
    refine PlanI.cons (OpI.mk isSs_st fun a wx hs hf hp => ?_) ?_
    · exact StepI.call rfl (wants_at rfl rfl (hp 32 62 (by kernel_rfl) rfl) (r := true) rfl) (args1 (hp 33 63 (by kernel_rfl) rfl)) (by kernel_rfl) (ss_told (HST.out wx hs.l.bel))
    refine PlanI.cons (OpI.mkV fun a wx hs hf hp => ?_) ?_
    · exact StepI.load rfl (wants_at rfl rfl (hp 32 62 (by kernel_rfl) rfl) (r := true) rfl) (hf.keep 3 (by kernel_rfl)) (run_load_blk hs.l.b0 (n := 4) rfl (by kernel_rfl)) rfl
    refine PlanI.cons (OpI.mk isSs_st fun a wx hs hf hp => ?_) ?_
    · exact StepI.call rfl (wants_at rfl rfl (hp 32 62 (by kernel_rfl) rfl) (r := true) rfl) (args1 (hp 35 65 (by kernel_rfl) rfl)) (by kernel_rfl) (ss_told (HSO.out wx hs.l.bel))
    refine PlanI.cons (OpI.mkV fun a wx hs hf hp => ?_) ?_
    · obtain ⟨la, A9, c9, e9, g1, g2, g3, g4, g5⟩ := (show isSs d (a.eval (.tmp 64)) wx from (hp 34 64 (by kernel_rfl) rfl))
      obtain ⟨lb, A8, c8, e8, g6, g7, g8, g9, g10⟩ := (show isSs d (a.eval (.tmp 66)) wx from (hp 36 66 (by kernel_rfl) rfl))
      obtain rfl := isSs_eq g4 g5 g9 g10
      unfold maxLen at g2
      exact StepI.callV rfl (wants_at rfl rfl (hp 32 62 (by kernel_rfl) rfl) (r := true) rfl) (args2 e9 e8) (by kernel_rfl) (equalT_any la A9 A8 _ c9 c8 wx rfl (by omega) g3 g8)
    refine PlanI.cons (OpI.mkV fun a wx hs hf hp => ?_) ?_
    · exact StepI.pick (b := true) rfl (wants_none rfl) (hp 32 62 (by kernel_rfl) rfl) (hp 37 67 (by kernel_rfl) rfl)
    refine PlanI.cons (OpI.mkV fun a wx hs hf hp => ?_) ?_
    · exact StepI.asg rfl (wants_none rfl) (hp 38 68 (by kernel_rfl) rfl)
    exact PlanI.nil
  case fin =>
    intro a wx hs hf hv
    obtain ⟨v64, h64⟩ : ∃ v, a.tmps.getD 64 undef = v := ⟨_, rfl⟩
    obtain ⟨v66, h66⟩ : ∃ v, a.tmps.getD 66 undef = v := ⟨_, rfl⟩
    have hput := hf.puts ((30, .bool true) :: (31, .bool true) :: (32, .agg #[.int .i64 k, .int .i64 a0, .int .i64 q, .int .i64 s0, .int .i64 t0]) :: (33, .agg #[.int .i64 k2, .int .i64 a2, .int .i64 q2, .int .i64 s2, .int .i64 t2]) :: (34, .int .i64 (1)) :: (35, .int .i64 (1)) :: (36, .bool true) :: (37, .bool true) :: (38, .bool true) :: (39, .agg #[.int .i64 k, .int .i64 a0, .int .i64 q, .int .i64 s0, .int .i64 t0]) :: (40, .bool fz) :: (41, .agg #[.int .i64 k, .int .i64 a0, .int .i64 q, .int .i64 s0, .int .i64 t0]) :: (42, .bool fz) :: (43, .bool true) :: (44, .bool true) :: (45, .bool true) :: (46, .int .i64 ce) :: (47, .int .i64 ce) :: (48, .bool true) :: (49, .bool true) :: (50, .bool true) :: (51, .agg #[.int .i64 sl, .slice A1 n1 c1, .slice A2 n2 c2, .slice A3 n3 c3]) :: (52, .agg #[.int .i64 k, .int .i64 a0, .int .i64 q, .int .i64 s0, .int .i64 t0]) :: (53, .int .i64 ce) :: (54, .int .i64 ce) :: (55, .bool true) :: (56, .bool true) :: (57, .bool true) :: (58, .agg #[.int .i64 D.sl, .slice B1 m1 e1, .slice B2 m2 e2, .slice B3 m3 e3]) :: (59, .agg #[.int .i64 D.sl, .slice D1 l1 f1, .slice D2 l2 f2, .slice D3 l3 f3]) :: (60, .bool true) :: (61, .bool true) :: (62, .bool true) :: (63, .agg #[.int .i64 sl, .slice A1 n1 c1, .slice A2 n2 c2, .slice A3 n3 c3]) :: (64, v64) :: (65, .agg #[.int .i64 sl, .slice A1 n1 c1, .slice A2 n2 c2, .slice A3 n3 c3]) :: (66, v66) :: (67, .bool true) :: (68, .bool true) :: (6, .bool true) :: []) (by kernel_rfl) (List.forall_mem_cons.2 ⟨hv 0 30 rfl, (List.forall_mem_cons.2 ⟨hv 1 31 rfl, (List.forall_mem_cons.2 ⟨hv 2 32 rfl, (List.forall_mem_cons.2 ⟨hv 3 33 rfl, (List.forall_mem_cons.2 ⟨hv 4 34 rfl, (List.forall_mem_cons.2 ⟨hv 5 35 rfl, (List.forall_mem_cons.2 ⟨hv 6 36 rfl, (List.forall_mem_cons.2 ⟨hv 7 37 rfl, (List.forall_mem_cons.2 ⟨hv 8 38 rfl, (List.forall_mem_cons.2 ⟨hv 9 39 rfl, (List.forall_mem_cons.2 ⟨hv 10 40 rfl, (List.forall_mem_cons.2 ⟨hv 11 41 rfl, (List.forall_mem_cons.2 ⟨hv 12 42 rfl, (List.forall_mem_cons.2 ⟨hv 13 43 rfl, (List.forall_mem_cons.2 ⟨hv 14 44 rfl, (List.forall_mem_cons.2 ⟨hv 15 45 rfl, (List.forall_mem_cons.2 ⟨hv 16 46 rfl, (List.forall_mem_cons.2 ⟨hv 17 47 rfl, (List.forall_mem_cons.2 ⟨hv 18 48 rfl, (List.forall_mem_cons.2 ⟨hv 19 49 rfl, (List.forall_mem_cons.2 ⟨hv 20 50 rfl, (List.forall_mem_cons.2 ⟨hv 21 51 rfl, (List.forall_mem_cons.2 ⟨hv 22 52 rfl, (List.forall_mem_cons.2 ⟨hv 23 53 rfl, (List.forall_mem_cons.2 ⟨hv 24 54 rfl, (List.forall_mem_cons.2 ⟨hv 25 55 rfl, (List.forall_mem_cons.2 ⟨hv 26 56 rfl, (List.forall_mem_cons.2 ⟨hv 27 57 rfl, (List.forall_mem_cons.2 ⟨hv 28 58 rfl, (List.forall_mem_cons.2 ⟨hv 29 59 rfl, (List.forall_mem_cons.2 ⟨hv 30 60 rfl, (List.forall_mem_cons.2 ⟨hv 31 61 rfl, (List.forall_mem_cons.2 ⟨hv 32 62 rfl, (List.forall_mem_cons.2 ⟨hv 33 63 rfl, (List.forall_mem_cons.2 ⟨h64, (List.forall_mem_cons.2 ⟨hv 35 65 rfl, (List.forall_mem_cons.2 ⟨h66, (List.forall_mem_cons.2 ⟨hv 37 67 rfl, (List.forall_mem_cons.2 ⟨hv 38 68 rfl, (List.forall_mem_cons.2 ⟨hv 39 6 rfl, (by intro p hp; cases hp)⟩)⟩)⟩)⟩)⟩)⟩)⟩)⟩)⟩)⟩)⟩)⟩)⟩)⟩)⟩)⟩)⟩)⟩)⟩)⟩)⟩)⟩)⟩)⟩)⟩)⟩)⟩)⟩)⟩)⟩)⟩)⟩)⟩)⟩)⟩)⟩)⟩)⟩)⟩)⟩)
    clear hf hv
    clear h64
    clear h66
    subst hput
    simp only [puts, Act.put, List.setIfInBounds_toArray, List.set_cons_zero, List.set_cons_succ]
    have HX8 := Lib.hid hs.l.bel
    clear hs HX5
    go_wp2_with fail
    go_ret
    exact ⟨rfl, HX8.out⟩
theorem actSteps_core (d : Wd) (r : Raw) (s t : Stp) (w : World) (h : WOk w r d) (hlo : ∀ x ∈ d.pl, -9223372036854775808 ≤ x) :
    Calls Try.prog 8 #[wv d.sl r, sv s, sv t] w fun e w' => e = .returned (.bool true) ∧ Below w.heap.size w w' := by
  have ha : scmp t s = - scmp s t := lexC_anti (lstS s) (lstS t)
  rcases lexC_cases (lstS s) (lstS t) rfl with h9 | ⟨_, h9⟩ | h9
  · have hc : scmp s t = -1 := h9
    exact actSteps_less d r s t w h hlo (decide_eq_true (by omega)) (decide_eq_false (by omega)) hc
  · have hc : scmp s t = 0 := h9
    exact actSteps_same d r s t w h hlo (decide_eq_false (by omega)) (decide_eq_false (by omega)) hc
  · have hc : scmp s t = 1 := h9
    exact actSteps_more d r s t w h hlo (decide_eq_false (by omega)) (decide_eq_true (by omega)) hc
set_option maxRecDepth 40000 in
theorem actSteps_walk {H : Type} {enc : TypeId × Value → H} (W : World) (v0 v1 v2 : Value) {d0 d1 d2 : DataW H} {p0 p1 p2 : List MemPlace} {base : Nat}
    (h0 : DataW.Trod enc Try.prog W 0 (fun _ => true) true 25 v0 d0 p0) (h1 : DataW.Trod enc Try.prog W 0 (fun _ => true) true 39 v1 d1 p1) (h2 : DataW.Trod enc Try.prog W 0 (fun _ => true) true 39 v2 d2 p2)
    (o0 : Value.okWide Try.prog W .any base 25 v0) (o1 : Value.okWide Try.prog W .any base 39 v1) (o2 : Value.okWide Try.prog W .any base 39 v2)
    (w0 : Light Try.prog 25 d0) (w1 : Light Try.prog 39 d1) (w2 : Light Try.prog 39 d2) :
    Calls Try.prog 8 #[v0, v1, v2] W fun e W' => e = .returned (.bool true) ∧ Below W.heap.size W W' := by
  obtain ⟨d, r, rfl, hok, _, hpl, _⟩ := open_world h0 o0 w0
  obtain ⟨s, rfl, _⟩ := open_step h1 o1
  obtain ⟨t, rfl, _⟩ := open_step h2 o2
  exact actSteps_core d r s t W hok (fun x hx => (hpl x hx).1)
end Go.Proofs.Ytnaiflokmihmeaa
