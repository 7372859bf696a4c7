/- The law SweepHolds (printed by sww.py). -/
import Derived.Test.YtmchjmflkaiakaaGreatDoorSwC
import Derived.Test.YtmchjmflkaiakaaGreatDoorAp3
import Derived.Deep.LoopGhost
import Derived.OwnWalk

namespace Go.Proofs.YtmchjmflkaiakaaGreatDoor
open Go.RowKit
set_option linter.unusedVariables false
set_option linter.unusedSimpArgs false

theorem tu_rz {m : Nat} {p q c0 c1 s0 s1 : Rat} (hx : Rz m p) (hy : Rz m q) (hc0 : Rz m c0) (hc1 : Rz m c1) (hs0 : Rz m s0) (hs1 : Rz m s1) : Rz (8 * m + 1) (tuL c0 c1 s0 s1 p q) ∧ Rz (8 * m + 1) (tuH c0 c1 s0 s1 p q) ∧ Rz (8 * m + 1) (tvL c0 c1 s0 s1 p q) ∧ Rz (8 * m + 1) (tvH c0 c1 s0 s1 p q) := by
 have q1 := mLo_rz hx hx hc0 hc1
 have q2 := mHi_rz hx hx hc0 hc1
 have q3 := mLo_rz hx hx hs0 hs1
 have q4 := mHi_rz hx hx hs0 hs1
 have r1 := mLo_rz hy hy hc0 hc1
 have r2 := mHi_rz hy hy hc0 hc1
 have r3 := mLo_rz hy hy hs0 hs1
 have r4 := mHi_rz hy hy hs0 hs1
 exact ⟨(q1.sub r4).more (by omega), (q2.sub r3).more (by omega), (q3.add r1).more (by omega), (q4.add r2).more (by omega)⟩
theorem slcV_3 {o : Oper} {a : Act} {X0 X1 X2 : Operand} {x0 y0 x1 y1 x2 y2 : Rat} (ho : o.op = .buildSlice 24 3 #[(0, X0), (1, X1), (2, X2)]) (h0 : a.eval X0 = .agg (VC x0 y0)) (h1 : a.eval X1 = .agg (VC x1 y1)) (h2 : a.eval X2 = .agg (VC x2 y2)) (w : World) :
  (execOp a.eval o).run Tryz.prog w = .ok (.value (.slice (some ⟨w.heap.size, 0, none⟩) 3 3)) (w.alloc (.cells (PC [(x0, y0), (x1, y1), (x2, y2)]) 29)) := by
 have e : PC [(x0, y0), (x1, y1), (x2, y2)] = #[.bool (decide (x0.num < 0)), .string (S x0.num.natAbs), .string (S x0.den), .bool (decide (y0.num < 0)), .string (S y0.num.natAbs), .string (S y0.den), .bool (decide (x1.num < 0)), .string (S x1.num.natAbs), .string (S x1.den), .bool (decide (y1.num < 0)), .string (S y1.num.natAbs), .string (S y1.den), .bool (decide (x2.num < 0)), .string (S x2.num.natAbs), .string (S x2.den), .bool (decide (y2.num < 0)), .string (S y2.num.natAbs), .string (S y2.den)] := rfl
 rw [e]
 unfold VC at h0 h1 h2
 unfold execOp
 simp only [ho, List.map_toArray, List.map_cons, List.map_nil, h0, h1, h2]
 go_simp
theorem run_neB (x y z u : Rat) (X Y : Operand) (w : World) :
  ((do eqGuard .neq 38 X Y (.agg (BC x y z u)) (.agg (BC x y z u)); binOp .neq 38 (.agg (BC x y z u)) (.agg (BC x y z u)) : Sem Value)).run Tryz.prog w = .ok (.bool false) w := by
 unfold BC
 generalize decide (x.num < 0) = s1
 generalize decide (y.num < 0) = s2
 generalize decide (z.num < 0) = s3
 generalize decide (u.num < 0) = s4
 generalize S x.num.natAbs = a1
 generalize S x.den = a2
 generalize S y.num.natAbs = a3
 generalize S y.den = a4
 generalize S z.num.natAbs = a5
 generalize S z.den = a6
 generalize S u.num.natAbs = a7
 generalize S u.den = a8
 go_simp
section
variable {ops : Array Oper} {W : World} {l : List Own} {Q : Exit → Act → World → Prop} {gs : List Nat} {k : Nat} {o : Oper} {rest : List Oper} {a : Act} {R : Reg}
theorem Seq.neB {x y z u : Rat} {X Y : Operand} {U : TypeId} (ho : o.op = .binOp .neq 38 X Y U) (hk : kd gs k o = .val) (hw : wants ops o a = true) (hx : a.eval X = .agg (BC x y z u)) (hy : a.eval Y = .agg (BC x y z u))
  (h : Seq Tryz.prog ops Q W l gs (k + 1) rest (a.put o.dst (.bool false)) R) : Seq Tryz.prog ops Q W l gs k (o :: rest) a R :=
 Seq.pure hk hw (fun w => by
  unfold execOp
  simp only [ho, hx, hy, Sem.run_bind, run_neB x y z u X Y w, Result.andThen_ok, Sem.run_pure]) h
end
theorem box3_q {k : Nat} {z0 z1 z2 z3 q1 q2 : Rat} {W : World} {l : List Own} (hT : Tab W) (Z0 : Rz k z0) (Z1 : Rz k z1) (Z2 : Rz k z2) (Z3 : Rz k z3) (Zq1 : Rz k q1) (Zq2 : Rz k q2) (hx : z0 ≤ z2 ∧ z0 ≤ q1 ∧ q1 ≤ z2) (hy : z1 ≤ z3 ∧ z1 ≤ q2 ∧ q2 ≤ z3) (hk : k ≤ 100000000000) (g : Nat) (w : World) (h : St W l w) (hg : Blk w g 29 (PC [(z0, z1), (z2, z3), (q1, q2)])) :
  Calls Tryz.prog 22 #[.slice (some ⟨g, 0, none⟩) 3 3] w fun e w' => e = .returned (.agg (BC z0 z1 z2 z3)) ∧ Below w.heap.size w w' := by
 have hz : Pz k [(z0, z1), (z2, z3), (q1, q2)] := by
  intro p hp
  simp at hp
  rcases hp with rfl | rfl | rfl
  ·exact ⟨Z0, Z1⟩
  ·exact ⟨Z2, Z3⟩
  ·exact ⟨Zq1, Zq2⟩
 have h9 := box_y (n := 3) hT hz rfl ⟨by omega, by omega, trivial⟩ hk g w h hg
 obtain ⟨a1, a2⟩ := mn3 hx.1 hx.2.1 hx.2.2
 obtain ⟨b1, b2⟩ := mn3 hy.1 hy.2.1 hy.2.2
 have e1 : mnF (px [(z0, z1), (z2, z3), (q1, q2)]) (3 - 1) = z0 := a1
 have e2 : mnF (py [(z0, z1), (z2, z3), (q1, q2)]) (3 - 1) = z1 := b1
 have e3 : mxF (px [(z0, z1), (z2, z3), (q1, q2)]) (3 - 1) = z2 := a2
 have e4 : mxF (py [(z0, z1), (z2, z3), (q1, q2)]) (3 - 1) = z3 := b2
 have e5 : ([(z0, z1), (z2, z3), (q1, q2)] : Pts).length = 3 := rfl
 rw [e5, e1, e2, e3, e4] at h9
 exact h9
set_option maxHeartbeats 8000000 in
set_option maxRecDepth 20000 in
theorem sweepHolds_int {A0 : Option Addr} {n0 cc0 : Nat} {xs0 : List Int} (x y u v k : Int) (w : World) (hi0 : Ints w A0 n0 cc0 xs0) (hx0 : -9223372036854775808 ≤ x) (hx1 : x ≤ 9223372036854775807) (hy0 : -9223372036854775808 ≤ y) (hy1 : y ≤ 9223372036854775807) (hu0 : -9223372036854775808 ≤ u) (hu1 : u ≤ 9223372036854775807) (hv0 : -9223372036854775808 ≤ v) (hv1 : v ≤ 9223372036854775807) (hk0 : -9223372036854775808 ≤ k) (hk1 : k ≤ 9223372036854775807) (hT : Tab w) :
  Calls Tryz.prog 3 #[.slice A0 n0 cc0, .int .i64 x, .int .i64 y, .int .i64 u, .int .i64 v, .int .i64 k] w fun e w' => e = .returned (.bool true) ∧ Below w.heap.size w w' := by
 have IX := Lib.hid (And.intro hx0 hx1); clear hx0 hx1
 have IY := Lib.hid (And.intro hy0 hy1); clear hy0 hy1
 have IU := Lib.hid (And.intro hu0 hu1); clear hu0 hu1
 have IV := Lib.hid (And.intro hv0 hv1); clear hv0 hv1
 have IK := Lib.hid (And.intro hk0 hk1); clear hk0 hk1
 have HI0 := Lib.hid hi0; clear hi0
 have HT := Lib.hid hT; clear hT
 -- the values
 obtain ⟨ps, hps⟩ : ∃ ps, polyQ xs0 = ps := ⟨_, rfl⟩
 obtain ⟨n, hn⟩ : ∃ n, ps.length = n := ⟨_, rfl⟩
 obtain ⟨wx, hwx⟩ : ∃ z, ratMq x = z := ⟨_, rfl⟩
 obtain ⟨wy, hwy⟩ : ∃ z, ratMq y = z := ⟨_, rfl⟩
 obtain ⟨al, hal⟩ : ∃ z, minQ (ratMq u) (ratMq v) = z := ⟨_, rfl⟩
 obtain ⟨ah, hah⟩ : ∃ z, maxQ (ratMq u) (ratMq v) = z := ⟨_, rfl⟩
 obtain ⟨c0, hc0⟩ : ∃ z, fC (maxQ (al * al) (ah * ah)) = z := ⟨_, rfl⟩
 obtain ⟨c1, hc1⟩ : ∃ z, fC (sqLo al ah) = z := ⟨_, rfl⟩
 obtain ⟨s0, hs0⟩ : ∃ z, sLo al ah = z := ⟨_, rfl⟩
 obtain ⟨s1, hs1⟩ : ∃ z, sHi al ah = z := ⟨_, rfl⟩
 obtain ⟨pt, hpt⟩ : ∃ z, ptQ al ah k = z := ⟨_, rfl⟩
 obtain ⟨j, hj⟩ : ∃ j, belowN k 9 = j := ⟨_, rfl⟩
 obtain ⟨t8, ht8⟩ : ∃ z, ((j : Int) : Rat) / ((8 : Int) : Rat) = z := ⟨_, rfl⟩
 obtain ⟨bx, hbx⟩ : ∃ z, wx * t8 = z := ⟨_, rfl⟩
 obtain ⟨by_, hby⟩ : ∃ z, wy * t8 = z := ⟨_, rfl⟩
 obtain ⟨qs, hqs⟩ : ∃ qs, mvP (cosT false pt) (sinT pt) 0 0 ps = qs := ⟨_, rfl⟩
 have hpl := polyQ_len xs0
 rw [hps, hn] at hpl
 have hn3 := hpl.1
 have hn5 := hpl.2
 have HZP : Hid (Pz 2 ps) := Lib.hid (by rw [← hps]; exact polyQ_z xs0)
 have HCV : Hid (Cvx ps) := Lib.hid (by rw [← hps]; exact polyQ_cvx xs0)
 have HZWX : Hid (Rz 2 wx) := Lib.hid (by rw [← hwx]; exact (ratMq_small _).rz.more (by omega))
 have HZWY : Hid (Rz 2 wy) := Lib.hid (by rw [← hwy]; exact (ratMq_small _).rz.more (by omega))
 have HZAL : Hid (Rz 2 al) := Lib.hid (by rw [← hal]; exact Rz.min ((ratMq_small _).rz.more (by omega)) ((ratMq_small _).rz.more (by omega)))
 have HZAH : Hid (Rz 2 ah) := Lib.hid (by rw [← hah]; exact Rz.max ((ratMq_small _).rz.more (by omega)) ((ratMq_small _).rz.more (by omega)))
 have HLE : Hid (al ≤ ah) := Lib.hid (by rw [← hal, ← hah]; exact min_le_max _ _)
 have HIN : Hid (al ≤ pt ∧ pt ≤ ah) := Lib.hid (by rw [← hpt]; exact pt_in k HLE.out)
 have HCI : Hid (c0 ≤ cosT false pt ∧ cosT false pt ≤ c1) := Lib.hid (by rw [← hc0, ← hc1]; exact cos_in HIN.out.1 HIN.out.2)
 have HSI : Hid (s0 ≤ sinT pt ∧ sinT pt ≤ s1) := Lib.hid (by rw [← hs0, ← hs1]; exact sin_in HIN.out.1 HIN.out.2)
 have HZC0 : Hid (Rz (40 * 2 + 40) c0) := Lib.hid (by rw [← hc0]; exact (Rz.fC (mx_nn _ _) (Rz.max (HZAL.out.mul HZAL.out) (HZAH.out.mul HZAH.out))).more (by omega))
 have HZC1 : Hid (Rz (40 * 2 + 40) c1) := Lib.hid (by rw [← hc1]; exact (Rz.fC (sqLo_nonneg _ _) (Rz.sqLo HZAL.out HZAH.out)).more (by omega))
 have HZS0 : Hid (Rz (40 * 2 + 40) s0) := Lib.hid (by rw [← hs0]; exact (Rz.sLo HZAL.out HZAH.out).more (by omega))
 have HZS1 : Hid (Rz (40 * 2 + 40) s1) := Lib.hid (by rw [← hs1]; exact (Rz.sHi HZAL.out HZAH.out).more (by omega))
 have hj9 : j < 9 := by rw [← hj]; exact belowN_lt k (by omega)
 have HZT8 : Hid (Rz 4 t8) := Lib.hid (by rw [← ht8]; exact Rz.div (k := 2) (l := 2) (Rz.lit rfl (by omega)) (Rz.lit rfl (by decide)) (by decide +kernel))
 have HT01 : Hid (0 ≤ t8 ∧ t8 ≤ 1) := Lib.hid (by
  rw [← ht8]
  have e8 : ((8 : Int) : Rat) = 8 := rfl
  have h1 : ((j : Int) : Rat) / 8 * 8 = ((j : Int) : Rat) := Rat.div_mul_cancel (by decide +kernel)
  have h2 : (0 : Rat) ≤ ((j : Int) : Rat) := by exact_mod_cast (Int.natCast_nonneg j)
  have h3 : ((j : Int) : Rat) ≤ 8 := by
   have : (j : Int) ≤ 8 := by omega
   exact_mod_cast this
  rw [e8]
  grind)
 have HZPT : Hid (Rz 40 pt) := Lib.hid (by
  rw [← hpt]
  unfold ptQ
  rw [hj, ht8]
  exact (HZAL.out.add (HZT8.out.mul (HZAH.out.sub HZAL.out))).more (by omega))
 have HZBX : Hid (Rz 6 bx) := Lib.hid (by rw [← hbx]; exact (HZWX.out.mul HZT8.out).more (by omega))
 have HZBY : Hid (Rz 6 by_) := Lib.hid (by rw [← hby]; exact (HZWY.out.mul HZT8.out).more (by omega))
 have HQL : Hid (qs.length = n) := Lib.hid (by rw [← hqs, mvP_len]; exact hn)
 have HZQ : Hid (Pz 4000 qs) := Lib.hid (by
  rw [← hqs]
  intro p hp
  have h9 := mvP_z (k := 40) (ps := ps) (Rz.zero2.more (by omega)) (Rz.zero2.more (by omega)) HZPT.out (fun p hp => ⟨(HZP.out p hp).1.more (by omega), (HZP.out p hp).2.more (by omega)⟩) p hp
  exact ⟨h9.1.more (by omega), h9.2.more (by omega)⟩)
 obtain ⟨z0, hz0⟩ : ∃ z, mnF (fun j => tuL c0 c1 s0 s1 (px ps j) (py ps j)) (n - 1) = z := ⟨_, rfl⟩
 obtain ⟨z1, hz1⟩ : ∃ z, mnF (fun j => tvL c0 c1 s0 s1 (px ps j) (py ps j)) (n - 1) = z := ⟨_, rfl⟩
 obtain ⟨z2, hz2⟩ : ∃ z, mxF (fun j => tuH c0 c1 s0 s1 (px ps j) (py ps j)) (n - 1) = z := ⟨_, rfl⟩
 obtain ⟨z3, hz3⟩ : ∃ z, mxF (fun j => tvH c0 c1 s0 s1 (px ps j) (py ps j)) (n - 1) = z := ⟨_, rfl⟩
 have HTZ : Hid (∀ i, i < n → Rz 961 (tuL c0 c1 s0 s1 (px ps i) (py ps i)) ∧ Rz 961 (tuH c0 c1 s0 s1 (px ps i) (py ps i)) ∧ Rz 961 (tvL c0 c1 s0 s1 (px ps i) (py ps i)) ∧ Rz 961 (tvH c0 c1 s0 s1 (px ps i) (py ps i))) := Lib.hid (fun i hi =>
  tu_rz (m := 120) ((HZP.out.x (show i < ps.length by rw [hn]; exact hi)).more (by omega)) ((HZP.out.y (show i < ps.length by rw [hn]; exact hi)).more (by omega)) HZC0.out HZC1.out HZS0.out HZS1.out)
 have HZ0 : Hid (Rz 4000 z0) := Lib.hid (by rw [← hz0]; exact (mnF_rz (n := n) (fun j hj => (HTZ.out j hj).1) (n - 1) (by omega)).more (by omega))
 have HZ1 : Hid (Rz 4000 z1) := Lib.hid (by rw [← hz1]; exact (mnF_rz (n := n) (fun j hj => (HTZ.out j hj).2.2.1) (n - 1) (by omega)).more (by omega))
 have HZ2 : Hid (Rz 4000 z2) := Lib.hid (by rw [← hz2]; exact (mxF_rz (n := n) (fun j hj => (HTZ.out j hj).2.1) (n - 1) (by omega)).more (by omega))
 have HZ3 : Hid (Rz 4000 z3) := Lib.hid (by rw [← hz3]; exact (mxF_rz (n := n) (fun j hj => (HTZ.out j hj).2.2.2) (n - 1) (by omega)).more (by omega))
 -- every turned corner is within the box
 have HBOX : Hid (∀ i, i < n → (z0 ≤ z2 ∧ z0 ≤ px qs i ∧ px qs i ≤ z2) ∧ (z1 ≤ z3 ∧ z1 ≤ py qs i ∧ py qs i ≤ z3)) := Lib.hid (fun i hi => by
  have h9 := turn_in (p := px ps i) (q := py ps i) HCI.out.1 HCI.out.2 HSI.out.1 HSI.out.2
  have e1 : px qs i = px ps i * cosT false pt - py ps i * sinT pt := by rw [← hqs, px_mv (show i < ps.length by rw [hn]; exact hi)]; exact Rat.zero_add _
  have e2 : py qs i = px ps i * sinT pt + py ps i * cosT false pt := by rw [← hqs, py_mv (show i < ps.length by rw [hn]; exact hi)]; exact Rat.zero_add _
  have a1 := mnF_le (f := fun j => tuL c0 c1 s0 s1 (px ps j) (py ps j)) (m := n - 1) (i := i) (by omega)
  have a2 := le_mxF (f := fun j => tuH c0 c1 s0 s1 (px ps j) (py ps j)) (m := n - 1) (i := i) (by omega)
  have a3 := mnF_le (f := fun j => tvL c0 c1 s0 s1 (px ps j) (py ps j)) (m := n - 1) (i := i) (by omega)
  have a4 := le_mxF (f := fun j => tvH c0 c1 s0 s1 (px ps j) (py ps j)) (m := n - 1) (i := i) (by omega)
  rw [hz0] at a1
  rw [hz2] at a2
  rw [hz1] at a3
  rw [hz3] at a4
  rw [e1, e2]
  grind)
 have HPS := Lib.hid hps
 have HL := Lib.hid hn
 have HWX := Lib.hid hwx
 have HWY := Lib.hid hwy
 have HAL := Lib.hid hal
 have HAH := Lib.hid hah
 have HPT := Lib.hid hpt
 have HJ := Lib.hid hj
 have HT8 := Lib.hid ht8
 have HBX := Lib.hid hbx
 have HBY := Lib.hid hby
 have HQS := Lib.hid hqs
 have HC : Hid (fC (maxQ (al * al) (ah * ah)) = c0 ∧ fC (sqLo al ah) = c1 ∧ c0 ≤ c1) := Lib.hid ⟨hc0, hc1, by have := HCI.out; grind⟩
 have HS : Hid (sLo al ah = s0 ∧ sHi al ah = s1 ∧ s0 ≤ s1) := Lib.hid ⟨hs0, hs1, by have := HSI.out; grind⟩
 have HZZ := Lib.hid (And.intro (And.intro hz0 hz1) (And.intro hz2 hz3))
 clear hps hn hwx hwy hal hah hpt hj ht8 hbx hby hqs hc0 hc1 hs0 hs1 hz0 hz1 hz2 hz3 hpl HTZ
 have HSA : Hid (St w [] w) := Lib.hid St.start
 go_enter Tryz.func3, Tryz.ntmps3
 go_upto_region 1 with (fail)
 refine wp_seq_text [] (StR.no HSA.out) ?_
 refine cL (abegun_q HT.out) ?_
 iterate 2 refine pU ?_
 refine cL (sturmBegun_q HT.out) ?_
 iterate 2 refine pU ?_
 refine Seq.done fun w1 hws => ?_
 have HS1 := hws.st
 clear hws HSA
 go_upto_region 3 with (fail)
 refine rgT [1000001] HS1 ?_
 refine pU ?_
 refine Seq.callFresh (n := some n) (x := (29, PC ps)) rfl rfl rfl rfl (by kernel_rfl) (fun w' h' => poly_G HI0.out HPS.out HL.out w' h'.st) ?_
 intro gp _ _ hgp
 refine nZ ?_
 iterate 2 refine pU ?_
 refine cL (vector_q HT.out IX.out IY.out HWX.out HWY.out) ?_
 iterate 2 refine pU ?_
 refine cL (made_sq HT.out IU.out IV.out HAL.out HAH.out) ?_
 refine aL6 ?_
 intro b14 _ _ hb14
 obtain ⟨_, _, hb14⟩ := Reg.ne2 hb14
 refine nZ ?_
 refine aL6 ?_
 intro b15 _ _ hb15
 obtain ⟨_, _, hb15⟩ := Reg.ne2 hb15
 obtain ⟨_, _, hb15⟩ := Reg.ne2 hb15
 refine nZ ?_
 refine pU ?_
 refine sV (VC_one _ _) ?_
 refine sV (VC_one _ _) ?_
 refine Seq.done fun w3 hws => ?_
 have HS3 := hws.q3 (p := b14) (q := b15) (r := gp)
 simp only [mk]
 clear hws HS1
 go_upto_region 4 with (fail)
 refine wp_seq_textC 2 [] rfl rfl rfl (StR.no HS3) ?_
 refine pU ?_
 refine lV ?_
 refine Seq.done fun w4 hws => ?_
 have HS4 : Hid (St w [(b14, 29, VC wx wy), (b15, 32, VC al ah), (gp, 29, PC ps)] w4) := Lib.hid hws.st
 clear hws HS3
 refine ⟨wants_none rfl, ?_⟩
 refine w_call (vs := #[.slice (some ⟨gp, 0, none⟩) n n, .agg (VC wx wy)]) rfl rfl (by kernel_rfl) (along_R (k := 2) HT.out HZP.out HL.out ⟨hn3, hn5, HCV.out⟩ HZWX.out HZWY.out (by omega) (by omega) gp w4 HS4.out (HS4.out.blk (gp, 29, PC ps) (by repeat first|exact mC|apply mT)).2) fun e w5 h9 => ?_
 obtain ⟨L, hLp, hLm, hbw, hcase⟩ := h9
 have hpt3 : ∀ i, i < n → ps[i]? = some (px ps i, py ps i) := fun i hi => by
  have h8 : i < ps.length := by rw [HL.out]; exact hi
  rw [List.getElem?_eq_getElem h8, getD_pt h8]
 have hin3 : ∀ i, i < n → (px ps i, py ps i) ∈ L := fun i hi => (hLm _).2 (List.mem_append_left _ (List.mem_of_getElem? (hpt3 i hi)))
 have hin4 : ∀ i, i < n → (px ps i + wx, py ps i + wy) ∈ L := fun i hi => (hLm _).2 (List.mem_append_right _ (List.mem_map.2 ⟨(px ps i, py ps i), List.mem_of_getElem? (hpt3 i hi), rfl⟩))
 have hth : 3 ≤ L.length ∧ 3 ≤ (hullL L).length := hull_three hLp (hin3 0 (by omega)) (hin3 1 (by omega)) (hin3 2 (by omega)) (by
  have h8 := HCV.out 0 (by rw [HL.out]; omega) 2 (by omega) (by rw [HL.out]; omega)
  rw [HL.out, Nat.mod_eq_of_lt (show 0 + 1 < n by omega), Nat.mod_eq_of_lt (show 0 + 2 < n by omega)] at h8
  exact h8)
 have hlen10 : L.length ≤ 10 := by
  have h8 := nodup_len (lxl_nodup hLp) (fun x hx => (hLm x).1 hx)
  rw [List.length_append, List.length_map, HL.out] at h8
  omega
 rcases hcase with ⟨h8, _⟩ | ⟨h5, h6, gh, ch, Jh, hgh, he, hbh⟩
 ·exfalso; omega
 obtain ⟨H, hH⟩ : ∃ H, hullL L = H := ⟨_, rfl⟩
 obtain ⟨nh, hnh⟩ : ∃ nh, H.length = nh := ⟨_, rfl⟩
 have HHL : Hid (3 ≤ nh ∧ nh ≤ 64 ∧ Cvx H) := Lib.hid ⟨by rw [← hnh, ← hH]; exact h6, by have := hull_len hLp (by omega); rw [hH, hnh] at this; omega, by rw [← hH]; exact hull_cvx hLp (by omega)⟩
 have HHZ : Hid (Pz 20 H) := Lib.hid (by
  rw [← hH]
  intro p hp
  have h8 := (hLm p).1 (hull_sub hLp (by omega) p hp)
  rcases List.mem_append.1 h8 with h8 | h8
  ·exact ⟨(HZP.out p h8).1.more (by omega), (HZP.out p h8).2.more (by omega)⟩
  ·obtain ⟨q, hq, rfl⟩ := List.mem_map.1 h8
   exact ⟨((HZP.out q hq).1.add HZWX.out).more (by omega), ((HZP.out q hq).2.add HZWY.out).more (by omega)⟩)
 have HHAS : Hid (∀ i, i < n → hasB H (px ps i + bx) (py ps i + by_) = true) := Lib.hid (fun i hi => by
  rw [← hH, ← HBX.out, ← HBY.out]
  exact has_between (hull_has hLp (by omega) (hin3 i hi)) (hull_has hLp (by omega) (hin4 i hi)) HT01.out.1 HT01.out.2)
 rw [hH, hnh] at he
 rw [hH] at hbh
 have HS5 : Hid (St w [(gh, 29, PX Jh H), (b14, 29, VC wx wy), (b15, 32, VC al ah), (gp, 29, PC ps)] w5) := Lib.hid (St.cons (HS4.out.next hbw) (Nat.le_trans HS4.out.below.size hgh) (fun e he9 e9 => by have := (HS4.out.blk e he9).2.lt; omega) hbh)
 have HNH := Lib.hid hnh
 clear hLp hLm hbw hpt3 hin3 hin4 hth hlen10 h5 h6 hgh hbh hH hnh HS4
 refine ⟨_, he, ?_⟩
 clear he
 simp only [Act.put, List.setIfInBounds_toArray, List.set_cons_zero, List.set_cons_succ]
 refine ⟨wants_none rfl, w_mov rfl ?_⟩
 simp only [Act.eval, Act.put, List.setIfInBounds_toArray, List.set_cons_zero, List.set_cons_succ]
 refine ⟨wants_none rfl, w_ext (vs := #[.slice (some ⟨gh, 0, none⟩) nh ch, .int .i64 0]) rfl rfl rfl ?_⟩
 simp only [Act.eval, Act.put, List.setIfInBounds_toArray, List.set_cons_zero, List.set_cons_succ]
 refine ⟨wants_none rfl, w_ext (vs := #[.slice (some ⟨gh, 0, none⟩) nh ch, .int .i64 0]) rfl rfl rfl ?_⟩
 simp only [Act.eval, Act.put, List.setIfInBounds_toArray, List.set_cons_zero, List.set_cons_succ]
 refine ⟨wants_none rfl, st_asg rfl ?_⟩
 simp only [Act.eval, Act.put, List.setIfInBounds_toArray, List.set_cons_zero, List.set_cons_succ]
 refine ⟨wants_none rfl, st_asg rfl ?_⟩
 unfold chainW
 simp only [Act.eval, Act.put, List.setIfInBounds_toArray, List.set_cons_zero, List.set_cons_succ]
 go_upto_region 5 with (fail)
 refine wp_seq_text [] (StR.no HS5.out) ?_
 refine pU ?_
 refine lV ?_
 refine cX rfl rfl (fun w' h' => by have h9 := turned_R (k := 2) HT.out HZP.out HL.out ⟨hn3, hn5, HCV.out⟩ HZAL.out HZAH.out HLE.out HC.out HS.out ⟨HZC0.out, HZC1.out⟩ ⟨HZS0.out, HZS1.out⟩ (by omega) (by omega) gp w' h' (h'.blk (gp, 29, PC ps) (by repeat first|exact mC|apply mT)).2; rw [HZZ.out.1.1, HZZ.out.1.2, HZZ.out.2.1, HZZ.out.2.2] at h9; exact h9) ?_
 iterate 3 refine pU ?_
 refine Seq.alloc rfl rfl rfl (z := .agg #[.bool false, .string ⟨#[]⟩, .string ⟨#[]⟩, .bool false, .string ⟨#[]⟩, .string ⟨#[]⟩, .bool false, .string ⟨#[]⟩, .string ⟨#[]⟩, .bool false, .string ⟨#[]⟩, .string ⟨#[]⟩]) (by kernel_rfl) rfl ?_
 intro b18 _ _ hb18
 refine nZ ?_
 refine sV (BC_one _ _ _ _) ?_
 refine pU ?_
 refine Seq.done fun w6 hws => ?_
 have HS6 := hws.q1 (p := b18)
 clear hws HS5
 go_upto_region 6 with (fail)
 refine rgT [] HS6 ?_
 iterate 6 refine pU ?_
 refine Seq.done fun w7 hws => ?_
 have HS7 : St w [(b18, 38, BC z0 z1 z2 z3), (gh, 29, PX Jh H), (b14, 29, VC wx wy), (b15, 32, VC al ah), (gp, 29, PC ps)] w7 := hws.st
 clear hws HS6
 go_upto_region 8 with (fail)
 refine rgW [] HS7 ?_
 refine lV ?_
 refine pU ?_
 refine cX rfl rfl (below_G (n := 9) IK.out ⟨by omega, by omega⟩ HJ.out) ?_
 refine cX rfl rfl (num_q (m := (j : Int)) (n := 8) HT.out (by omega) (by decide) (by decide) HT8.out) ?_
 refine cX rfl rfl (scale_q (k := 4) HT.out (HZWX.out.more (by omega)) (HZWY.out.more (by omega)) HZT8.out HBX.out HBY.out (by omega)) ?_
 refine aL6 ?_
 intro b20 _ _ hb20
 refine nZ ?_
 refine sV (VC_one _ _) ?_
 refine Seq.done fun w8 hws => ?_
 have HS8 := hws.q1 (p := b20)
 clear hws HS7
 go_upto_region 9 with (fail)
 refine rgT [1000006] HS8 ?_
 refine lV ?_
 refine pU ?_
 refine cX rfl rfl (part_q (k := 2) HT.out HZAL.out HZAH.out IK.out HPT.out (by omega)) ?_
 refine cX rfl rfl (tof_q (k := 40) HT.out HZPT.out rfl (by omega)) ?_
 refine pV (.agg (FZ false pt)) (fun w => bld_FrameZ rfl rfl w) ?_
 refine pU ?_
 refine Seq.callFresh (n := some n) (x := (29, PC qs)) rfl rfl rfl rfl (by kernel_rfl) (fun w' h' => by have h9 := flistz_q (k := 40) (ha := false) HT.out HZPT.out (fun h => by cases h) (fun p hp => ⟨(HZP.out p hp).1.more (by omega), (HZP.out p hp).2.more (by omega)⟩) HL.out (by omega) HQS.out (by omega) (by omega) gp w' h'.st (h'.st.blk (gp, 29, PC ps) (by repeat first|exact mC|apply mT)).2; rw [HQL.out] at h9; exact h9) ?_
 intro gq _ _ hgq
 refine nZ ?_
 refine pU ?_
 refine Seq.done fun w9 hws => ?_
 have HS9 : Hid (St w [(gq, 29, PX [] qs), (b20, 29, VC bx by_), (b18, 38, BC z0 z1 z2 z3), (gh, 29, PX Jh H), (b14, 29, VC wx wy), (b15, 32, VC al ah), (gp, 29, PX [] ps)] w9) := Lib.hid (by
  have h9 := hws.q1 (p := gq)
  rw [PX_nil, PX_nil]
  exact h9)
 simp only [mk]
 clear hws HS8
 go_wp2_with fail
 go_loopg [71] n (fun kx s71 wr => ∃ i : Nat, kx = n - i ∧ s71 = .int .i64 (i : Int) ∧ i ≤ n ∧ Hid (St w [(gq, 29, PX [] qs), (b20, 29, VC bx by_), (b18, 38, BC z0 z1 z2 z3), (gh, 29, PX Jh H), (b14, 29, VC wx wy), (b15, 32, VC al ah), (gp, 29, PX [] ps)] wr))
 case atStart => exact ⟨0, rfl, rfl, Nat.zero_le _, HS9⟩
 case round =>
  clear HS9
  obtain ⟨i, hgk2, rfl, hile, HSR⟩ := hrel
  have HGK2 := Lib.hid hgk2; clear hgk2
  by_cases hin : i < n
  ·have HI := Lib.hid (show i < ps.length by rw [HL.out]; exact hin)
   have HQI := Lib.hid (show i < qs.length by rw [HQL.out]; exact hin)
   have HBI := Lib.hid (HBOX.out i hin)
   have HHI := Lib.hid (HHAS.out i hin)
   have HZVX : Hid (Rz 20 (px ps i + bx)) := Lib.hid (((HZP.out.x HI.out).add HZBX.out).more (by omega))
   have HZVY : Hid (Rz 20 (py ps i + by_)) := Lib.hid (((HZP.out.y HI.out).add HZBY.out).more (by omega))
   have hwi : IntKind.i64.wrap ((i : Int) + 1) = (i : Int) + 1 := IntWalk.i64_in _ (by omega)
   go_upto_region 12 with (fail)
   refine wp_seq_text [] (StR.no HSR.out) ?_
   refine pU ?_
   refine Seq.index (m := 6) i rfl rfl rfl rfl rfl (by kernel_rfl) rfl hin (nZ ?_)
   refine Seq.loadAt rfl rfl rfl rfl (by repeat first|exact mC|apply mT) (n := 6) (cs' := VC (px ps i) (py ps i)) (PX_room HI.out) (by kernel_rfl) (PX_at HI.out) (nZ ?_)
   refine aL6 ?_
   intro b23 _ _ hb23
   refine nZ ?_
   refine pU ?_
   refine sV (VC_one _ _) ?_
   refine Seq.done fun w10 hws => ?_
   have HSB := hws.q1 (p := b23)
   clear hws HSR
   go_upto_region 13 with (fail)
   refine rgW [19] HSB ?_
   refine pU ?_
   refine lA (VC z0 z1) ?_
   refine pU ?_
   refine lA (VC z2 z3) ?_
   iterate 2 refine pU ?_
   refine Seq.index (m := 6) i rfl rfl rfl rfl rfl (by kernel_rfl) rfl hin (nZ ?_)
   refine Seq.loadAt rfl rfl rfl rfl (by repeat first|exact mC|apply mT) (n := 6) (cs' := VC (px qs i) (py qs i)) (PX_room HQI.out) (by kernel_rfl) (PX_at HQI.out) (nZ ?_)
   refine Seq.slice (n := 3) (e := 29) (cs := PC [(z0, z1), (z2, z3), (px qs i, py qs i)]) rfl rfl (fun w => slcV_3 rfl rfl rfl rfl w) ?_
   intro g84 _ _ hg84
   refine nZ ?_
   refine Seq.callAny rfl rfl rfl rfl (by kernel_rfl) (fun w' h' => box3_q (k := 4000) HT.out HZ0.out HZ1.out HZ2.out HZ3.out (HZQ.out.x HQI.out) (HZQ.out.y HQI.out) HBI.out.1 HBI.out.2 (by omega) g84 w' h'.st (h'.reg _ _ _ (by repeat first|exact rS|refine rN ‹_› ?_)).2.2) (nZ ?_)
   refine Seq.alloc rfl rfl rfl (z := .agg #[.bool false, .string ⟨#[]⟩, .string ⟨#[]⟩, .bool false, .string ⟨#[]⟩, .string ⟨#[]⟩, .bool false, .string ⟨#[]⟩, .string ⟨#[]⟩, .bool false, .string ⟨#[]⟩, .string ⟨#[]⟩]) (by kernel_rfl) rfl ?_
   intro b24 _ _ hb24
   obtain ⟨_, _, hb24⟩ := Reg.ne2 hb24
   refine nZ ?_
   refine sV (BC_one _ _ _ _) ?_
   refine Seq.done fun w11 hws => ?_
   have HSC := hws.q1 (p := b24)
   clear hws HSB
   go_upto_region 14 with (fail)
   refine rgT [] HSC ?_
   refine pU ?_
   refine lV ?_
   refine lV ?_
   refine cX rfl rfl (vadd_q (k := 6) HT.out ((HZP.out.x HI.out).more (by omega)) ((HZP.out.y HI.out).more (by omega)) HZBX.out HZBY.out rfl rfl (by omega)) ?_
   refine cX rfl rfl (fun w' h' => phas_x (k := 20) HT.out HHZ.out HNH.out HHL.out HZVX.out HZVY.out HHI.out (by omega) gh w' h' (h'.blk (gh, 29, PX Jh H) (by repeat first|exact mC|apply mT)).2) ?_
   iterate 2 refine pU ?_
   refine lV ?_
   refine lV ?_
   refine Seq.neB rfl rfl rfl rfl rfl (nZ ?_)
   refine pU ?_
   refine Seq.done fun w12 hws => ?_
   have HSD : Hid (St w [(gq, 29, PX [] qs), (b20, 29, VC bx by_), (b18, 38, BC z0 z1 z2 z3), (gh, 29, PX Jh H), (b14, 29, VC wx wy), (b15, 32, VC al ah), (gp, 29, PX [] ps)] w12) := Lib.hid hws.st.drop.drop
   clear hws HSC
   go_wp2_with fail
   go_roundg (n - (i + 1))
   case measure => rw [HGK2.out]; omega
   case rel => exact ⟨i + 1, rfl, by go_num, by omega, HSD⟩
  ·go_wp2_with fail
   go_ret
   exact ⟨rfl, HSR.out.below⟩
end Go.Proofs.YtmchjmflkaiakaaGreatDoor
