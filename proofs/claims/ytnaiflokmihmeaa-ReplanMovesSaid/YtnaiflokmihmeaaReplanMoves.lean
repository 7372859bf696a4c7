/- The law ReplanMoves. -/
import Derived.Test.YtnaiflokmihmeaaReC
import Derived.Test.YtnaiflokmihmeaaActRuns
namespace Go.Proofs.Ytnaiflokmihmeaa
open Go.RowKit Go.ChangeShapes Go.WideShapes Go.Deep
set_option linter.unusedVariables false
set_option linter.unusedSimpArgs false

set_option maxHeartbeats 4000000 in
set_option maxRecDepth 20000 in
theorem replanMoves_core (d : Wd) (r : Raw) (part place : Int) (xs ys : List Stp) (A B : Option Addr) (n c m e : Nat) (w : World) (hn : n = xs.length) (hm : m = ys.length) (hn2 : n * 40 ≤ 140737488351232) (hm2 : m * 40 ≤ 140737488351232) (hc : n ≤ c) (h : WOk w r d) (hs : StepsAt w w.heap.size A xs) (hs' : StepsAt w w.heap.size B ys) (hlo : ∀ x ∈ d.pl, -9223372036854775808 ≤ x) :
    Calls Try.prog 4 #[wv d.sl r, .int .i64 part, .int .i64 place, .slice A n c, .slice B m e] w fun e w' => e = .returned (.bool true) ∧ Below w.heap.size w w' := by
  have HMV := Lib.hid (fun W (hb : Below w.heap.size w W) => moved_any d r part place W (h.next hb))
  have HWF := Lib.hid (fun W (hb : Below w.heap.size w W) => wfault_any d r W (h.next hb) hlo)
  have HRO := Lib.hid (fun W (hb : Below w.heap.size w W) => runOf_any d r xs A n c W hn hn2 hc (h.next hb) (hs.next hb) hlo)
  have HFA := Lib.hid (fun W (hb : Below w.heap.size w W) => far_any d r xs A n c W hn hn2 hc (h.next hb) (hs.next hb))
  have HCO := Lib.hid (fun W (hb : Below w.heap.size w W) => common_any xs ys A B n c m e W hn hm hn2 hm2 (hs.next hb) (hs'.next hb))
  have HS0 := Lib.hid (W1S.start w d.sl r)
  have HH := Lib.hid h
  have HX := Lib.hid hn
  have HY := Lib.hid hm
  have HXS := Lib.hid hs
  have HYS := Lib.hid hs'
  clear hn hm h hs hs' hlo
  unfold MvPost at HMV
  unfold RunPost at HRO
  generalize hE : mvE d part place = E at *
  generalize hD : mvD d part place = D at *
  have HE := Lib.hid hE
  have HD := Lib.hid hD
  clear hE hD
  generalize runE d xs = R at *
  obtain ⟨RD, rj, re⟩ := R
  obtain ⟨A1, n1, c1, A2, n2, c2, A3, n3, c3⟩ := r
  unfold wv wcs
  unfold wv wcs at HMV HWF HRO HFA
  unfold wcs at HS0
  dsimp only at HMV HWF HRO HFA HS0 ⊢
  generalize hsl : d.sl = sl at *
  have HSL := Lib.hid hsl
  clear hsl
  go_enter Try.func4, Try.ntmps4
  go_wp2_with fail
  generalize World.alloc w _ = w1 at *
  obtain ⟨k0, k1, k2, k3⟩ := HS0.out.all
  dsimp only at k0 k1 k2 k3
  go_wp2_with fail
  refine (HMV.out _ HS0.out.bel).mono ?_
  rintro x w2 ⟨⟨B1, m1, e1, B2, m2, e2, B3, m3, e3⟩, rfl, ho2, hb2⟩
  have HN3 := Lib.hid (NxS.of (HS0.out.next hb2) ho2)
  clear ho2 hb2 k0 k1 k2 k3 HS0 HMV
  unfold wcs at HN3
  dsimp only at HN3 ⊢
  go_upto_region 2 with (fail)
  generalize World.alloc w2 _ = w3 at *
  generalize w2.heap.size = pa at *
  obtain ⟨k0, k1, k2, k3⟩ := HN3.out.four
  dsimp only at k0 k1 k2 k3
  go_wp2_with fail
  refine (HWF.out _ HN3.out.bel).mono ?_
  rintro x w4 ⟨rfl, hb4⟩
  have HN4 := Lib.hid (HN3.out.next hb4)
  clear hb4 k0 k1 k2 k3 HN3 HWF
  go_upto_region 3 with (fail)
  rename_i K hK K2 hK2
  have KEY : Hid (∀ (x6 x7 x8 x9 x14 x15 x16 x17 x18 x19 x20 x21 x22 x23 x24 x25 x26 x27 x28 x29 x30 x31 x32 x33 x34 x35 x36 x37 x38 x39 x40 x41 x42 x43 x44 x45 x46 x47 x48 x49 x50 x51 x52 x53 x54 x55 x56 x57 x58 x59 x60 x61 x62 x63 x64 x65 x66 x67 x68 x69 x70 x71 x72 x73 x74 x75 x76 x77 x78 x79 x80 x81 x82 x83 x84 x85 x86 x87 x88 x89 x90 x91 x92 x93 x94 x95 x96 x97 x98 x99 x100 x101 x102 x103 x104 x105 x106 x107 x108 x109 x110 x111 x112 x113 x114 x115 x116 x117 x118 x119 x120 x121 x122 x123 x124 x125 x126 x127 x128 x129 x130 x131 x132 x133 x134 x135 x136 x137 x138 x139 x140 x141 x142 x143 x144 x145 x146 x147 x148 x149 x150 x151 x152 x153 x154 x155 x156 x157 x158 x159 x160 x161 x162 x163 : Value) (wr : World), NxS w sl ⟨A1, n1, c1, A2, n2, c2, A3, n3, c3⟩ pa D ⟨B1, m1, e1, B2, m2, e2, B3, m3, e3⟩ wr → K ⟨#[.agg #[.int .i64 sl, .slice A1 n1 c1, .slice A2 n2 c2, .slice A3 n3 c3], .int .i64 part, .int .i64 place, .slice A n c, .slice B m e, .pointer (some ⟨w.heap.size, 0, none⟩), x6, x7, x8, x9, .bool false, .pointer (some ⟨pa, 0, none⟩), .int .i64 E, .int .i64 E, x14, x15, x16, x17, x18, x19, x20, x21, x22, x23, x24, x25, x26, x27, x28, x29, x30, x31, x32, x33, x34, x35, x36, x37, x38, x39, x40, x41, x42, x43, x44, x45, x46, x47, x48, x49, x50, x51, x52, x53, x54, x55, x56, x57, x58, x59, x60, x61, x62, x63, x64, x65, x66, x67, x68, x69, x70, x71, x72, x73, x74, x75, x76, x77, x78, x79, x80, x81, x82, x83, x84, x85, x86, x87, x88, x89, x90, x91, x92, x93, x94, x95, x96, x97, x98, x99, x100, x101, x102, x103, x104, x105, x106, x107, x108, x109, x110, x111, x112, x113, x114, x115, x116, x117, x118, x119, x120, x121, x122, x123, x124, x125, x126, x127, x128, x129, x130, x131, x132, x133, x134, x135, x136, x137, x138, x139, x140, x141, x142, x143, x144, x145, x146, x147, x148, x149, x150, x151, x152, x153, x154, x155, x156, x157, x158, x159, x160, x161, x162, x163], []⟩ wr) := Lib.hid (by
    clear hK2 K2 HN4
    intro x6 x7 x8 x9 x14 x15 x16 x17 x18 x19 x20 x21 x22 x23 x24 x25 x26 x27 x28 x29 x30 x31 x32 x33 x34 x35 x36 x37 x38 x39 x40 x41 x42 x43 x44 x45 x46 x47 x48 x49 x50 x51 x52 x53 x54 x55 x56 x57 x58 x59 x60 x61 x62 x63 x64 x65 x66 x67 x68 x69 x70 x71 x72 x73 x74 x75 x76 x77 x78 x79 x80 x81 x82 x83 x84 x85 x86 x87 x88 x89 x90 x91 x92 x93 x94 x95 x96 x97 x98 x99 x100 x101 x102 x103 x104 x105 x106 x107 x108 x109 x110 x111 x112 x113 x114 x115 x116 x117 x118 x119 x120 x121 x122 x123 x124 x125 x126 x127 x128 x129 x130 x131 x132 x133 x134 x135 x136 x137 x138 x139 x140 x141 x142 x143 x144 x145 x146 x147 x148 x149 x150 x151 x152 x153 x154 x155 x156 x157 x158 x159 x160 x161 x162 x163 wr hN
    have HN := Lib.hid hN
    clear hN
    refine hK _ _ ?_
    clear hK K
    go_upto_region 18 with (fail)
    rename_i K3 hK3 K4 hK4
    have KEY2 : Hid (∀ (x6 x7 x8 x9 x14 x15 x17 x18 x19 x20 x21 x22 x23 x24 x25 x26 x27 x28 x29 x30 x31 x32 x33 x34 x35 x36 x37 x38 x39 x40 x41 x42 x43 x44 x45 x46 x47 x48 x49 x50 x51 x52 x53 x54 x55 x56 x57 x58 x59 x60 x61 x62 x63 x64 x65 x66 x67 x68 x69 x70 x71 x72 x73 x74 x75 x76 x77 x78 x79 x80 x81 x82 x83 x84 x85 x86 x87 x88 x89 x90 x91 x92 x93 x94 x95 x96 x97 x98 x99 x100 x101 x102 x103 x104 x105 x106 x107 x108 x109 x110 x111 x112 x113 x114 x115 x116 x117 x118 x119 x120 x121 x122 x123 x124 x125 x126 x127 x128 x129 x130 x131 x132 x133 x134 x135 x136 x137 x138 x139 x140 x141 x142 x143 x144 x145 x146 x147 x148 x149 x150 x151 x152 x153 x154 x155 x156 x157 x158 x159 x160 x161 x162 x163 : Value) (pb : Nat) (q1 : Raw) (wr : World), LwS w sl ⟨A1, n1, c1, A2, n2, c2, A3, n3, c3⟩ pa pb D ⟨B1, m1, e1, B2, m2, e2, B3, m3, e3⟩ q1 wr → K3 ⟨#[.agg #[.int .i64 sl, .slice A1 n1 c1, .slice A2 n2 c2, .slice A3 n3 c3], .int .i64 part, .int .i64 place, .slice A n c, .slice B m e, .pointer (some ⟨w.heap.size, 0, none⟩), x6, x7, x8, x9, .bool false, .pointer (some ⟨pa, 0, none⟩), .int .i64 E, .int .i64 E, x14, x15, .pointer (some ⟨pb, 0, none⟩), x17, x18, x19, x20, x21, x22, x23, x24, x25, x26, x27, x28, x29, x30, x31, x32, x33, x34, x35, x36, x37, x38, x39, x40, x41, x42, x43, x44, x45, x46, x47, x48, x49, x50, x51, x52, x53, x54, x55, x56, x57, x58, x59, x60, x61, x62, x63, x64, x65, x66, x67, x68, x69, x70, x71, x72, x73, x74, x75, x76, x77, x78, x79, x80, x81, x82, x83, x84, x85, x86, x87, x88, x89, x90, x91, x92, x93, x94, x95, x96, x97, x98, x99, x100, x101, x102, x103, x104, x105, x106, x107, x108, x109, x110, x111, x112, x113, x114, x115, x116, x117, x118, x119, x120, x121, x122, x123, x124, x125, x126, x127, x128, x129, x130, x131, x132, x133, x134, x135, x136, x137, x138, x139, x140, x141, x142, x143, x144, x145, x146, x147, x148, x149, x150, x151, x152, x153, x154, x155, x156, x157, x158, x159, x160, x161, x162, x163], []⟩ wr) := Lib.hid (by
      clear hK4 K4 HN x6 x7 x8 x9 x14 x15 x16 x17 x18 x19 x20 x21 x22 x23 x24 x25 x26 x27 x28 x29 x30 x31 x32 x33 x34 x35 x36 x37 x38 x39 x40 x41 x42 x43 x44 x45 x46 x47 x48 x49 x50 x51 x52 x53 x54 x55 x56 x57 x58 x59 x60 x61 x62 x63 x64 x65 x66 x67 x68 x69 x70 x71 x72 x73 x74 x75 x76 x77 x78 x79 x80 x81 x82 x83 x84 x85 x86 x87 x88 x89 x90 x91 x92 x93 x94 x95 x96 x97 x98 x99 x100 x101 x102 x103 x104 x105 x106 x107 x108 x109 x110 x111 x112 x113 x114 x115 x116 x117 x118 x119 x120 x121 x122 x123 x124 x125 x126 x127 x128 x129 x130 x131 x132 x133 x134 x135 x136 x137 x138 x139 x140 x141 x142 x143 x144 x145 x146 x147 x148 x149 x150 x151 x152 x153 x154 x155 x156 x157 x158 x159 x160 x161 x162 x163 wr
      intro x6 x7 x8 x9 x14 x15 x17 x18 x19 x20 x21 x22 x23 x24 x25 x26 x27 x28 x29 x30 x31 x32 x33 x34 x35 x36 x37 x38 x39 x40 x41 x42 x43 x44 x45 x46 x47 x48 x49 x50 x51 x52 x53 x54 x55 x56 x57 x58 x59 x60 x61 x62 x63 x64 x65 x66 x67 x68 x69 x70 x71 x72 x73 x74 x75 x76 x77 x78 x79 x80 x81 x82 x83 x84 x85 x86 x87 x88 x89 x90 x91 x92 x93 x94 x95 x96 x97 x98 x99 x100 x101 x102 x103 x104 x105 x106 x107 x108 x109 x110 x111 x112 x113 x114 x115 x116 x117 x118 x119 x120 x121 x122 x123 x124 x125 x126 x127 x128 x129 x130 x131 x132 x133 x134 x135 x136 x137 x138 x139 x140 x141 x142 x143 x144 x145 x146 x147 x148 x149 x150 x151 x152 x153 x154 x155 x156 x157 x158 x159 x160 x161 x162 x163 pb q1 wr hL
      have HL := Lib.hid hL
      clear hL
      refine hK3 _ _ ?_
      clear hK3 K3
      obtain ⟨k0, k1, k2, k3⟩ := HL.out.n.four
      dsimp only at k0 k1 k2 k3
      go_wp2_with fail
      refine (HRO.out _ HL.out.n.bel).mono ?_
      rintro x w6 ⟨⟨C1, p1, f1, C2, p2, f2, C3, p3, f3⟩, rfl, _, hb6⟩
      have hbx : Below w6.heap.size w6 (w6.alloc (.cells #[.int .i64 RD.sl, .slice C1 p1 f1, .slice C2 p2 f2, .slice C3 p3 f3] 25)) := (Below.refl _ _).alloc (Nat.le_refl _) _
      have HL7 := Lib.hid ((HL.out.next hb6).next hbx)
      clear hbx hb6 k0 k1 k2 k3 HL HRO
      dsimp only
      go_upto_region 22 with (fail)
      generalize World.alloc w6 _ = w7 at *
      go_wp2_with fail
      go_loopg [20] n (fun kx i wr => ∃ j : Nat, kx = n - j ∧ j ≤ n ∧ j ≤ m ∧ i = .int .i64 j ∧ Hid (LwS w sl ⟨A1, n1, c1, A2, n2, c2, A3, n3, c3⟩ pa pb D ⟨B1, m1, e1, B2, m2, e2, B3, m3, e3⟩ q1 wr) ∧ Hid (xs.take j = ys.take j))
      case atStart => exact ⟨0, by omega, Nat.zero_le _, Nat.zero_le _, rfl, HL7, Lib.hid rfl⟩
      case round =>
        clear HL7
        obtain ⟨j, hgk, hj, hj2, rfl, HL, HT⟩ := hrel
        have HGK := Lib.hid hgk; clear hgk
        by_cases hlt : j < n
        · by_cases hlt2 : j < m
          · skip
            obtain ⟨s, hx⟩ := get_of_lt HX.out hlt
            obtain ⟨t, hy⟩ := get_of_lt HY.out hlt2
            obtain ⟨b, off, rfl, hb, g0, g1, g2, g3, g4⟩ := HXS.out.five hx
            obtain ⟨b', off', rfl, hb', o0, o1, o2, o3, o4⟩ := HYS.out.five hy
            rw [← HL.out.n.bel.cell (p := ⟨b, _, none⟩) hb] at g0 g1 g2 g3 g4
            rw [← HL.out.n.bel.cell (p := ⟨b', _, none⟩) hb'] at o0 o1 o2 o3 o4
            have i1 : (0 : Int) ≤ (j : Int) := by omega
            have i2 : (j : Int) < (n : Int) := by omega
            have i3 : (j : Int) < (m : Int) := by omega
            clear hb hb'
            by_cases hst : s = t
            · subst hst
              have HT2 := Lib.hid (take_more HT.out hx hy)
              clear hx hy
              obtain ⟨sk, sa, sp, s0, st⟩ := s
              dsimp only at g0 g1 g2 g3 g4 o0 o1 o2 o3 o4
              go_wp2_with fail
              go_quiet (fail)
              go_wp2_with fail
              go_roundg (n - (j + 1))
              case measure => rw [HGK.out]; omega
              case rel => exact ⟨j+1, rfl, by omega, by omega, by go_num, Lib.hid (HL.out.next (below_drewN (Below.refl _ _) _)), HT2⟩
            · have HC := Lib.hid (cmn_stop HT.out hx hy hst)
              rw [HC.out] at HCO
              have hne := stp_ne hst
              clear hx hy hst
              obtain ⟨sk, sa, sp, s0, st⟩ := s
              obtain ⟨tk, ta, tp, t0, tt⟩ := t
              dsimp only at g0 g1 g2 g3 g4 o0 o1 o2 o3 o4 hne
              rcases hne with h1 | ⟨rfl, h1⟩ | ⟨rfl, rfl, h1⟩ | ⟨rfl, rfl, rfl, h1⟩ | ⟨rfl, rfl, rfl, rfl, h1⟩
              all_goals
                go_wp2_with fail
                go_quiet (fail)
                go_wp2_with fail
                clear g0 g1 g2 g3 g4 o0 o1 o2 o3 o4
                have HT2 := Lib.hid (LwS.two (z := wr.heap.size) (HL.out.next (below_drewN (Below.refl _ _) nq)) (by first | rfl | simp))
                generalize World.alloc (World.alloc _ _) _ = w9 at *
                generalize wr.heap.size = pz at *
                have hcm : cmn [⟨0, 0, 0, 0, 1⟩] [⟨0, 0, 0, 0, 1⟩] = 1 := by decide
                have HC1 := Lib.hid (common_any [⟨0, 0, 0, 0, 1⟩] [⟨0, 0, 0, 0, 1⟩] (some ⟨pz, 0, none⟩) (some ⟨pz + 1, 0, none⟩) 1 1 1 1 w9 rfl rfl (by omega) (by omega) HT2.out.2.1 HT2.out.2.2)
                rw [hcm] at HC1
                clear hcm
                refine HC1.out.mono ?_
                rintro x w10 ⟨rfl, hb10⟩
                have HL10 := Lib.hid (HT2.out.1.next hb10)
                clear hb10 HT2 HC1 HL
                obtain ⟨⟨k0, k1, k2, k3⟩, g0, g1, g2, g3⟩ := HL10.out.cells
                dsimp only at k0 k1 k2 k3 g0 g1 g2 g3
                have HSM := Lib.hid (same_self D _ _ w10 HL10.out.n.ok1 HL10.out.ok2)
                unfold wv at HSM
                try dsimp only at HSM
                go_wp2_with fail
                refine HSM.out.mono ?_
                rintro x w11 ⟨rfl, hb11⟩
                have HL11 := Lib.hid (HL10.out.next hb11)
                clear hb11 HL10 HSM k0 k1 k2 k3 g0 g1 g2 g3
                obtain ⟨k0, k1, k2, k3⟩ := HL11.out.n.four
                dsimp only at k0 k1 k2 k3
                go_wp2_with fail
                refine (HFA.out _ HL11.out.n.bel).mono ?_
                rintro x w12 ⟨rfl, hb12⟩
                have HL12 := Lib.hid (HL11.out.next hb12)
                clear hb12 HL11 k0 k1 k2 k3
                go_wp2_with fail
                refine (HCO.out _ HL12.out.n.bel).mono ?_
                rintro x w13 ⟨rfl, hb13⟩
                have HL13 := Lib.hid (HL12.out.next hb13).n.bel
                clear hb13 HL12
                go_wp2_with fail
                go_ret
                exact ⟨rfl, HL13.out⟩
          · obtain rfl : j = m := by omega
            have HC := Lib.hid (cmn_eq HT.out (by rw [← HX.out]; omega) (by rw [← HY.out]; omega) (.inr (.inl HY.out)))
            rw [HC.out] at HCO
            clear hj2 hlt2
            go_wp2_with fail
            go_quiet (fail)
            go_wp2_with fail
            have HT2 := Lib.hid (LwS.two (z := wr.heap.size) (HL.out.next (below_drewN (Below.refl _ _) nq)) (by first | rfl | simp))
            generalize World.alloc (World.alloc _ _) _ = w9 at *
            generalize wr.heap.size = pz at *
            have hcm : cmn [⟨0, 0, 0, 0, 1⟩] [⟨0, 0, 0, 0, 1⟩] = 1 := by decide
            have HC1 := Lib.hid (common_any [⟨0, 0, 0, 0, 1⟩] [⟨0, 0, 0, 0, 1⟩] (some ⟨pz, 0, none⟩) (some ⟨pz + 1, 0, none⟩) 1 1 1 1 w9 rfl rfl (by omega) (by omega) HT2.out.2.1 HT2.out.2.2)
            rw [hcm] at HC1
            clear hcm
            refine HC1.out.mono ?_
            rintro x w10 ⟨rfl, hb10⟩
            have HL10 := Lib.hid (HT2.out.1.next hb10)
            clear hb10 HT2 HC1 HL
            obtain ⟨⟨k0, k1, k2, k3⟩, g0, g1, g2, g3⟩ := HL10.out.cells
            dsimp only at k0 k1 k2 k3 g0 g1 g2 g3
            have HSM := Lib.hid (same_self D _ _ w10 HL10.out.n.ok1 HL10.out.ok2)
            unfold wv at HSM
            try dsimp only at HSM
            go_wp2_with fail
            refine HSM.out.mono ?_
            rintro x w11 ⟨rfl, hb11⟩
            have HL11 := Lib.hid (HL10.out.next hb11)
            clear hb11 HL10 HSM k0 k1 k2 k3 g0 g1 g2 g3
            obtain ⟨k0, k1, k2, k3⟩ := HL11.out.n.four
            dsimp only at k0 k1 k2 k3
            go_wp2_with fail
            refine (HFA.out _ HL11.out.n.bel).mono ?_
            rintro x w12 ⟨rfl, hb12⟩
            have HL12 := Lib.hid (HL11.out.next hb12)
            clear hb12 HL11 k0 k1 k2 k3
            go_wp2_with fail
            refine (HCO.out _ HL12.out.n.bel).mono ?_
            rintro x w13 ⟨rfl, hb13⟩
            have HL13 := Lib.hid (HL12.out.next hb13).n.bel
            clear hb13 HL12
            go_wp2_with fail
            go_ret
            exact ⟨rfl, HL13.out⟩
        · obtain rfl : j = n := by omega
          have HC := Lib.hid (cmn_eq HT.out (by rw [← HX.out]; omega) (by rw [← HY.out]; omega) (.inl HX.out))
          rw [HC.out] at HCO
          go_wp2_with fail
          go_quiet (fail)
          go_wp2_with fail
          have HT2 := Lib.hid (LwS.two (z := wr.heap.size) (HL.out.next (below_drewN (Below.refl _ _) nq)) (by first | rfl | simp))
          generalize World.alloc (World.alloc _ _) _ = w9 at *
          generalize wr.heap.size = pz at *
          have hcm : cmn [⟨0, 0, 0, 0, 1⟩] [⟨0, 0, 0, 0, 1⟩] = 1 := by decide
          have HC1 := Lib.hid (common_any [⟨0, 0, 0, 0, 1⟩] [⟨0, 0, 0, 0, 1⟩] (some ⟨pz, 0, none⟩) (some ⟨pz + 1, 0, none⟩) 1 1 1 1 w9 rfl rfl (by omega) (by omega) HT2.out.2.1 HT2.out.2.2)
          rw [hcm] at HC1
          clear hcm
          refine HC1.out.mono ?_
          rintro x w10 ⟨rfl, hb10⟩
          have HL10 := Lib.hid (HT2.out.1.next hb10)
          clear hb10 HT2 HC1 HL
          obtain ⟨⟨k0, k1, k2, k3⟩, g0, g1, g2, g3⟩ := HL10.out.cells
          dsimp only at k0 k1 k2 k3 g0 g1 g2 g3
          have HSM := Lib.hid (same_self D _ _ w10 HL10.out.n.ok1 HL10.out.ok2)
          unfold wv at HSM
          try dsimp only at HSM
          go_wp2_with fail
          refine HSM.out.mono ?_
          rintro x w11 ⟨rfl, hb11⟩
          have HL11 := Lib.hid (HL10.out.next hb11)
          clear hb11 HL10 HSM k0 k1 k2 k3 g0 g1 g2 g3
          obtain ⟨k0, k1, k2, k3⟩ := HL11.out.n.four
          dsimp only at k0 k1 k2 k3
          go_wp2_with fail
          refine (HFA.out _ HL11.out.n.bel).mono ?_
          rintro x w12 ⟨rfl, hb12⟩
          have HL12 := Lib.hid (HL11.out.next hb12)
          clear hb12 HL11 k0 k1 k2 k3
          go_wp2_with fail
          refine (HCO.out _ HL12.out.n.bel).mono ?_
          rintro x w13 ⟨rfl, hb13⟩
          have HL13 := Lib.hid (HL12.out.next hb13).n.bel
          clear hb13 HL12
          go_wp2_with fail
          go_ret
          exact ⟨rfl, HL13.out⟩
    )
    clear hK3
    by_cases hE0 : E = 0
    · obtain ⟨hw0, kp, x, rfl, hx⟩ := mvE_inv (HE.out.trans hE0)
      have HDE : Hid (D = mvN d (kp : Int) place) := Lib.hid (by rw [← HD.out]; unfold mvD; rw [if_pos (HE.out.trans hE0)])
      have HMN : Hid (∀ (W : World) (po : Nat) (ro : Raw) (wr : World) (_ : Unit), BoxS W po sl ro (mvN d (kp : Int) place) wr → BoxS W po D.sl ro D wr) := Lib.hid (fun W po ro wr _ h9 => by
        rw [HDE.out]
        have e9 : (mvN d (kp : Int) place).sl = sl := HSL.out
        rw [e9]
        exact h9)
      have hv := vd_of hw0
      have HX1 := Lib.hid hx
      obtain ⟨xb, hxb⟩ := get_ex (xs := d.se) (k := kp) (by rw [hv.se]; exact (List.getElem?_eq_some_iff.1 hx).1)
      have HX2 := Lib.hid hxb
      have a1 := HH.out.h1
      have a2 := HH.out.h2
      have a3 := HH.out.h3
      have a4 := hv.p6
      have a5 := hv.se
      have a6 := hv.s4
      dsimp only at a1 a2 a3
      have HC1 := Lib.hid (fun W (hb : Below w.heap.size w W) => cloneI_any d.pl A1 n1 c1 W a1 (by omega) (HH.out.i1.next hb))
      have HC2 := Lib.hid (fun W (hb : Below w.heap.size w W) => cloneB_any d.se A2 n2 c2 W a2 (by omega) (HH.out.i2.next hb))
      have HC3 := Lib.hid (fun W (hb : Below w.heap.size w W) => cloneI_any d.sp A3 n3 c3 W a3 (by omega) (HH.out.i3.next hb))
      unfold ClonePost at HC1 HC2 HC3
      clear a1 a2 a3 a4 a5 a6 hv hw0 hx hxb
      subst hE0
      have HS := Lib.hid (CwS.start HN.out)
      have hS := HS.out
      generalize World.alloc wr _ = w4 at *
      go_wp2_with fail
      go_region_held3 (fun w' => w'.cell? ⟨w.heap.size, 0, none⟩ = some (.int .i64 sl) ∧ w'.cell? ⟨w.heap.size, 1, none⟩ = some (.slice A1 n1 c1) ∧ w'.cell? ⟨w.heap.size, 2, none⟩ = some (.slice A2 n2 c2) ∧ w'.cell? ⟨w.heap.size, 3, none⟩ = some (.slice A3 n3 c3) ∧ CwS w sl ⟨A1, n1, c1, A2, n2, c2, A3, n3, c3⟩ wr w')
        (first | exact CwS.all (by assumption) | exact CwS.all (CwS.drew (by assumption)) | exact CwS.all (CwS.store hS7 _ _ _ _))
        (first
          | (go_at_call 16
             (with_reducible refine (HC2.out _ (CwS.sub HN.out (by first | assumption | exact CwS.drew (by assumption) | (go_split_ands; assumption)))).mono ?_)
             rintro e w6 ⟨v6, rfl, ho6, hb6⟩
             have hS6 := CwS.next (by first | assumption | exact CwS.drew (by assumption) | (go_split_ands; assumption)) hb6
             have hR2 := Rws.more (by first | exact hR1 | exact Rws.drew hR1) hb6 ho6
             obtain ⟨hn6, A6, c6, rfl, _, _, _⟩ := BoolsAt.of_own ho6
             clear hn6)
          | (go_at_call 15
             (with_reducible refine (HC3.out _ (CwS.sub HN.out (by first | assumption | exact CwS.drew (by assumption) | (go_split_ands; assumption)))).mono ?_)
             rintro e w7 ⟨v7, rfl, ho7, hb7⟩
             have hS7 := CwS.next (by first | assumption | exact CwS.drew (by assumption) | (go_split_ands; assumption)) hb7
             have hR3 := Rws.more (by first | exact hR2 | exact Rws.drew hR2) hb7 ho7
             obtain ⟨hn7, A7, c7, rfl, _, _, _⟩ := IntsAt.of_ownN ho7
             clear hn7
             obtain ⟨x0, y0, z0, u0, ⟨q0, q1, q2, q3⟩, q4, q5, q6, q7⟩ := hS7.room)
          | (go_at_call 15
             (with_reducible refine (HC1.out _ (CwS.sub HN.out (by first | assumption | exact CwS.drew (by assumption) | (go_split_ands; assumption)))).mono ?_)
             rintro e w5 ⟨v5, rfl, ho5, hb5⟩
             have hS5 := CwS.next (by first | assumption | exact CwS.drew (by assumption) | (go_split_ands; assumption)) hb5
             have hR1 := Rws.more (Rws.begin (CwS.bel (by first | assumption | exact CwS.drew (by assumption) | (go_split_ands; assumption)))) hb5 ho5
             obtain ⟨hn5, A5, c5, rfl, _, _, _⟩ := IntsAt.of_ownN ho5
             clear hn5))
      all_goals
        have HB5 := Lib.hid (CwS.box (ro := ⟨A5, n1, c5, A6, n2, c6, A7, n3, c7⟩) hS7 hR3)
        clear hR1 hR2 hR3 hS5 hS6 hS7 ho5 ho6 ho7 hb5 hb6 hb7 q0 q1 q2 q3 q4 q5 q6 q7 hS HS HC1 HC2 HC3
        unfold put4 at HB5
        dsimp only at HB5
        generalize World.setCell (World.setCell (World.setCell (World.setCell w7 _ _) _ _) _ _) _ _ = w9 at *
        obtain ⟨g, hA, hlt, hfr⟩ := HB5.out.at1 HX1.out
        dsimp only at hA hlt hfr
        subst hA
        obtain ⟨gb, hA2, hlt2, hfrb⟩ := HB5.out.at2 HX2.out
        dsimp only at hA2 hlt2 hfrb
        subst hA2
        have f1 := (hfr kp).1
        obtain ⟨cu, hcu⟩ := Option.isSome_iff_exists.1 ((hfr kp).2 hlt)
        have f2 := (hfrb kp).1
        obtain ⟨cv, hcv⟩ := Option.isSome_iff_exists.1 ((hfrb kp).2 hlt2)
        have HT := Lib.hid ((HB5.out.put1 rfl kp place).put2 rfl kp false)
        have HGN : Hid (g ≠ gb) := Lib.hid (HB5.out.ne12 rfl rfl)
        have hgn := HGN.out
        obtain ⟨o0, o1, o2, o3⟩ := HB5.out.all
        dsimp only at o0 o1 o2 o3
        have j1 : (0 : Int) ≤ (kp : Int) := by omega
        have j2 : (kp : Int) < (n1 : Int) := by omega
        have j3 : (kp : Int) < (n2 : Int) := by omega
        have ht1 := HB5.out.put1 rfl kp place
        obtain ⟨gt, hgt, _, hfrt⟩ := ht1.at2 HX2.out
        cases hgt
        have f3 := (hfrt kp).1
        obtain ⟨cx, hcx⟩ := Option.isSome_iff_exists.1 ((hfrt kp).2 hlt2)
        obtain ⟨c00, c01, c02, c03⟩ := ht1.all
        dsimp only at c00 c01 c02 c03
        clear hfr hfrb hfrt ht1
        go_wp2_with fail
        go_region
        all_goals
          clear o0 o1 o2 o3 c00 c01 c02 c03
          have HLL := Lib.hid (LwS.of HN.out (HMN.out _ _ _ _ () HT.out.drew))
          clear HT HB5
          go_wp2_with fail
          apply KEY2.out
          exact HLL.out
    · have hq : (E == 0) = false := by simp [hE0]
      have HL := Lib.hid (LwS.zero (by rw [← HD.out]; unfold mvD; rw [if_neg (by rw [HE.out]; exact hE0)]) HN.out)
      clear hE0
      go_wp2_with fail
      apply KEY2.out
      exact HL.out)
  clear hK
  have E1 : Hid (n1 = d.pl.length) := Lib.hid HH.out.h1
  by_cases hw0 : wErr d = 0
  · rw [hw0]
    by_cases hp0 : part < 0
    · obtain rfl : E = 4 := by rw [← HE.out, mvE_p hw0 (.inl hp0)]
      clear hw0
      obtain ⟨k0, k1, k2, k3⟩ := HN4.out.four
      dsimp only at k0 k1 k2 k3
      go_wp2_with fail
      apply KEY.out
      exact HN4.out
    · by_cases hp1 : (d.pl.length : Int) ≤ part
      · obtain rfl : E = 4 := by rw [← HE.out, mvE_p hw0 (.inr hp1)]
        clear hw0
        rw [← E1.out] at hp1
        obtain ⟨k0, k1, k2, k3⟩ := HN4.out.four
        dsimp only at k0 k1 k2 k3
        go_wp2_with fail
        apply KEY.out
        exact HN4.out
      · obtain ⟨kp, rfl⟩ := Int.eq_ofNat_of_zero_le (show 0 ≤ part by omega)
        have hnp : ¬ ((kp : Int) < 0 ∨ (d.pl.length : Int) ≤ (kp : Int)) := by omega
        obtain ⟨x, hx⟩ := get_ex (xs := d.pl) (k := kp) (by omega)
        rw [← E1.out] at hp1
        have i2 : (kp : Int) < (n1 : Int) := by omega
        clear hp0 hp1
        have i1 : (0 : Int) ≤ (kp : Int) := by omega
        obtain ⟨b, off, hA, hb, hc0⟩ := HH.out.i1 kp x hx
        dsimp only at hA
        subst hA
        by_cases ha0 : place < -1
        · obtain rfl : E = 1 := by rw [← HE.out, mvE_a hw0 hnp (.inl ha0)]
          clear hw0 hnp hx hb hc0
          obtain ⟨k0, k1, k2, k3⟩ := HN4.out.four
          dsimp only at k0 k1 k2 k3
          go_wp2_with fail
          apply KEY.out
          exact HN4.out
        · by_cases ha1 : sl ≤ place
          · obtain rfl : E = 1 := by rw [← HE.out, mvE_a hw0 hnp (.inr (by rw [HSL.out]; exact ha1))]
            clear hw0 hnp hx hb hc0
            obtain ⟨k0, k1, k2, k3⟩ := HN4.out.four
            dsimp only at k0 k1 k2 k3
            go_wp2_with fail
            apply KEY.out
            exact HN4.out
          · have hna : ¬ (place < -1 ∨ d.sl ≤ place) := by rw [HSL.out]; omega
            by_cases hs0 : x < -1
            · obtain rfl : E = 7 := by rw [← HE.out, mvE_s hw0 hx hna hs0]
              clear hw0 hnp hx hna
              obtain ⟨k0, k1, k2, k3⟩ := HN4.out.four
              dsimp only at k0 k1 k2 k3
              have g0 := (HN4.out.bel.cell (p := ⟨b, off + kp, none⟩) hb).trans hc0
              go_wp2_with fail
              apply KEY.out
              exact HN4.out
            · by_cases hq0 : place < 0
              · obtain rfl : E = 0 := by rw [← HE.out, mvE_0 hw0 hx hna hs0 (.inl hq0)]
                clear hw0 hnp hx hna
                obtain ⟨k0, k1, k2, k3⟩ := HN4.out.four
                dsimp only at k0 k1 k2 k3
                have g0 := (HN4.out.bel.cell (p := ⟨b, off + kp, none⟩) hb).trans hc0
                go_wp2_with fail
                apply KEY.out
                exact HN4.out
              · have hq1 : 0 ≤ place := by omega
                have HW0 := Lib.hid (And.intro hw0 (And.intro hx (And.intro hna hs0)))
                have hn9 : n1 ≤ 1000 := by have h8 := (vd_of hw0).p6; have h9 := E1.out; omega
                clear hq0 ha0 hw0 hnp hx hna
                obtain ⟨k0, k1, k2, k3⟩ := HN4.out.four
                dsimp only at k0 k1 k2 k3
                have g0 := (HN4.out.bel.cell (p := ⟨b, off + kp, none⟩) hb).trans hc0
                go_wp2_with fail
                go_loopg [13, 66] n1 (fun kx fx i wr => ∃ (j : Nat) (fv : Int), kx = n1 - j ∧ j ≤ n1 ∧ i = .int .i64 j ∧ fx = .int .i64 fv ∧ wr = w4 ∧ Hid ((hitB d kp place j ∧ fv = 5) ∨ (¬ hitB d kp place j ∧ fv = 0)))
                case atStart => exact ⟨0, 0, by omega, Nat.zero_le _, rfl, rfl, rfl, Lib.hid (.inr ⟨fun ⟨i, h9, _⟩ => by omega, rfl⟩)⟩
                case round =>
                  obtain ⟨j, fv, hgk, hj, rfl, rfl, rfl, HF⟩ := hrel
                  have HGK := Lib.hid hgk; clear hgk
                  by_cases hlt : j < n1
                  · obtain ⟨y, hy⟩ := get_of_lt E1.out hlt
                    obtain ⟨b2, off2, hAA, hb2, hc2⟩ := HH.out.i1 j y hy
                    dsimp only at hAA
                    injection hAA with hAA
                    injection hAA with e1 e2
                    subst e1 e2
                    have g1 := (HN4.out.bel.cell (p := ⟨b, off + j, none⟩) hb2).trans hc2
                    have j1 : (0 : Int) ≤ (j : Int) := by omega
                    have j2 : (j : Int) < (n1 : Int) := by omega
                    have HYY := Lib.hid hy
                    clear hy hb2 hc2
                    by_cases hjk : j = kp
                    · subst hjk
                      have HF2 : Hid ((hitB d j place (j+1) ∧ fv = 5) ∨ (¬ hitB d j place (j+1) ∧ fv = 0)) := Lib.hid (HF.out.imp (fun h9 => ⟨hit_more h9.1, h9.2⟩) (fun h9 => ⟨hit_no h9.1 HYY.out (.inl rfl), h9.2⟩))
                      go_wp2_with fail
                      go_roundg (n1 - (j + 1))
                      case measure => rw [HGK.out]; omega
                      case rel => exact ⟨j+1, fv, rfl, by omega, by go_num, rfl, rfl, HF2⟩
                    · have hjq : ((j : Int) != (kp : Int)) = true := by simp; omega
                      by_cases hyp : y = place
                      · subst hyp
                        have HF2 : Hid (∀ fv : Int, fv = 5 → ((hitB d kp y (j+1) ∧ fv = 5) ∨ (¬ hitB d kp y (j+1) ∧ fv = 0))) := Lib.hid (fun fv h9 => .inl ⟨hit_new hjk HYY.out, h9⟩)
                        clear hjk
                        go_wp2_with fail
                        go_roundg (n1 - (j + 1))
                        case measure => rw [HGK.out]; omega
                        case rel => exact ⟨j+1, 5, rfl, by omega, by go_num, rfl, rfl, Lib.hid (HF2.out 5 rfl)⟩
                      · have hyq : (y == place) = false := by simp [hyp]
                        have HF2 : Hid ((hitB d kp place (j+1) ∧ fv = 5) ∨ (¬ hitB d kp place (j+1) ∧ fv = 0)) := Lib.hid (HF.out.imp (fun h9 => ⟨hit_more h9.1, h9.2⟩) (fun h9 => ⟨hit_no h9.1 HYY.out (.inr hyp), h9.2⟩))
                        clear hjk hyp
                        go_wp2_with fail
                        go_roundg (n1 - (j + 1))
                        case measure => rw [HGK.out]; omega
                        case rel => exact ⟨j+1, fv, rfl, by omega, by go_num, rfl, rfl, HF2⟩
                  · obtain rfl : j = n1 := by omega
                    obtain rfl : fv = E := by
                      have h9 := HF.out
                      rw [E1.out] at h9
                      obtain ⟨u1, u2, u3, u4⟩ := HW0.out
                      rcases h9 with ⟨h9, rfl⟩ | ⟨h9, rfl⟩
                      · rw [← HE.out, mvE_hit u1 u2 u3 (by omega) hq1 h9]
                      · rw [← HE.out, mvE_nohit u1 u2 u3 (by omega) h9]
                    clear HF
                    go_wp2_with fail
                    apply KEY.out
                    exact HN4.out
  · have hEw : wErr d = E := by rw [← HE.out, mvE_w hw0]
    rw [hEw] at hw0 ⊢
    have hne : (E != 0) = true := by simp [hw0]
    clear hw0
    obtain ⟨k0, k1, k2, k3⟩ := HN4.out.four
    dsimp only at k0 k1 k2 k3
    go_wp2_with fail
    apply KEY.out
    exact HN4.out
set_option maxRecDepth 40000 in
theorem replanMoves_walk {H : Type} {enc : TypeId × Value → H} (W : World) (v0 v1 v2 v3 v4 : Value) {d0 d1 d2 d3 d4 : DataW H} {p0 p1 p2 p3 p4 : List MemPlace} {base : Nat}
    (h0 : DataW.Trod enc Try.prog W 0 (fun _ => true) true 25 v0 d0 p0) (h1 : DataW.Trod enc Try.prog W 0 (fun _ => true) true 3 v1 d1 p1) (h2 : DataW.Trod enc Try.prog W 0 (fun _ => true) true 3 v2 d2 p2) (h3 : DataW.Trod enc Try.prog W 0 (fun _ => true) true 26 v3 d3 p3) (h4 : DataW.Trod enc Try.prog W 0 (fun _ => true) true 26 v4 d4 p4)
    (o0 : Value.okWide Try.prog W .any base 25 v0) (o1 : Value.okWide Try.prog W .any base 3 v1) (o2 : Value.okWide Try.prog W .any base 3 v2) (o3 : Value.okWide Try.prog W .any base 26 v3) (o4 : Value.okWide Try.prog W .any base 26 v4)
    (w0 : Light Try.prog 25 d0) (w1 : Light Try.prog 3 d1) (w2 : Light Try.prog 3 d2) (w3 : Light Try.prog 26 d3) (w4 : Light Try.prog 26 d4) :
    Calls Try.prog 4 #[v0, v1, v2, v3, v4] W fun e W' => e = .returned (.bool true) ∧ Below W.heap.size W W' := by
  obtain ⟨d, r, rfl, hok, _, hpl, _⟩ := open_world h0 o0 w0
  obtain ⟨i, rfl, _, _, _⟩ := open_int Try.underlying3 o1 h1
  obtain ⟨j, rfl, _, _, _⟩ := open_int Try.underlying3 o2 h2
  obtain ⟨A, c, xs, rfl, hlc, hc, hm, hxs⟩ := open_steps h3 o3 w3
  obtain ⟨B, e, ys, rfl, hlc2, hc2, hm2, hys⟩ := open_steps h4 o4 w4
  exact replanMoves_core d r i j xs ys A B _ c _ e W rfl rfl hm hm2 hlc hok hxs hys (fun x hx => (hpl x hx).1)
end Go.Proofs.Ytnaiflokmihmeaa
