/- Walks of package nat: halves. -/
import Derived.Test.YtlfddhiimcophaaDoorNatLf
import Derived.Deep.DeepCutAuto
import Derived.Deep.CutBlock
import Derived.StillTailTactics
import Derived.Deep.RegionHeld3
import Derived.Deep.RegionWith
namespace Go.Proofs.YtlfddhiimcophaaDoor
open Go.RowKit
set_option linter.unusedVariables false
set_option linter.unusedSimpArgs false

/-- the state of the loop: X in block gx, Y in block gy, both odd, the divisor G -/
structure HSt (w wr : World) (gx gy kx ky nx ny : Nat) (X Y px rx py ry : List Nat) (G : Nat) : Prop where
  ekx : kx = px.length
  eky : ky = py.length
  enx : nx = X.length
  eny : ny = Y.length
  bx : Blk wr gx 59 (lcells (px ++ X ++ rx))
  by_ : Blk wr gy 59 (lcells (py ++ Y ++ ry))
  ox : Lok X
  oy : Lok Y
  tx : Tp X
  ty : Tp Y
  below : Below w.heap.size w wr
  ne : gx ≠ gy
  gx0 : w.heap.size ≤ gx
  gy0 : w.heap.size ≤ gy
  oddx : Odd' (lval X)
  oddy : Odd' (lval Y)
  gcd : Nat.gcd (lval X) (lval Y) = G
theorem HSt.swap {w wr : World} {gx gy kx ky nx ny : Nat} {X Y px rx py ry : List Nat} {G : Nat} (h : HSt w wr gx gy kx ky nx ny X Y px rx py ry G) : HSt w wr gy gx ky kx ny nx Y X py ry px rx G :=
  ⟨h.eky, h.ekx, h.eny, h.enx, h.by_, h.bx, h.oy, h.ox, h.ty, h.tx, h.below, fun e => h.ne e.symm, h.gy0, h.gx0, h.oddy, h.oddx, by rw [Nat.gcd_comm]; exact h.gcd⟩
theorem HSt.next {w wr wr' : World} {gx gy kx ky nx ny : Nat} {X Y px rx py ry : List Nat} {G : Nat} (h : HSt w wr gx gy kx ky nx ny X Y px rx py ry G) (hb : Below wr.heap.size wr wr') : HSt w wr' gx gy kx ky nx ny X Y px rx py ry G :=
  { h with bx := h.bx.belowB hb, by_ := h.by_.belowB hb, below := below_next h.below hb }
/-- behind the loop -/
structure HEn (w wr : World) (gx gy kx ky nx ny : Nat) (X Y px rx py ry : List Nat) (G : Nat) : Prop where
  ekx : kx = px.length
  eky : ky = py.length
  enx : nx = X.length
  eny : ny = Y.length
  bx : Blk wr gx 59 (lcells (px ++ X ++ rx))
  by_ : Blk wr gy 59 (lcells (py ++ Y ++ ry))
  ox : Lok X
  oy : Lok Y
  below : Below w.heap.size w wr
  ne : gx ≠ gy
  gx0 : w.heap.size ≤ gx
  gy0 : w.heap.size ≤ gy
  fin : (nx = 0 ∧ lval Y = G) ∨ (nx = 1 ∧ ny = 1 ∧ Nat.gcd (lval X) (lval Y) = G)

theorem Blk.lAtW {w : World} {g k : Nat} {pre X post : List Nat} (h : Blk w g 59 (lcells (pre ++ X ++ post))) (hk : k = pre.length) : LAt w w.heap.size (some ⟨g, k, none⟩) X := fun i x hx =>
  ⟨g, k, rfl, h.lt, by rw [hk, h.cell]; exact lcells_get (win_get hx)⟩

set_option maxHeartbeats 4000000 in
set_option maxRecDepth 20000 in
theorem halves_any (a b : Nat) (w : World) (ha : a ≠ 0) (hb : b ≠ 0) (hla : (bstr a).length ≤ 35184372088832) (hlb : (bstr b).length ≤ 35184372088832) (hT : Tab w) :
    Calls Tryd.prog 62 #[.string (S a), .string (S b)] w fun e w' => e = .returned (.string (S (Nat.gcd a b))) ∧ Below w.heap.size w w' := by
  have HN := Lib.hid (And.intro (And.intro ha hb) (And.intro (And.intro hla hlb) hT)); clear ha hb hla hlb hT
  go_enter Tryd.func62, Tryd.ntmps62
  go_wp2_with fail
  refine (limbs_any (S a) _ (by rw [S_size]; have := HN.out.2.1.1; omega)).mono ?_
  rintro e w1 ⟨g1, xs, rfl, hg1, hb1, hbel1, hok1, hv1, hl1⟩
  rw [toL_S, bval_bstr] at hv1
  rw [S_size] at hl1
  have hx4 : xs.length ≤ 4398046511105 := by have := HN.out.2.1.1; omega
  have HX := Lib.hid (And.intro hb1 (And.intro hbel1 (And.intro hok1 (And.intro hv1 hl1)))); clear hb1 hbel1 hok1 hv1 hl1
  go_wp2_with fail
  refine (limbs_any (S b) _ (by rw [S_size]; have := HN.out.2.1.2; omega)).mono ?_
  rintro e w2 ⟨g2, ys, rfl, hg2, hb2, hbel2, hok2, hv2, hl2⟩
  rw [toL_S, bval_bstr] at hv2
  rw [S_size] at hl2
  have hy4 : ys.length ≤ 4398046511105 := by have := HN.out.2.1.2; omega
  have hg12 : g1 < w1.heap.size := HX.out.1.lt
  have hb1 := HX.out.1.belowB hbel2
  have hbw := below_next HX.out.2.1 hbel2
  have HY := Lib.hid (And.intro hb2 (And.intro hbw (And.intro hok2 (And.intro hv2 (And.intro hl2 (And.intro hb1 (HN.out.2.2.next hbw))))))); clear hb2 hbel2 hok2 hv2 hl2 hb1 hbw
  go_wp2_with fail
  refine (evens_any xs (some ⟨g1, 0, none⟩) _ _ _ rfl (by omega) HX.out.2.2.1 (by rw [HX.out.2.2.2.1]; exact HN.out.1.1) HY.out.2.2.2.2.2.1.lAt HY.out.2.2.2.2.2.2).mono ?_
  rintro e w' ⟨⟨b1, q1, rfl, hb1, hq1⟩, rfl⟩
  have HQ1 := Lib.hid hq1; clear hq1
  go_wp2_with fail
  refine (evens_any ys (some ⟨g2, 0, none⟩) _ _ _ rfl (by omega) HY.out.2.2.1 (by rw [HY.out.2.2.2.1]; exact HN.out.1.2) HY.out.1.lAt HY.out.2.2.2.2.2.2).mono ?_
  rintro e w' ⟨⟨b2, q2, rfl, hb2, hq2⟩, rfl⟩
  have HQ2 := Lib.hid hq2; clear hq2
  go_wp2_with fail
  refine (right_any [] xs [] g1 0 _ _ b1 _ rfl rfl (by omega) (Nat.le_refl _) HX.out.2.2.1 hb1 (by rw [List.nil_append, List.append_nil]; exact HY.out.2.2.2.2.2.1)).mono ?_
  rintro e w3 ⟨⟨p1, X, r1, c1, rfl, hc1, hbx, hvx, htx, hox, hlx⟩, hgr3⟩
  have hne : (some g2 : Option Nat) ≠ some g1 := by intro e; cases e; omega
  have hby3 : Blk w3 g2 59 (lcells ys) := Blk.grown HY.out.1 hgr3 hne
  have hbe3 : Below w.heap.size w w3 := HY.out.2.1.trans (below_of_grown hgr3 HY.out.2.1.size (fun k hk => by cases hk; exact hg1))
  have H3 := Lib.hid (And.intro hbx (And.intro hvx (And.intro htx (And.intro hox (And.intro hby3 hbe3))))); clear hbx hvx htx hox hby3 hgr3 hbe3
  go_wp2_with fail
  refine (right_any [] ys [] g2 0 _ _ b2 _ rfl rfl (by omega) (Nat.le_refl _) HY.out.2.2.1 hb2 (by rw [List.nil_append, List.append_nil]; exact H3.out.2.2.2.2.1)).mono ?_
  rintro e w4 ⟨⟨p2, Y, r2, c2, rfl, hc2, hby, hvy, hty, hoy, hly⟩, hgr4⟩
  have hbx4 : Blk w4 g1 59 (lcells (p1 ++ X ++ r1)) := Blk.grown H3.out.1 hgr4 (fun e => hne e.symm)
  have hbe4 : Below w.heap.size w w4 := H3.out.2.2.2.2.2.trans (below_of_grown hgr4 H3.out.2.2.2.2.2.size (fun k hk => by cases hk; have := HX.out.2.1.size; omega))
  obtain ⟨o1, o2⟩ := odd_of HQ1.out
  obtain ⟨o3, o4⟩ := odd_of HQ2.out
  have H4 := Lib.hid (show HSt w w4 g1 g2 p1.length p2.length X.length Y.length X Y p1 r1 p2 r2 (Nat.gcd (lval X) (lval Y)) from
    ⟨rfl, rfl, rfl, rfl, hbx4, hby, H3.out.2.2.2.1, hoy, H3.out.2.2.1, hty, hbe4, (fun e => hne (by rw [e])), hg1, (by have := HX.out.2.1.size; omega), (by rw [H3.out.2.1]; exact o1), (by rw [hvy]; exact o3), rfl⟩)
  have hG : Nat.gcd a b = 2 ^ (min b1 b2) * Nat.gcd (lval X) (lval Y) := by
    rw [← gcd_powers (by rw [H3.out.2.1]; exact o1) (by rw [hvy]; exact o3), H3.out.2.1, hvy, Nat.mul_comm, o2, Nat.mul_comm, o4, HX.out.2.2.2.1, HY.out.2.2.2.1]
  have HG := Lib.hid hG; clear hG
  have hlx' : X.length ≤ 4398046511105 := by omega
  have hly' : Y.length ≤ 4398046511105 := by omega
  generalize hgg : Nat.gcd (lval X) (lval Y) = G at H4 HG
  have HGG := Lib.hid hgg; clear hgg
  clear hvy hty hoy hby hbx4 hbe4 o1 o2 o3 o4 hne hgr4
  have hbb : b1 < 64 * xs.length ∧ b2 < 64 * ys.length := ⟨hb1, hb2⟩
  have HBB := Lib.hid hbb; clear hbb
  have hb1' : b1 ≤ 281474976710720 := by omega
  have hb2' : b2 ≤ 281474976710720 := by omega
  go_upto_block 0 with (fail)
  go_cut [5, 6] (fun s5 s6 wc => ∃ gx gy kx ky nx ny cx cy X Y px rx py ry, s5 = .slice (some ⟨gx, kx, none⟩) nx cx ∧ s6 = .slice (some ⟨gy, ky, none⟩) ny cy ∧ ny ≤ 4398046511105 ∧ nx ≤ 4398046511105 ∧ Hid (HEn w wc gx gy kx ky nx ny X Y px rx py ry G))
  case first =>
    go_wp2_with fail
    go_loopg [5, 6] (lval X + lval Y) (fun kk s5 s6 wr => ∃ gx gy kx ky nx ny cx cy X Y px rx py ry, kk = lval X + lval Y ∧ s5 = .slice (some ⟨gx, kx, none⟩) nx cx ∧ s6 = .slice (some ⟨gy, ky, none⟩) ny cy ∧ nx ≤ cx ∧ ny ≤ cy ∧ ny ≤ 4398046511105 ∧ nx ≤ 4398046511105 ∧ Hid (HSt w wr gx gy kx ky nx ny X Y px rx py ry G))
    case atStart => exact ⟨_, _, _, _, _, _, _, _, X, Y, _, _, _, _, rfl, rfl, rfl, hc1, hc2, hly', hlx', H4.out⟩
    case round =>
      clear hc1 hc2
      obtain ⟨gx, gy, kx, ky, nx, ny, cx, cy, X, Y, px, rx, py, ry, hgk, rfl, rfl, hcx, hcy, hny, hnx, hst⟩ := hrel
      have HGK := Lib.hid hgk; clear hgk
      have hxp := hst.out.oddx.pos
      have hyp := hst.out.oddy.pos
      have hnx0 : 0 < nx := by
        rcases Nat.eq_zero_or_pos nx with h | h
        · rw [hst.out.enx] at h; rw [List.eq_nil_of_length_eq_zero h] at hxp; exact absurd hxp (Nat.lt_irrefl _)
        · exact h
      have hny0 : 0 < ny := by
        rcases Nat.eq_zero_or_pos ny with h | h
        · rw [hst.out.eny] at h; rw [List.eq_nil_of_length_eq_zero h] at hyp; exact absurd hyp (Nat.lt_irrefl _)
        · exact h
      by_cases hex : 1 < nx ∨ 1 < ny
      · have hgo : ∃ bb : Bool, (decide (1 < nx) || decide (1 < ny)) = bb := ⟨_, rfl⟩
        rcases Nat.lt_or_ge 1 nx with h1 | h1
        all_goals
          try have h2 : 1 < ny := by omega
          try have h3 : ¬ 1 < nx := by omega
          go_wp2_with fail
          refine (below_any X Y (some ⟨gx, kx, none⟩) (some ⟨gy, ky, none⟩) nx ny cx cy _ hst.out.enx hst.out.eny (by omega) (by omega) hst.out.ox hst.out.oy hst.out.tx hst.out.ty (hst.out.bx.lAtW hst.out.ekx) (hst.out.by_.lAtW hst.out.eky)).mono ?_
          rintro e w5 ⟨rfl, hb5⟩
          have hs5 := hst.out.next hb5
          have HS5 := Lib.hid hs5; clear hs5 hb5
          go_upto_if 38 with (fail)
          go_cut [5, 6] (fun s5 s6 wc => ∃ gx' gy' kx' ky' nx' ny' cx' cy' X' Y' px' rx' py' ry', s5 = .slice (some ⟨gx', kx', none⟩) nx' cx' ∧ s6 = .slice (some ⟨gy', ky', none⟩) ny' cy' ∧ nx' ≤ cx' ∧ ny' ≤ cy' ∧ ny' ≤ 4398046511105 ∧ nx' ≤ 4398046511105 ∧ Hid (lval Y' ≤ lval X') ∧ Hid (lval X' + lval Y' = lval X + lval Y) ∧ Hid (HSt w wc gx' gy' kx' ky' nx' ny' X' Y' px' rx' py' ry' G))
          case first =>
            by_cases hlt : lval X < lval Y
            · have hd : decide (lval X < lval Y) = true := decide_eq_true hlt
              go_wp2_with fail
              go_meet
              exact ⟨_, _, _, _, _, _, _, _, Y, X, _, _, _, _, rfl, rfl, hcy, hcx, hnx, hny, Nat.le_of_lt hlt, Nat.add_comm _ _, HS5.out.swap⟩
            · have hd : decide (lval X < lval Y) = false := decide_eq_false hlt
              go_wp2_with fail
              go_meet
              exact ⟨_, _, _, _, _, _, _, _, X, Y, _, _, _, _, rfl, rfl, hcx, hcy, hny, hnx, Nat.le_of_not_lt hlt, rfl, HS5.out⟩
          case rest =>
            obtain ⟨gx', gy', kx', ky', nx', ny', cx', cy', X', Y', px', rx', py', ry', rfl, rfl, hcx', hcy', hny', hnx', hle, hsum, hst'⟩ := hcut
            have hnm : ny' ≤ nx' := by
              rw [hst'.out.enx, hst'.out.eny]
              exact len_of_lt hst'.out.ty (Nat.lt_of_le_of_lt hle.out (lval_lt hst'.out.ox))
            go_wp2_with fail
            refine (minus_any px' X' rx' Y' gx' kx' nx' ny' cx' cy' (some ⟨gy', ky', none⟩) _ hst'.out.ekx hst'.out.enx hst'.out.eny (by omega) hcx' hst'.out.ox hst'.out.oy hst'.out.bx (hst'.out.by_.lAtW hst'.out.eky) (fun b' off h => by cases h; exact fun e => hst'.out.ne e.symm) hle.out hnm).mono ?_
            rintro e w6 ⟨⟨Z, rz, rfl, hbz, hvz, htz, hoz, hlz⟩, hgr6⟩
            have hyb6 : Blk w6 gy' 59 (lcells (py' ++ Y' ++ ry')) := Blk.grown hst'.out.by_ hgr6 (fun e => hst'.out.ne (by cases e; rfl))
            have hbe6 : Below w.heap.size w w6 := hst'.out.below.trans (below_of_grown hgr6 hst'.out.below.size (fun k hk => by cases hk; exact hst'.out.gx0))
            have HZ := Lib.hid (And.intro hbz (And.intro hvz (And.intro htz (And.intro hoz (And.intro hyb6 hbe6))))); clear hbz hvz htz hoz hyb6 hbe6 hgr6
            rcases Nat.eq_zero_or_pos Z.length with hz | hz
            · have hz1 : (Z.length == 0) = true := by rw [beq_iff_eq]; exact hz
              have hz0 := List.eq_nil_of_length_eq_zero hz
              have hee : lval X' = lval Y' := by
                have h1 := HZ.out.2.1
                rw [hz0] at h1
                have h2 := hle.out
                have h3 : lval [] = 0 := rfl
                omega
              have HEE := Lib.hid (And.intro hz0 hee); clear hz0 hee
              have hcz : Z.length ≤ 4398046511105 := by omega
              generalize hzl : Z.length = zl at *
              have HZL := Lib.hid hzl; clear hzl
              obtain rfl : zl = 0 := hz
              go_wp2_with fail
              go_meet
              exact ⟨_, _, _, _, _, _, _, _, Z, Y', _, _, _, _, rfl, rfl, hny', hcz, hst'.out.ekx, hst'.out.eky, HZL.out.symm, hst'.out.eny, HZ.out.1, HZ.out.2.2.2.2.1, HZ.out.2.2.2.1, hst'.out.oy, HZ.out.2.2.2.2.2, hst'.out.ne, hst'.out.gx0, hst'.out.gy0, .inl ⟨rfl, by rw [← hst'.out.gcd, HEE.out.2, Nat.gcd_self]⟩⟩
            · have hz1 : (Z.length == 0) = false := by rw [beq_eq_false_iff_ne]; omega
              have hz2 : ((Z.length : Int) == 0) = false := by rw [beq_eq_false_iff_ne]; omega
              have hz0 : lval Z ≠ 0 := fun h => by rw [(lval_zero_iff HZ.out.2.2.1).1 h] at hz; simp at hz
              go_wp2_with fail
              refine (evens_any Z (some ⟨gx', kx', none⟩) _ _ _ rfl (by omega) HZ.out.2.2.2.1 hz0 (HZ.out.1.lAtW hst'.out.ekx) (HN.out.2.2.next HZ.out.2.2.2.2.2)).mono ?_
              rintro e w' ⟨⟨bz, qz, rfl, hbz, hqz⟩, rfl⟩
              have HQZ := Lib.hid hqz; clear hqz
              go_wp2_with fail
              refine (right_any px' Z rz gx' kx' _ _ bz _ hst'.out.ekx rfl (by omega) (by omega) HZ.out.2.2.2.1 hbz HZ.out.1).mono ?_
              rintro e w7 ⟨⟨p7, X7, r7, c7, rfl, hc7, hbx7, hvx7, htx7, hox7, hlx7⟩, hgr7⟩
              have hyb7 : Blk w7 gy' 59 (lcells (py' ++ Y' ++ ry')) := Blk.grown HZ.out.2.2.2.2.1 hgr7 (fun e => hst'.out.ne (by cases e; rfl))
              have hbe7 : Below w.heap.size w w7 := HZ.out.2.2.2.2.2.trans (below_of_grown hgr7 HZ.out.2.2.2.2.2.size (fun k hk => by cases hk; exact hst'.out.gx0))
              obtain ⟨r1', r2', r3'⟩ := gcd_round (X := lval X') (Y := lval Y') hst'.out.oddy hle.out (by rw [← HZ.out.2.1]; exact HQZ.out)
              rw [← HZ.out.2.1, ← hvx7] at r1' r2' r3'
              have HF := Lib.hid (show HSt w w7 gx' gy' p7.length ky' X7.length ny' X7 Y' p7 r7 py' ry' G from ⟨rfl, hst'.out.eky, rfl, hst'.out.eny, hbx7, hyb7, hox7, hst'.out.oy, htx7, hst'.out.ty, hbe7, hst'.out.ne, hst'.out.gx0, hst'.out.gy0, r2', hst'.out.oddy, r1'.trans hst'.out.gcd⟩)
              have HR := Lib.hid r3'; clear r1' r2' r3' hbx7 hvx7 htx7 hox7 hyb7 hbe7 hgr7
              go_wp2_with fail
              go_roundg (lval X7 + lval Y')
              case measure => rw [HGK.out]; have h1 := HR.out; have h2 := hsum.out; omega
              case rel => exact ⟨_, _, _, _, _, _, _, _, X7, Y', _, _, _, _, rfl, rfl, rfl, hc7, hcy', hny', by omega, HF.out⟩
      · have h1 : ¬ 1 < nx := by omega
        have h2 : ¬ 1 < ny := by omega
        go_wp2_with fail
        go_meet
        exact ⟨_, _, _, _, _, _, _, _, X, Y, _, _, _, _, rfl, rfl, hny, hnx, hst.out.ekx, hst.out.eky, hst.out.enx, hst.out.eny, hst.out.bx, hst.out.by_, hst.out.ox, hst.out.oy, hst.out.below, hst.out.ne, hst.out.gx0, hst.out.gy0, .inr ⟨by omega, by omega, hst.out.gcd⟩⟩
  case rest =>
    obtain ⟨gx, gy, kx, ky, nx, ny, cx, cy, X, Y, px, rx, py, ry, rfl, rfl, hny, hnx, hen⟩ := hcut
    rcases hen.out.fin with ⟨hx0, hyG⟩ | ⟨hx1, hy1, hgG⟩
    case' inl =>
      have hn1 : (nx == 1) = false := by rw [beq_eq_false_iff_ne]; omega
      have hn2 : ((nx : Int) == 1) = false := by rw [beq_eq_false_iff_ne]; omega
      have HX0 := Lib.hid (And.intro hx0 hyG); clear hx0 hyG
      go_upto_if 58 with (fail)
      go_cut [] (fun wc => ∃ Y', Hid (Blk wc gy 59 (lcells (py ++ Y' ++ ry)) ∧ Y'.length = ny ∧ Lok Y' ∧ lval Y' = G ∧ Below w.heap.size w wc))
      case first =>
        go_wp2_with fail
        go_meet
        exact ⟨Y, hen.out.by_, hen.out.eny.symm, hen.out.oy, HX0.out.2, hen.out.below⟩
      clear hn1 hn2
    case' inr =>
      have hn1 : (nx == 1) = true := by rw [beq_iff_eq]; exact hx1
      have hn2 : (ny == 1) = true := by rw [beq_iff_eq]; exact hy1
      have hn3 : ((nx : Int) == 1) = true := by rw [beq_iff_eq]; omega
      have hn4 : ((ny : Int) == 1) = true := by rw [beq_iff_eq]; omega
      have i1 : (0 : Int) < (nx : Int) := by omega
      have i2 : (0 : Int) < (ny : Int) := by omega
      obtain ⟨x, hxx⟩ := get_of_lt hen.out.enx (show 0 < nx by omega)
      obtain ⟨y, hyy⟩ := get_of_lt hen.out.eny (show 0 < ny by omega)
      have cx0 := (hen.out.bx.cell kx).trans (lcells_get (show (px ++ X ++ rx)[kx]? = some x by rw [hen.out.ekx]; exact win_get hxx))
      have cy0 := (hen.out.by_.cell ky).trans (lcells_get (show (py ++ Y ++ ry)[ky]? = some y by rw [hen.out.eky]; exact win_get hyy))
      have fy0 := hen.out.by_.frozen ky
      have hxl := hen.out.ox.get hxx
      have hyl := hen.out.oy.get hyy
      have HXY := Lib.hid (And.intro hxx (And.intro hyy (And.intro hx1 (And.intro hy1 hgG)))); clear hxx hyy hx1 hy1 hgG
      go_upto_if 58 with (fail)
      go_cut [] (fun wc => ∃ Y', Hid (Blk wc gy 59 (lcells (py ++ Y' ++ ry)) ∧ Y'.length = ny ∧ Lok Y' ∧ lval Y' = G ∧ Below w.heap.size w wc))
      case first =>
        go_wp2_with fail
        go_region_with (go_at_call 61; refine (common_any x y _ hxl hyl).mono ?_; rintro e w' ⟨rfl, nq, rfl⟩)
        all_goals
          go_wp2_with fail
          go_meet
          have hX1 : X = [x] := by
            have h1 := hen.out.enx; rw [HXY.out.2.2.1] at h1
            match X, h1, HXY.out.1 with
            | [z], _, h => cases h; rfl
          have hY1 : Y = [y] := by
            have h1 := hen.out.eny; rw [HXY.out.2.2.2.1] at h1
            match Y, h1, HXY.out.2.1 with
            | [z], _, h => cases h; rfl
          have hgl : Nat.gcd x y < 18446744073709551616 := by
            have h1 := hen.out.by_
            rcases Nat.eq_zero_or_pos x with h0 | h0
            · rw [h0, Nat.gcd_zero_left]; exact hyl
            · exact Nat.lt_of_le_of_lt (gcd_le' h0) hxl
          refine ⟨[Nat.gcd x y], ?_, by rw [HXY.out.2.2.2.1]; rfl, fun z hz => by rw [List.mem_singleton] at hz; rw [hz]; exact hgl, ?_, (below_drewN hen.out.below _).setCell hen.out.gy0 _⟩
          · have h1 := (hen.out.by_.drewN (1 + nq)).set_ ky (.int .u64 ((Nat.gcd x y : Nat) : Int))
            rw [lcells_set, hen.out.eky, show py.length = py.length + 0 from rfl, win_set (by rw [hY1]; exact Nat.zero_lt_one), hY1] at h1
            rw [hen.out.eky]
            exact h1
          · have := HXY.out.2.2.2.2
            rw [hX1, hY1] at this
            simpa [lval] using this
      clear hn1 hn2 hn3 hn4 i1 i2 cx0 cy0 fy0 hxl hyl
    all_goals
      obtain ⟨Y', hY'⟩ := hcut
      obtain ⟨wo, rfl⟩ : ∃ wo : World, wo = wc := ⟨_, rfl⟩
      have hmk := make_bytes (8 * ny) (by omega)
      have ec : ((8 * ny : Nat) : Int) = 8 * (ny : Int) := by omega
      rw [ec] at hmk
      go_wp2_with fail
      clear hmk
      have hgyl : gy < wo.heap.size := hY'.out.1.lt
      go_loopg [74] ny (fun kk i wr => ∃ (j : Nat) (bs : List UInt8), kk = ny - j ∧ j ≤ ny ∧ i = .int .i64 (j : Nat) ∧ Hid (Below wo.heap.size wo wr) ∧ Hid (Blk wr wo.heap.size 5 (bcells bs)) ∧ Hid (bs.length = 8 * ny ∧ bval (bs.drop (8 * (ny - j))) = lval (Y'.take j)))
      case atStart =>
        refine ⟨0, List.replicate (8 * ny) 0, rfl, Nat.zero_le _, rfl, (Below.refl _ _).alloc (Nat.le_refl _) _, Blk.new _ _ _, by simp, ?_⟩
        rw [Nat.sub_zero, List.drop_of_length_le (by simp)]; rfl
      case round =>
        obtain ⟨j, bs, hgk, hj, rfl, hbe, hbs, hbl⟩ := hrel
        have HGK := Lib.hid hgk; clear hgk
        by_cases hlt : j < ny
        · obtain ⟨x, hxx⟩ := get_of_lt hY'.out.2.1.symm hlt
          have c0 := ((hY'.out.1.belowB hbe.out).cell (ky + j)).trans (lcells_get (show (py ++ Y' ++ ry)[ky + j]? = some x by rw [hen.out.eky]; exact win_get hxx))
          have hxl := hY'.out.2.2.1.get hxx
          have HX2 := Lib.hid hxx; clear hxx
          have ek : (ny : Int) - 1 - (j : Int) = ((ny - 1 - j : Nat) : Int) := by omega
          obtain ⟨m, hm⟩ : ∃ m, m = ny - 1 - j := ⟨_, rfl⟩
          rw [← hm] at ek
          have hm1 : m + 1 + j = ny := by omega
          have HM := Lib.hid hm1
          have hm2 : 8 * m + 8 ≤ 8 * ny := by omega
          clear hm hm1
          go_wp2_with fail
          obtain ⟨wu, rfl⟩ : ∃ wu : World, wu = wr := ⟨_, rfl⟩
          go_loopg [79] 8 (fun kk s79 wi => ∃ (k : Nat) (cs : List UInt8), kk = 8 - k ∧ k ≤ 8 ∧ s79 = .int .i64 (k : Nat) ∧ Hid (Below wo.heap.size wo wi) ∧ Hid (Blk wi wo.heap.size 5 (bcells cs)) ∧ Hid (cs.length = 8 * ny ∧ cs.drop (8 * (m + 1)) = bs.drop (8 * (m + 1)) ∧ bval ((cs.drop (8 * m)).take k) = x / 256 ^ (8 - k)))
          case atStart => exact ⟨0, bs, rfl, by omega, rfl, hbe.out, hbs.out, hbl.out.1, rfl, (lb_zero hxl).symm⟩
          case round =>
            obtain ⟨k, cs, hgk2, hk8, rfl, hbe2, hcs, hcl⟩ := hrel
            have HGK2 := Lib.hid hgk2; clear hgk2
            by_cases hk : k < 8
            · obtain ⟨c, hc⟩ := get_of_lt hcl.out.1.symm (show 8 * m + k < 8 * ny by omega)
              have d0 := (hcs.out.cell (8 * m + k)).trans (bcells_get hc)
              have f0 := hcs.out.frozen (8 * m + k)
              clear hc
              have s1 : (0 : Int) ≤ 56 - 8 * (k : Int) := by omega
              have s2 : (56 - 8 * (k : Int)).toNat = 56 - 8 * k := by omega
              have s3 : (8 : Int) * (m : Int) + (k : Int) < 8 * (ny : Int) := by omega
              go_wp2_with fail
              rw [lb_byte hk]
              go_roundg (8 - (k + 1))
              case measure => rw [HGK2.out]; omega
              case rel =>
                refine ⟨k + 1, cs.set (8 * m + k) (UInt8.ofNat (x / 256 ^ (7 - k) % 256)), rfl, by omega, by go_num, hbe2.out.setCell (Nat.le_refl _) _, ?_, by rw [List.length_set]; exact hcl.out.1, ?_, lb_round hxl hk (by rw [hcl.out.1]; omega) hcl.out.2.2⟩
                · rw [← bcells_set]; exact hcs.out.set_ _ _
                · rw [List.drop_set_of_lt (by omega)]; exact hcl.out.2.1
            · obtain rfl : k = 8 := by omega
              go_wp2_with fail
              go_roundg (ny - (j + 1))
              case measure => rw [HGK.out]; omega
              case rel =>
                refine ⟨j + 1, cs, rfl, by omega, by go_num, hbe2.out, hcs.out, hcl.out.1, ?_⟩
                have h9 := HM.out
                rw [show ny - (j + 1) = m by omega]
                have h8 := hcl.out.2.2
                rw [Nat.sub_self, Nat.pow_zero, Nat.div_one] at h8
                exact lb_limb hcl.out.1 HM.out hcl.out.2.1 (by rw [show m + 1 = ny - j by omega]; exact hbl.out.2) HX2.out h8
        · obtain rfl : j = ny := by omega
          have hbv : bval bs = G := by
            have := hbl.out.2
            rw [Nat.sub_self, Nat.mul_zero, List.drop_zero, List.take_of_length_le (by rw [hY'.out.2.1]; exact Nat.le_refl _), hY'.out.2.2.2.1] at this
            exact this
          have HBV := Lib.hid hbv; clear hbv
          obtain ⟨nn, hnn⟩ : ∃ nn, nn = min b1 b2 := ⟨_, rfl⟩
          have emin : min (b1 : Int) (b2 : Int) = (nn : Int) := by rw [hnn]; omega
          have hnl : nn ≤ 281474976710720 := by omega
          have HNN := Lib.hid hnn; clear hnn
          have hmk := make_bytes (nn / 8 + 1) (by omega)
          have ec : ((nn / 8 + 1 : Nat) : Int) = (nn : Int) / 8 + 1 := by omega
          rw [ec] at hmk
          have t1 : (0 : Int) < (nn : Int) / 8 + 1 := by omega
          obtain ⟨ps, hps⟩ : ∃ ps : List UInt8, ps = UInt8.ofNat (2 ^ (nn % 8)) :: List.replicate (nn / 8) 0 := ⟨_, rfl⟩
          have hcs : (bcells (List.replicate (nn / 8 + 1) 0)).setIfInBounds 0 (Value.int .u8 ((2 : Int) ^ (nn % 8) % 256)) = bcells ps := by
            have h1 : 2 ^ (nn % 8) ≤ 2 ^ 7 := Nat.pow_le_pow_right (by omega) (by omega)
            have h2 : ((2 : Int) ^ (nn % 8) % 256) = ((UInt8.ofNat (2 ^ (nn % 8))).toNat : Int) := by
              rw [UInt8.toNat_ofNat_of_lt' (by simp [UInt8.size]; omega)]
              have h3 : ((2 : Int) ^ (nn % 8)) = ((2 ^ (nn % 8) : Nat) : Int) := by rw [Int.natCast_pow]; rfl
              rw [h3]; generalize 2 ^ (nn % 8) = z at h1 ⊢; omega
            rw [h2, bcells_set, hps, List.replicate_succ]; rfl
          have hpl : ps.length = nn / 8 + 1 := by rw [hps, List.length_cons, List.length_replicate]
          have hpv : bval ps = 2 ^ nn := by rw [hps]; exact bval_power nn
          have hB1 : Blk (wr.alloc (.cells ((bcells (List.replicate (nn / 8 + 1) 0)).setIfInBounds 0 (Value.int .u8 ((2 : Int) ^ (nn % 8) % 256))) 5)) wo.heap.size 5 (bcells bs) := hbs.out.alloc _
          have hB2 : Blk (wr.alloc (.cells ((bcells (List.replicate (nn / 8 + 1) 0)).setIfInBounds 0 (Value.int .u8 ((2 : Int) ^ (nn % 8) % 256))) 5)) wr.heap.size 5 (bcells ps) := hcs ▸ Blk.new _ _ _
          have hst1 := bytes_back _ wo.heap.size (8 * j) bs hbl.out.1.symm (8 * j) _ hB1
          have hst2 := bytes_back _ wr.heap.size (nn / 8 + 1) ps hpl.symm (nn / 8 + 1) _ hB2
          have hW : Below w.heap.size w (wr.alloc (.cells ((bcells (List.replicate (nn / 8 + 1) 0)).setIfInBounds 0 (Value.int .u8 ((2 : Int) ^ (nn % 8) % 256))) 5)) := by
            have h1 := below_next hY'.out.2.2.2.2 hbe.out
            exact h1.alloc h1.size _
          have hgab : 2 ^ nn * G = Nat.gcd a b := by rw [HG.out, HNN.out]
          have hgp : 0 < Nat.gcd a b := Nat.gcd_pos_of_pos_left _ (Nat.pos_of_ne_zero HN.out.1.1)
          have hga := gcd_le' (b := b) (Nat.pos_of_ne_zero HN.out.1.1)
          have hG0 : 0 < G := by
            rcases Nat.eq_zero_or_pos G with h | h
            · rw [h, Nat.mul_zero] at hgab; omega
            · exact h
          have hGl : (bstr G).length ≤ 35184372088832 := Nat.le_trans (len_le_of_le (show G ≤ a from Nat.le_trans (by rw [← hgab]; exact Nat.le_mul_of_pos_left _ (Nat.pow_pos (by omega))) hga)) HN.out.2.1.1
          have hPl : (bstr (2 ^ nn)).length ≤ 35184372088832 := Nat.le_trans (len_le_of_le (show 2 ^ nn ≤ a from Nat.le_trans (by rw [← hgab]; exact Nat.le_mul_of_pos_right _ hG0) hga)) HN.out.2.1.1
          have hM1 : (⟨bs.toArray⟩ : ByteArray).size ≤ maxLen := by show bs.length ≤ _; rw [hbl.out.1]; unfold maxLen; omega
          have hM2 : (⟨ps.toArray⟩ : ByteArray).size ≤ maxLen := by show ps.length ≤ _; rw [hpl]; unfold maxLen; omega
          have HM9 := Lib.hid (And.intro (And.intro hpv (And.intro hM1 hM2)) (And.intro hGl (And.intro hPl (And.intro hgab hW)))); clear hps hcs hpl hpv hB1 hB2 hW hgab hgp hga hG0 hGl hPl hM1 hM2
          go_wp2_with fail
          refine (mul_any ⟨bs.toArray⟩ ⟨ps.toArray⟩ G (2 ^ nn) _ ⟨HBV.out, HM9.out.1.1, HM9.out.1.2.1, HM9.out.1.2.2⟩ HM9.out.2.1 HM9.out.2.2.1).mono ?_
          rw [Nat.mul_comm G, HM9.out.2.2.2.1]
          rintro e w9 ⟨rfl, hb9⟩
          have HB9 := Lib.hid hb9; clear hb9
          go_wp2_with fail
          go_ret
          exact ⟨rfl, below_next HM9.out.2.2.2.2 HB9.out⟩
end Go.Proofs.YtlfddhiimcophaaDoor
