/- Walk: stateOf (reference). -/
import Derived.Test.YtnaiflokmihmeaaActJ
namespace Go.Proofs.Ytnaiflokmihmeaa
open Go.RowKit
set_option linter.unusedVariables false
set_option linter.unusedSimpArgs false

/-- a world in a variable, and its set -/
structure SOS (w : World) (sl : Int) (r : Raw) (s : List Ft) (wr : World) : Prop where
  bel : Below w.heap.size w wr
  one : Blk wr w.heap.size 25 (wcs sl r)
  st : SetN valF wr (w.heap.size + 1) s
section
variable {w wr w' : World} {sl : Int} {r : Raw} {s : List Ft}
theorem SOS.start (w : World) (sl : Int) (r : Raw) : SOS w sl r [] ((w.alloc (.cells (wcs sl r) 25)).alloc (.map #[] 0)) := by
  have hz : ((w.alloc (.cells (wcs sl r) 25))).heap.size = w.heap.size + 1 := by simp
  refine ⟨((Below.refl _ _).alloc (Nat.le_refl _) _).alloc (by simp) _, (Blk.new _ _ _).alloc _, ?_⟩
  have h := SetN.made (enc := valF) (w.alloc (.cells (wcs sl r) 25))
  rwa [hz] at h
theorem SOS.cells (h : SOS w sl r s wr) : wr.cell? ⟨w.heap.size, 0, none⟩ = some (.int .i64 sl) ∧ wr.cell? ⟨w.heap.size, 1, none⟩ = some (.slice r.A1 r.n1 r.c1) ∧ wr.cell? ⟨w.heap.size, 2, none⟩ = some (.slice r.A2 r.n2 r.c2) ∧ wr.cell? ⟨w.heap.size, 3, none⟩ = some (.slice r.A3 r.n3 r.c3) := ⟨h.one.cell 0, h.one.cell 1, h.one.cell 2, h.one.cell 3⟩
theorem SOS.put (h : SOS w sl r s wr) {s' : List Ft} (hs : SetN valF w' (w.heap.size + 1) s') (hg : wr.grownBy w' (some (w.heap.size + 1))) : SOS w sl r s' w' :=
  ⟨h.bel.grown hg h.bel.size (fun k hk => by cases hk; omega), h.one.grown hg (fun e => by injection e with e; omega), hs⟩
end
def StPost (d : Wd) (w : World) (e : Ending) (w' : World) : Prop := ∃ b, e = .returned (.map (some b)) ∧ w.heap.size ≤ b ∧ StAt d b w' ∧ Below w.heap.size w w'
def Tells (s : List Ft) (p : Ft → Prop) : Prop := s.Nodup ∧ ∀ f, f ∈ s ↔ p f
theorem Tells.put {s : List Ft} {p q : Ft → Prop} (h : Tells s p) (g : Ft) (hq : ∀ f, q f ↔ p f ∨ f = g) : Tells (sput s g) q := ⟨sput_nodup h.1, fun f => by rw [sput_mem, hq f, h.2 f]⟩
theorem Tells.del {s : List Ft} {p q : Ft → Prop} (h : Tells s p) (g : Ft) (hq : ∀ f, q f ↔ p f ∧ f ≠ g) : Tells (s.erase g) q := ⟨h.1.erase g, fun f => by rw [h.1.mem_erase_iff, hq f, h.2 f, and_comm]⟩
theorem Tells.re {s : List Ft} {p q : Ft → Prop} (h : Tells s p) (hq : ∀ f, q f ↔ p f) : Tells s q := ⟨h.1, fun f => by rw [hq f, h.2 f]⟩

set_option maxHeartbeats 4000000 in
set_option maxRecDepth 20000 in
theorem stateOf_any (d : Wd) (r : Raw) (w : World) (h : WOk w r d) (hv : Vd d) : Calls Try.prog 82 #[wv d.sl r] w (StPost d w) := by
  have HFS := Lib.hid (SOS.start w d.sl r)
  have H1 := Lib.hid h.h1
  have H2 := Lib.hid h.h2
  have H3 := Lib.hid h.h3
  have I1 := Lib.hid h.i1
  have I2 := Lib.hid h.i2
  have I3 := Lib.hid h.i3
  have m1 := Nat.le_trans h.l1 h.m1
  have m2 := Nat.le_trans h.l2 h.m2
  have m3 := Nat.le_trans h.l3 h.m3
  have HVD := Lib.hid hv
  have q1 := hv.p6
  have q3 := hv.s4
  have q0 := hv.sl0
  have q8 := hv.sl8
  have e1 := h.h1
  have e3 := h.h3
  have e2 := h.h2
  have e4 := hv.se
  obtain ⟨A1, n1, c1, A2, n2, c2, A3, n3, c3⟩ := r
  dsimp only at m1 m2 m3 e1 e2 e3
  have b1 : n1 ≤ 6 := by omega
  have b3 : n3 ≤ 4 := by omega
  have b2 : n2 = n1 := by omega
  subst b2
  obtain ⟨ns, hns⟩ := Int.eq_ofNat_of_zero_le q0
  have HNS : Hid (d.sl.toNat = ns) := Lib.hid (by omega)
  have b8 : ns ≤ 8 := by omega
  clear h hv q1 q3 q0 q8 e1 e2 e3 e4
  unfold wv wcs
  unfold wcs at HFS
  dsimp only at HFS H1 H2 H3 I1 I2 I3 ⊢
  rw [hns] at HFS ⊢
  clear hns
  have hmm := @run_makeMap Try.prog
  go_enter Try.func82, Try.ntmps82
  go_wp2_with fail
  clear hmm
  obtain ⟨k0, k1, k2, k3⟩ := HFS.out.cells
  dsimp only at k0 k1 k2 k3
  go_wp2_with fail
  clear k0 k1 k2 k3
  go_loopg [12] ns (fun kx i wr => ∃ (j : Nat) (s : List Ft), kx = ns - j ∧ j ≤ ns ∧ i = .int .i64 j ∧ Hid (SOS w (ns : Int) ⟨A1, n2, c1, A2, n2, c2, A3, n3, c3⟩ s wr) ∧ Hid (Tells s (stF d j 0 0 0)))
  case atStart => exact ⟨0, [], by omega, Nat.zero_le _, rfl, HFS.out, Lib.hid ⟨List.nodup_nil, fun f => by
    constructor
    · intro h; cases h
    · rintro (h | h | ⟨_, _, q, _, h, _⟩ | ⟨_, _, q, _, h, _⟩ | ⟨_, _, q, _, h, _⟩ | ⟨_, _, q, _, h, _⟩) <;> omega⟩⟩
  case round =>
    clear HFS
    obtain ⟨j, s, hgk, hj, rfl, HSO, HT⟩ := hrel
    have HGK := Lib.hid hgk; clear hgk
    by_cases hlt : j < ns
    · go_wp2_with (at_mapUpdate; refine wpList_set_put _ rfl _ _ _ 114 rfl klaw_ft Try.underlying114 HSO.out.st ⟨4, (j : Int), 0⟩ rfl rfl rfl ?_; intro w5 hs5 hg5 hz5)
      have HSP := Lib.hid (HSO.out.put hs5 hg5)
      clear hs5 hg5 hz5
      go_roundg (ns - (j + 1))
      case measure => rw [HGK.out]; omega
      case rel => exact ⟨j+1, _, rfl, hlt, by go_num, HSP, Lib.hid (HT.out.put ⟨4, (j : Int), 0⟩ (st_slot d j))⟩
    · obtain rfl : j = ns := by omega
      obtain ⟨k0, k1, k2, k3⟩ := HSO.out.cells
      dsimp only at k0 k1 k2 k3
      go_wp2_with fail
      clear k0 k1 k2 k3
      go_loopg [22] n3 (fun kx i wr => ∃ (q : Nat) (s : List Ft), kx = n3 - q ∧ q ≤ n3 ∧ i = .int .i64 q ∧ Hid (SOS w (j : Int) ⟨A1, n2, c1, A2, n2, c2, A3, n3, c3⟩ s wr) ∧ Hid (Tells s (stF d j q 0 0)))
      case atStart => exact ⟨0, s, by omega, Nat.zero_le _, rfl, HSO, HT⟩
      case round =>
        clear HSO HT HGK
        obtain ⟨q, s, hgk, hq, rfl, HSO, HT⟩ := hrel
        have HGK := Lib.hid hgk; clear hgk
        by_cases hlt3 : q < n3
        · obtain ⟨x, hx⟩ := get_of_lt H3.out hlt3
          obtain ⟨b, off, rfl, hb, hc0⟩ := I3.out q x hx
          have hc := (HSO.out.bel.cell (p := ⟨b, off + q, none⟩) hb).trans hc0
          have HX := Lib.hid (st_arm d j q x hx)
          clear hx hc0
          by_cases hx0 : 0 ≤ x
          · go_wp2_with (first | (at_mapUpdate; refine wpList_set_put _ rfl _ _ _ 114 rfl klaw_ft Try.underlying114 hs5 ⟨6, (q : Int), x⟩ rfl rfl rfl ?_; intro w6 hs6 hg6 hz6) | (at_mapUpdate; refine wpList_set_put _ rfl _ _ _ 114 rfl klaw_ft Try.underlying114 HSO.out.st ⟨3, (q : Int), 0⟩ rfl rfl rfl ?_; intro w5 hs5 hg5 hz5))
            have HSP := Lib.hid ((HSO.out.put hs5 hg5).put hs6 hg6)
            clear hs5 hg5 hz5 hs6 hg6 hz6
            go_roundg (n3 - (q + 1))
            case measure => rw [HGK.out]; omega
            case rel => exact ⟨q+1, _, rfl, hlt3, by go_num, HSP, Lib.hid ((HT.out.put ⟨3, (q : Int), 0⟩ (fun f => Iff.rfl)).put ⟨6, (q : Int), x⟩ (fun f => by rw [HX.out f]; simp only [hx0, true_and]))⟩
          · have hx1 : x < 0 := by omega
            clear hx0
            go_wp2_with (first | (at_mapUpdate; refine wpList_set_put _ rfl _ _ _ 114 rfl klaw_ft Try.underlying114 HSO.out.st ⟨3, (q : Int), 0⟩ rfl rfl rfl ?_; intro w5 hs5 hg5 hz5))
            have HSP := Lib.hid (HSO.out.put hs5 hg5)
            clear hs5 hg5 hz5
            go_roundg (n3 - (q + 1))
            case measure => rw [HGK.out]; omega
            case rel => exact ⟨q+1, _, rfl, hlt3, by go_num, HSP, Lib.hid ((HT.out.put ⟨3, (q : Int), 0⟩ (fun f => Iff.rfl)).re (fun f => by rw [HX.out f]; exact ⟨fun h => h.resolve_right (fun h2 => by omega), .inl⟩))⟩
        · obtain rfl : q = n3 := by omega
          obtain ⟨k0, k1, k2, k3⟩ := HSO.out.cells
          dsimp only at k0 k1 k2 k3
          go_wp2_with fail
          clear k0 k1 k2 k3
          go_loopg [40] n2 (fun kx i wr => ∃ (p : Nat) (s : List Ft), kx = n2 - p ∧ p ≤ n2 ∧ i = .int .i64 p ∧ Hid (SOS w (j : Int) ⟨A1, n2, c1, A2, n2, c2, A3, q, c3⟩ s wr) ∧ Hid (Tells s (stF d j q p p)))
          case atStart => exact ⟨0, s, by omega, Nat.zero_le _, rfl, HSO, HT⟩
          case round =>
            clear HSO HT HGK
            obtain ⟨p, s, hgk, hp, rfl, HSO, HT⟩ := hrel
            have HGK := Lib.hid hgk; clear hgk
            by_cases hltp : p < n2
            · obtain ⟨x, hx⟩ := get_of_lt H1.out hltp
              obtain ⟨b, off, rfl, hb, hc0⟩ := I1.out p x hx
              have hc := (HSO.out.bel.cell (p := ⟨b, off + p, none⟩) hb).trans hc0
              obtain ⟨y, hy⟩ := get_of_lt H2.out hltp
              obtain ⟨b2, off2, rfl, hb2, hd0⟩ := I2.out p y hy
              have HD0 := Lib.hid hd0
              have HX := Lib.hid (st_part d j q p x hx (fun hne hm => by
                obtain ⟨i, hi⟩ := List.mem_iff_getElem?.1 hm
                have hil : i < p := by have := (List.getElem?_eq_some_iff.1 hi).1; rw [List.length_take] at this; omega
                rw [List.getElem?_take, if_pos hil] at hi
                have := HVD.out.pun i p x hi hx hne
                omega))
              have HY := Lib.hid (st_seen d j q p y hy)
              have hxl := (HVD.out.plo p x hx)
              have hxl2 : -1 - (q : Int) ≤ x := by have := hxl.2; rw [← H3.out] at this; exact this
              clear hx hc0 hy hd0 hxl
              have i1 : (0 : Int) ≤ (p : Int) := by omega
              have i2 : (p : Int) < (n2 : Int) := by omega
              have hcs : 0 ≤ x ∨ x < -1 ∨ x = -1 := by omega
              rcases hcs with hc9 | hc9 | hc9
              · have hx0 := hc9
                have HTA := Lib.hid ((HT.out.del ⟨4, x, 0⟩ (fun f => Iff.rfl)).put (q := stF d j q (p+1) p) ⟨1, (p : Int), x⟩ (fun f => by rw [HX.out f, if_pos hc9]))
                go_upto_region 23 with (first | (at_mapUpdate; refine wpList_set_put _ rfl _ _ _ 114 rfl klaw_ft Try.underlying114 hs5 ⟨1, (p : Int), x⟩ rfl rfl rfl ?_; intro w6 hs6 hg6 hz6) | (at_delete; refine wpList_set_del _ rfl _ _ 114 45 rfl klaw_ft Try.underlying114 HSO.out.st ⟨4, x, 0⟩ rfl rfl ?_; intro w5 hs5 hg5 hz5))
                have HSP := Lib.hid ((HSO.out.put hs5 hg5).put hs6 hg6)
                clear hs5 hg5 hz5 hs6 hg6 hz6 hc
                obtain ⟨k0, k1, k2, k3⟩ := HSP.out.cells
                dsimp only at k0 k1 k2 k3
                have hd := (HSP.out.bel.cell (p := ⟨b2, off2 + p, none⟩) hb2).trans HD0.out
                cases y with
                | false =>
                  have HTB := Lib.hid (HTA.out.re (q := stF d j q (p+1) (p+1)) (fun f => by rw [HY.out f]; exact ⟨fun h => h.resolve_right (fun h2 => by cases h2.1), .inl⟩))
                  go_wp2_with fail
                  go_roundg (n2 - (p + 1))
                  case measure => rw [HGK.out]; omega
                  case rel => exact ⟨p+1, _, rfl, hltp, by go_num, HSP, HTB⟩
                | true =>
                  have HTB := Lib.hid (HTA.out.put (q := stF d j q (p+1) (p+1)) ⟨5, (p : Int), 0⟩ (fun f => by rw [HY.out f]; simp only [true_and]))
                  go_wp2_with (first | (at_mapUpdate; refine wpList_set_put _ rfl _ _ _ 114 rfl klaw_ft Try.underlying114 HSP.out.st ⟨5, (p : Int), 0⟩ rfl rfl rfl ?_; intro w7 hs7 hg7 hz7))
                  have HSQ := Lib.hid (HSP.out.put hs7 hg7)
                  clear hs7 hg7 hz7
                  go_roundg (n2 - (p + 1))
                  case measure => rw [HGK.out]; omega
                  case rel => exact ⟨p+1, _, rfl, hltp, by go_num, HSQ, HTB⟩
              · have hx0 : x < 0 := by omega
                have hw := i64_w (-2 - x) (by omega) (by omega)
                have HTA := Lib.hid ((HT.out.del ⟨3, -2 - x, 0⟩ (fun f => Iff.rfl)).put (q := stF d j q (p+1) p) ⟨2, -2 - x, (p : Int)⟩ (fun f => by rw [HX.out f, if_neg (by omega), if_pos hc9]))
                go_upto_region 23 with (first | (at_mapUpdate; refine wpList_set_put _ rfl _ _ _ 114 rfl klaw_ft Try.underlying114 hs5 ⟨2, -2 - x, (p : Int)⟩ rfl rfl rfl ?_; intro w6 hs6 hg6 hz6) | (at_delete; refine wpList_set_del _ rfl _ _ 114 45 rfl klaw_ft Try.underlying114 HSO.out.st ⟨3, -2 - x, 0⟩ rfl rfl ?_; intro w5 hs5 hg5 hz5))
                have HSP := Lib.hid ((HSO.out.put hs5 hg5).put hs6 hg6)
                clear hs5 hg5 hz5 hs6 hg6 hz6 hc
                obtain ⟨k0, k1, k2, k3⟩ := HSP.out.cells
                dsimp only at k0 k1 k2 k3
                have hd := (HSP.out.bel.cell (p := ⟨b2, off2 + p, none⟩) hb2).trans HD0.out
                cases y with
                | false =>
                  have HTB := Lib.hid (HTA.out.re (q := stF d j q (p+1) (p+1)) (fun f => by rw [HY.out f]; exact ⟨fun h => h.resolve_right (fun h2 => by cases h2.1), .inl⟩))
                  go_wp2_with fail
                  go_roundg (n2 - (p + 1))
                  case measure => rw [HGK.out]; omega
                  case rel => exact ⟨p+1, _, rfl, hltp, by go_num, HSP, HTB⟩
                | true =>
                  have HTB := Lib.hid (HTA.out.put (q := stF d j q (p+1) (p+1)) ⟨5, (p : Int), 0⟩ (fun f => by rw [HY.out f]; simp only [true_and]))
                  go_wp2_with (first | (at_mapUpdate; refine wpList_set_put _ rfl _ _ _ 114 rfl klaw_ft Try.underlying114 HSP.out.st ⟨5, (p : Int), 0⟩ rfl rfl rfl ?_; intro w7 hs7 hg7 hz7))
                  have HSQ := Lib.hid (HSP.out.put hs7 hg7)
                  clear hs7 hg7 hz7
                  go_roundg (n2 - (p + 1))
                  case measure => rw [HGK.out]; omega
                  case rel => exact ⟨p+1, _, rfl, hltp, by go_num, HSQ, HTB⟩
              · subst hc9
                have HTA := Lib.hid (HT.out.re (q := stF d j q (p+1) p) (fun f => by rw [HX.out f, if_neg (by omega), if_neg (by omega)]))
                go_upto_region 23 with (fail)
                have HSP := HSO
                clear hc
                obtain ⟨k0, k1, k2, k3⟩ := HSP.out.cells
                dsimp only at k0 k1 k2 k3
                have hd := (HSP.out.bel.cell (p := ⟨b2, off2 + p, none⟩) hb2).trans HD0.out
                cases y with
                | false =>
                  have HTB := Lib.hid (HTA.out.re (q := stF d j q (p+1) (p+1)) (fun f => by rw [HY.out f]; exact ⟨fun h => h.resolve_right (fun h2 => by cases h2.1), .inl⟩))
                  go_wp2_with fail
                  go_roundg (n2 - (p + 1))
                  case measure => rw [HGK.out]; omega
                  case rel => exact ⟨p+1, _, rfl, hltp, by go_num, HSP, HTB⟩
                | true =>
                  have HTB := Lib.hid (HTA.out.put (q := stF d j q (p+1) (p+1)) ⟨5, (p : Int), 0⟩ (fun f => by rw [HY.out f]; simp only [true_and]))
                  go_wp2_with (first | (at_mapUpdate; refine wpList_set_put _ rfl _ _ _ 114 rfl klaw_ft Try.underlying114 HSP.out.st ⟨5, (p : Int), 0⟩ rfl rfl rfl ?_; intro w7 hs7 hg7 hz7))
                  have HSQ := Lib.hid (HSP.out.put hs7 hg7)
                  clear hs7 hg7 hz7
                  go_roundg (n2 - (p + 1))
                  case measure => rw [HGK.out]; omega
                  case rel => exact ⟨p+1, _, rfl, hltp, by go_num, HSQ, HTB⟩
            · obtain rfl : p = n2 := by omega
              have HIN : Hid (Tells s (inS d)) := Lib.hid (HT.out.re (fun f => by unfold inS; rw [HNS.out, ← H3.out, ← H1.out]))
              go_wp2_with fail
              go_ret
              exact ⟨_, rfl, Nat.le_succ _, ⟨s, HSO.out.st, HIN.out.1, HIN.out.2⟩, HSO.out.bel⟩
end Go.Proofs.Ytnaiflokmihmeaa
