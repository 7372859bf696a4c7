/- Walk: touch (package order). -/
import Derived.Test.YtnaiflokmihmeaaObB
import Derived.Test.YtnaiflokmihmeaaInvT
import Derived.Great.BuildSlice
namespace Go.Proofs.Ytnaiflokmihmeaa
open Go.RowKit
set_option linter.unusedVariables false
set_option linter.unusedSimpArgs false

theorem fill_oneY (y : Int) : Instr.fill (fun i => some (i * 1, 1)) (Array.map (fun x => (Value.int .i64 0).cells[x % (Value.int .i64 0).cells.size]!) (Array.range (1 * 1))) #[(0, .int .i64 y)].toList = some #[.int .i64 y] := by kernel_rfl
theorem run_oneY (y : Int) (w : World) : ((do pure (.value (← Instr.buildSlice 22 1 #[(0, .int .i64 y)])) : Sem Next)).run Try.prog w = .ok (.value (.slice (some ⟨w.heap.size, 0, none⟩) 1 1)) (w.alloc (.cells #[.int .i64 y] 3)) := by
  obtain ⟨i, hi, hz, hs, hb⟩ := info_parts infoI
  rw [Sem.run_bind, run_buildSlice w _ _ 1 #[(0, .int .i64 y)] #[.int .i64 y] i _ Try.underlying22 hi hz (by rw [hs]; decide) (by rw [hs]; decide) (by rw [hs]; exact fill_oneY y)]
  rfl
def isOneY (y : Int) : Told := fun u w => ∃ g, u = .slice (some ⟨g, 0, none⟩) 1 1 ∧ Blk w g 3 #[.int .i64 y]
theorem isOneY_st {y : Int} (v : Value) (w w' : World) (h : isOneY y v w) (hb : Below w.heap.size w w') : isOneY y v w' := by
  obtain ⟨g, e, h1⟩ := h
  exact ⟨g, e, h1.belowB hb⟩
theorem run_fldO1 (p : Nat) (w : World) : (Instr.fieldAt 39 (.pointer (some ⟨p, 0, none⟩)) 1).run Try.prog w = .ok (.pointer (some ⟨p, 1, none⟩)) w := by kernel_rfl
theorem add_ob (x y : Operand) (h : Int) (hh : -1000 ≤ h ∧ h ≤ 1000) (w : World) : ((do eqGuard .add 3 x y (.int .i64 10) (.int .i64 h); binOp .add 3 (.int .i64 10) (.int .i64 h) : Sem Value)).run Try.prog w = .ok (.int .i64 (10 + h)) w := by
  have hw := i64_w (10 + h) (by omega) (by omega)
  go_simp
theorem run_storeS (w : World) (p : Nat) (v : Value) (A : Option Addr) (n c : Nat) (h : w.cell? ⟨p, 0, none⟩ = some v) (hf : w.frozen? ⟨p, 0, none⟩ = false) : (Instr.storeAt 22 (.pointer (some ⟨p, 0, none⟩)) (.slice A n c)).run Try.prog w = .ok () (w.setCell ⟨p, 0, none⟩ (.slice A n c)) := by
  go_simp
theorem spL_len (x : Int) : (spL x).length ≤ 1 := by unfold spL; split <;> simp
theorem ot_start (w : World) (d : Wd) (r : Raw) (s : Stp) : OT w w.heap.size (w.heap.size + 1) (w.heap.size + 3) d r s (.slice (some ⟨w.heap.size + 2, 0, none⟩) 1 1) [s.a]
    ((((w.alloc (.cells (wcs d.sl r) 25)).alloc (.cells #[.int .i64 s.k, .int .i64 s.a, .int .i64 s.p, .int .i64 s.s, .int .i64 s.t] 39)).alloc (.cells #[.int .i64 s.a] 3)).alloc (.cells #[.slice (some ⟨w.heap.size + 2, 0, none⟩) 1 1] 22)) := by
  have e1 : Below w.heap.size w (w.alloc (.cells (wcs d.sl r) 25)) := (Below.refl _ _).alloc (Nat.le_refl _) _
  have b1 := Blk.new w 25 (wcs d.sl r)
  generalize hw1 : w.alloc (.cells (wcs d.sl r) 25) = w1 at *
  have s1 : w1.heap.size = w.heap.size + 1 := by rw [← hw1]; simp
  have e2 : Below w1.heap.size w1 (w1.alloc (.cells #[.int .i64 s.k, .int .i64 s.a, .int .i64 s.p, .int .i64 s.s, .int .i64 s.t] 39)) := (Below.refl _ _).alloc (Nat.le_refl _) _
  have b2 := Blk.new w1 39 #[.int .i64 s.k, .int .i64 s.a, .int .i64 s.p, .int .i64 s.s, .int .i64 s.t]
  generalize hw2 : w1.alloc (.cells #[.int .i64 s.k, .int .i64 s.a, .int .i64 s.p, .int .i64 s.s, .int .i64 s.t] 39) = w2 at *
  have s2 : w2.heap.size = w.heap.size + 2 := by rw [← hw2]; simp [s1]
  have e3 : Below w2.heap.size w2 (w2.alloc (.cells #[.int .i64 s.a] 3)) := (Below.refl _ _).alloc (Nat.le_refl _) _
  have b3 := Blk.new w2 3 #[.int .i64 s.a]
  generalize hw3 : w2.alloc (.cells #[.int .i64 s.a] 3) = w3 at *
  have s3 : w3.heap.size = w.heap.size + 3 := by rw [← hw3]; simp [s2]
  have e4 : Below w3.heap.size w3 (w3.alloc (.cells #[.slice (some ⟨w.heap.size + 2, 0, none⟩) 1 1] 22)) := (Below.refl _ _).alloc (Nat.le_refl _) _
  have b4 := Blk.new w3 22 #[.slice (some ⟨w.heap.size + 2, 0, none⟩) 1 1]
  rw [s1] at b2
  rw [s2] at b3
  rw [s3] at b4
  have b3' := b3.belowB e4
  refine ⟨((e1.trans (e2.mono (by omega))).trans (e3.mono (by omega))).trans (e4.mono (by omega)), ((b1.belowB e2).belowB e3).belowB e4, (b2.belowB e3).belowB e4, b4, ⟨by simp [cellsI], .inr ⟨w.heap.size + 2, 1, _, rfl, by omega, b3', Nat.le_refl _, by unfold maxLen; omega, rfl, by simp [cellsI]⟩⟩, by omega, by omega, by omega⟩
/-- the things of a step that can be done -/
def TuPost (d : Wd) (s : Stp) (w : World) (e : Ending) (w' : World) : Prop := ∃ A c, e = .returned (.slice A (cL d s).length c) ∧ (cL d s).length ≤ c ∧ c ≤ maxLen ∧ IntsAt w' w'.heap.size A (cL d s) ∧ Below w.heap.size w w' ∧ ∀ ad, A = some ad → w.heap.size ≤ ad.block
theorem ot_sort {w wr : World} {p2 p3 p5 : Nat} {d : Wd} {r : Raw} {s : Stp} {A : Option Addr} {n c : Nat} {l : List Int} (h : OT w p2 p3 p5 d r s (.slice A n c) l wr) (hn : l.length = n) (h0 : 0 < n) (h6 : n ≤ 1000) :
    ∃ g, A = some ⟨g, 0, none⟩ ∧ Calls Try.prog 75 #[.slice (some ⟨g, 0, none⟩) n c] wr fun e w' => e = .returned (.tuple #[]) ∧ OT w p2 p3 p5 d r s (.slice (some ⟨g, 0, none⟩) n c) (l.mergeSort fun x y => decide (x ≤ y)) w' := by
  have hr := h.row
  rw [hn] at hr
  rcases hr.2 with ⟨_, h9⟩ | ⟨g, c', cur, hv, _⟩
  · omega
  · cases hv
    refine ⟨g, rfl, (sortR_any _ g n c l wr hn hr (by omega)).mono ?_⟩
    rintro e w' ⟨rfl, h1, h2⟩
    exact ⟨rfl, h.same h2 (by rw [List.length_mergeSort, hn]; exact h1)⟩
theorem ot_comp {w wr : World} {p2 p3 p5 g : Nat} {d : Wd} {r : Raw} {s : Stp} {n c : Nat} {l : List Int} (h : OT w p2 p3 p5 d r s (.slice (some ⟨g, 0, none⟩) n c) (l.mergeSort fun x y => decide (x ≤ y)) wr) (hn : l.length = n) (h6 : n ≤ 1000) (hl : toL d s = l) (hk : Okd d s) :
    Calls Try.prog 101 #[.slice (some ⟨g, 0, none⟩) n c] wr (TuPost d s w) := by
  have hr := h.row
  rw [List.length_mergeSort, hn] at hr
  refine (compR_any _ g n c _ wr (by rw [List.length_mergeSort, hn]) hr (by omega)).mono ?_
  rintro e w' ⟨rfl, h1, h2, h3, h4⟩
  subst hl
  rw [touch_eq hk] at h1 h2 ⊢
  exact ⟨_, c, rfl, h2, h3, h1, (h.bel).grown h4 h.bel.size (fun k hk => (h.row.lt k hk).1), fun ad ha => by cases ha; exact (h.row.lt g rfl).1⟩
theorem ot_post {d : Wd} {s : Stp} {w w' : World} {e : Ending} (h : TuPost d s w e w') : ∃ A n c, e = .returned (.slice A n c) ∧ TuPost d s w (.returned (.slice A n c)) w' := by
  obtain ⟨A, c, rfl, h1⟩ := h
  exact ⟨A, _, c, rfl, A, c, rfl, h1⟩
set_option maxHeartbeats 8000000 in
set_option maxRecDepth 20000 in
theorem touch_any (d : Wd) (r : Raw) (s : Stp) (w : World) (h : WOk w r d) (hc : canE d s = 0) : Calls Try.prog 73 #[wv d.sl r, sv s] w (TuPost d s w) := by
  have hk := okd_of hc
  have HOK := Lib.hid hk
  obtain ⟨_, hf, _⟩ := canE_inv hc
  obtain ⟨f1, f2, f3, f4⟩ := formB_inv hf
  have hn1 : r.n1 ≤ 1000000 := by have h8 := hk.v.p6; have h9 := h.h1; omega
  have HWH := Lib.hid (fun W (hb : Below w.heap.size w W) => whr_any d r s.p W (h.next hb) hn1)
  have HHO := Lib.hid (fun W (hb : Below w.heap.size w W) => holds_any d r s.a W (h.next hb))
  have HWB : Hid (-1000000 ≤ whr d s.p ∧ whr d s.p ≤ 1000000) := Lib.hid (by
    unfold whr
    have v1 := hk.v.sl8; have v2 := hk.v.p6; have p1 := hk.p1
    split
    · omega
    · rename_i h5
      have w2 := hk.v.plo _ _ (hk.place (by omega))
      split
      · omega
      · split <;> omega)
  have HHB : Hid (s.k = 2 → -1000 ≤ hold d s.a ∧ hold d s.a ≤ 1000) := Lib.hid (fun h2 => by have a1 := (hk.h h2).1; have a2 := hk.hlt h2; have a3 := hk.v.p6; omega)
  obtain ⟨an, han⟩ := Int.eq_ofNat_of_zero_le f3
  have hal : an < d.sp.length := by have := hk.a1; omega
  obtain ⟨x, hx⟩ := get_of_lt rfl hal
  have HXE : Hid (nthI d.sp an = x) := Lib.hid (nthI_get hx)
  have hxb := hk.v.slo _ _ hx
  have HXB : Hid (-1000000 ≤ x ∧ x ≤ 1000000) := Lib.hid (by have := hk.v.p6; omega)
  have HQB : Hid (-1000000 ≤ s.s ∧ s.s ≤ 1000000) := Lib.hid (by have a1 := hk.s1; have a2 := hk.v.sl8; omega)
  have hpb : s.p < 6 := by have a1 := hk.p1; have a2 := hk.v.p6; omega
  have hi3 := h.i3 an x hx
  have h3 := h.h3
  have HS0 := Lib.hid (ot_start w d r s)
  have HN3 : Hid (an < r.n3) := Lib.hid (by rw [h3]; exact hal)
  clear hk hf hc h hal hx hxb hn1 h3 f3
  obtain ⟨A1, n1, c1, A2, n2, c2, A3, n3, c3⟩ := r
  obtain ⟨k, a0, p, q, t⟩ := s
  dsimp only at f1 f2 f4 han hpb HQB HHB HWB hi3 HN3 HWH HHO
  subst han
  obtain ⟨b, off, rfl, hbb, hcc⟩ := hi3
  unfold wv wcs
  unfold wv wcs at HWH HHO
  unfold sv
  unfold wcs at HS0
  dsimp only at HWH HHO HS0 ⊢
  have hold_e : Hid (hold d (an : Int) = hold d (an : Int)) := Lib.hid rfl
  generalize hsl : d.sl = sl at *
  have j1 : (0 : Int) ≤ (an : Int) := by omega
  have j2 : (an : Int) < (n3 : Int) := by have := HN3.out; omega
  have hcs : ((k = 0 ∧ 0 ≤ p ∧ q = -1) ∨ (k = 0 ∧ p = -1 ∧ 0 ≤ q) ∨ ((k = 1 ∨ k = 3) ∧ 0 ≤ p ∧ q = -1) ∨ (k = 2 ∧ p = -1 ∧ 0 ≤ q) ∨ (k = 4 ∧ p = -1 ∧ q = -1)) := by
    rcases f4 with ⟨e1, e2, e3⟩ | ⟨e1, e2, e3, e4⟩ | ⟨e1, e2, e3, e4⟩ | ⟨e1, e2, e3, e4⟩
    · by_cases h1 : 0 ≤ p <;> by_cases h2 : 0 ≤ q <;> simp [h1, h2] at e2 <;> omega
    · omega
    · omega
    · omega
  clear f4 f1 f2
  have HS1 := HS0
  clear HS0
  rcases hcs with ⟨rfl, h1, rfl⟩ | ⟨rfl, rfl, h1⟩ | ⟨h0, h1, rfl⟩ | ⟨rfl, rfl, h1⟩ | ⟨rfl, rfl, rfl⟩
  · have HFA : Hid (0 ≤ p) := Lib.hid h1
    have hw10 := i64_w (10 + p) (by omega) (by omega)
    go_enter Try.func73, Try.ntmps73
    go_upto_region 3 with (fail)
    generalize World.alloc (World.alloc (World.alloc (World.alloc w _) _) _) _ = w1 at *
    have HO := HS1
    clear HS1
    obtain ⟨l0, hl0⟩ : ∃ l0 : List Int, l0 = [(an : Int)] := ⟨_, rfl⟩
    have HLLl0 := Lib.hid hl0
    rw [← hl0] at HO
    have HLN : Hid (l0.length ≤ 1) := Lib.hid (by rw [hl0]; exact Nat.le_refl _)
    clear hl0
    generalize w.heap.size + 3 = p5 at *
    generalize w.heap.size + 2 = pq at *
    generalize w.heap.size + 1 = p3 at *
    generalize hp2 : w.heap.size = p2 at HO ⊢
    generalize hv6 : Value.slice (some ⟨pq, 0, none⟩) 1 1 = v6 at *
    clear hv6
    have hO6 := HO.out
    clear HO
    obtain ⟨A9, c9, e9, _, _⟩ := hO6.slc
    generalize hnn : l0.length = nn at *
    subst e9
    have HO := Lib.hid hO6
    have HNN := Lib.hid hnn
    clear hO6 hnn
    obtain ⟨k0, k1, k2, k3, g0, g1, g2, g3, c0, f0⟩ := HO.out.all
    dsimp only at k0 k1 k2 k3 g0 g1 g2 g3 c0
    go_upto_region 5 with (at_builtin; refine wpList_append_ob rfl _ _ rfl HO.out rfl rfl (by have h1 := HLN.out; have h2 := HNN.out; omega) ?_; intro A6 c6 w6 k6 f6 hO6)
    clear k6 f6
    generalize World.setCell w6 _ _ = w7 at *
    generalize hv6 : Value.slice A6 _ c6 = v6 at *
    clear hv6
    clear k0 k1 k2 k3 g0 g1 g2 g3 c0 f0
    obtain ⟨l1, hl1⟩ : ∃ l1, l1 = l0 ++ [10 + p] := ⟨_, rfl⟩
    rw [← hl1] at hO6
    have HLLl1 := Lib.hid hl1
    have HLNx : Hid (l1.length ≤ 2) := Lib.hid (by rw [hl1, List.length_append]; have h1 := HLN.out; have h2 := (show [10 + p].length ≤ 1 from Nat.le_refl _); have h3 := HNN.out; omega)
    obtain ⟨A9, c9, e9, _, _⟩ := hO6.slc
    generalize hnn : l1.length = nn at *
    subst e9
    have HOx := Lib.hid hO6
    have HNNx := Lib.hid hnn
    clear hO6 hl1 hnn HO HLN HNN
    have HO := HOx
    have HLN := HLNx
    have HNN := HNNx
    clear HOx HLNx HNNx
    obtain ⟨k0, k1, k2, k3, g0, g1, g2, g3, c0, f0⟩ := HO.out.all
    dsimp only at k0 k1 k2 k3 g0 g1 g2 g3 c0
    go_wp2_with fail
    refine (HWH.out _ HO.out.bel).mono ?_
    rintro e w8 ⟨rfl, hb8⟩
    have HO8 := Lib.hid (HO.out.next hb8)
    clear hb8 HO
    have HO := HO8
    clear HO8
    clear k0 k1 k2 k3 g0 g1 g2 g3 c0 f0
    obtain ⟨k0, k1, k2, k3, g0, g1, g2, g3, c0, f0⟩ := HO.out.all
    dsimp only at k0 k1 k2 k3 g0 g1 g2 g3 c0
    go_wp2_with fail
    refine (tch_any w p2 p3 p5 d ⟨A1, n1, c1, A2, n2, c2, some ⟨b, off, none⟩, n3, c3⟩ ⟨0, (an : Int), p, -1, t⟩ _ _ _ HO.out _ HWB.out (by have h1 := HLN.out; have h2 := HNN.out; omega)).mono ?_
    rintro e w9 ⟨rfl, v9, hO6⟩
    clear k0 k1 k2 k3 g0 g1 g2 g3 c0 f0
    obtain ⟨l2, hl2⟩ : ∃ l2, l2 = l1 ++ spL (whr d p) := ⟨_, rfl⟩
    rw [← hl2] at hO6
    have HLLl2 := Lib.hid hl2
    have HLNx : Hid (l2.length ≤ 3) := Lib.hid (by rw [hl2, List.length_append]; have h1 := HLN.out; have h2 := spL_len (whr d p); have h3 := HNN.out; omega)
    obtain ⟨A9, c9, e9, _, _⟩ := hO6.slc
    generalize hnn : l2.length = nn at *
    subst e9
    have HOx := Lib.hid hO6
    have HNNx := Lib.hid hnn
    clear hO6 hl2 hnn HO HLN HNN
    have HO := HOx
    have HLN := HLNx
    have HNN := HNNx
    clear HOx HLNx HNNx
    obtain ⟨k0, k1, k2, k3, g0, g1, g2, g3, c0, f0⟩ := HO.out.all
    dsimp only at k0 k1 k2 k3 g0 g1 g2 g3 c0
    have sx := (HO.out.bel.cell (p := ⟨b, off + an, none⟩) hbb).trans hcc
    go_wp2_with fail
    refine (tch_any w p2 p3 p5 d ⟨A1, n1, c1, A2, n2, c2, some ⟨b, off, none⟩, n3, c3⟩ ⟨0, (an : Int), p, -1, t⟩ _ _ _ HO.out _ HXB.out (by have h1 := HLN.out; have h2 := HNN.out; omega)).mono ?_
    rintro e w9 ⟨rfl, v9, hO6⟩
    clear sx
    clear k0 k1 k2 k3 g0 g1 g2 g3 c0 f0
    obtain ⟨l3, hl3⟩ : ∃ l3, l3 = l2 ++ spL x := ⟨_, rfl⟩
    rw [← hl3] at hO6
    have HLLl3 := Lib.hid hl3
    have HLNx : Hid (l3.length ≤ 4) := Lib.hid (by rw [hl3, List.length_append]; have h1 := HLN.out; have h2 := spL_len x; have h3 := HNN.out; omega)
    obtain ⟨A9, c9, e9, _, _⟩ := hO6.slc
    generalize hnn : l3.length = nn at *
    subst e9
    have HOx := Lib.hid hO6
    have HNNx := Lib.hid hnn
    clear hO6 hl3 hnn HO HLN HNN
    have HO := HOx
    have HLN := HLNx
    have HNN := HNNx
    clear HOx HLNx HNNx
    obtain ⟨k0, k1, k2, k3, g0, g1, g2, g3, c0, f0⟩ := HO.out.all
    dsimp only at k0 k1 k2 k3 g0 g1 g2 g3 c0
    have HTL : Hid (toL d ⟨0, (an : Int), p, -1, t⟩ = l3) := Lib.hid (by
      rw [HLLl3.out, HLLl2.out, HLLl1.out, HLLl0.out]
      unfold toL toC toB toA
      simp only [List.cons_append, List.nil_append, List.append_nil, List.append_assoc, Int.toNat_natCast]
      simp [HFA.out, HXE.out, hold_e.out])
    have HPOS : Hid (0 < nn) := Lib.hid (by rw [← HNN.out, HLLl3.out, HLLl2.out, HLLl1.out, HLLl0.out]; simp; try omega)
    obtain ⟨g9, rfl, hso⟩ := ot_sort HO.out HNN.out HPOS.out (by have h1 := HLN.out; have h2 := HNN.out; omega)
    have HSO := Lib.hid hso
    clear hso
    go_wp2_with fail
    refine HSO.out.mono ?_
    rintro e w7 ⟨rfl, hO7⟩
    have HO7 := Lib.hid hO7
    clear hO7 HSO HO
    clear k0 k1 k2 k3 g0 g1 g2 g3 c0 f0
    have c0 := HO7.out.b5.cell 0
    simp at c0
    have HCO := Lib.hid (ot_comp HO7.out HNN.out (by have h1 := HLN.out; have h2 := HNN.out; omega) HTL.out HOK.out)
    go_wp2_with fail
    refine HCO.out.mono ?_
    intro e w8 hp8
    obtain ⟨A8, n8, c8, rfl, hp9⟩ := ot_post hp8
    have HP9 := Lib.hid hp9
    clear hp8 hp9 HCO c0
    go_wp2_with fail
    go_ret
    exact HP9.out
  · have HFA : Hid (0 ≤ q) := Lib.hid h1
    go_enter Try.func73, Try.ntmps73
    go_upto_region 3 with (fail)
    generalize World.alloc (World.alloc (World.alloc (World.alloc w _) _) _) _ = w1 at *
    have HO := HS1
    clear HS1
    obtain ⟨l0, hl0⟩ : ∃ l0 : List Int, l0 = [(an : Int)] := ⟨_, rfl⟩
    have HLLl0 := Lib.hid hl0
    rw [← hl0] at HO
    have HLN : Hid (l0.length ≤ 1) := Lib.hid (by rw [hl0]; exact Nat.le_refl _)
    clear hl0
    generalize w.heap.size + 3 = p5 at *
    generalize w.heap.size + 2 = pq at *
    generalize w.heap.size + 1 = p3 at *
    generalize hp2 : w.heap.size = p2 at HO ⊢
    generalize hv6 : Value.slice (some ⟨pq, 0, none⟩) 1 1 = v6 at *
    clear hv6
    have hO6 := HO.out
    clear HO
    obtain ⟨A9, c9, e9, _, _⟩ := hO6.slc
    generalize hnn : l0.length = nn at *
    subst e9
    have HO := Lib.hid hO6
    have HNN := Lib.hid hnn
    clear hO6 hnn
    obtain ⟨k0, k1, k2, k3, g0, g1, g2, g3, c0, f0⟩ := HO.out.all
    dsimp only at k0 k1 k2 k3 g0 g1 g2 g3 c0
    go_wp2_with fail
    refine (tch_any w p2 p3 p5 d ⟨A1, n1, c1, A2, n2, c2, some ⟨b, off, none⟩, n3, c3⟩ ⟨0, (an : Int), -1, q, t⟩ _ _ _ HO.out _ HQB.out (by have h1 := HLN.out; have h2 := HNN.out; omega)).mono ?_
    rintro e w9 ⟨rfl, v9, hO6⟩
    clear k0 k1 k2 k3 g0 g1 g2 g3 c0 f0
    obtain ⟨l1, hl1⟩ : ∃ l1, l1 = l0 ++ spL q := ⟨_, rfl⟩
    rw [← hl1] at hO6
    have HLLl1 := Lib.hid hl1
    have HLNx : Hid (l1.length ≤ 2) := Lib.hid (by rw [hl1, List.length_append]; have h1 := HLN.out; have h2 := spL_len q; have h3 := HNN.out; omega)
    obtain ⟨A9, c9, e9, _, _⟩ := hO6.slc
    generalize hnn : l1.length = nn at *
    subst e9
    have HOx := Lib.hid hO6
    have HNNx := Lib.hid hnn
    clear hO6 hl1 hnn HO HLN HNN
    have HO := HOx
    have HLN := HLNx
    have HNN := HNNx
    clear HOx HLNx HNNx
    obtain ⟨k0, k1, k2, k3, g0, g1, g2, g3, c0, f0⟩ := HO.out.all
    dsimp only at k0 k1 k2 k3 g0 g1 g2 g3 c0
    have sx := (HO.out.bel.cell (p := ⟨b, off + an, none⟩) hbb).trans hcc
    go_wp2_with fail
    refine (tch_any w p2 p3 p5 d ⟨A1, n1, c1, A2, n2, c2, some ⟨b, off, none⟩, n3, c3⟩ ⟨0, (an : Int), -1, q, t⟩ _ _ _ HO.out _ HXB.out (by have h1 := HLN.out; have h2 := HNN.out; omega)).mono ?_
    rintro e w9 ⟨rfl, v9, hO6⟩
    clear sx
    clear k0 k1 k2 k3 g0 g1 g2 g3 c0 f0
    obtain ⟨l2, hl2⟩ : ∃ l2, l2 = l1 ++ spL x := ⟨_, rfl⟩
    rw [← hl2] at hO6
    have HLLl2 := Lib.hid hl2
    have HLNx : Hid (l2.length ≤ 3) := Lib.hid (by rw [hl2, List.length_append]; have h1 := HLN.out; have h2 := spL_len x; have h3 := HNN.out; omega)
    obtain ⟨A9, c9, e9, _, _⟩ := hO6.slc
    generalize hnn : l2.length = nn at *
    subst e9
    have HOx := Lib.hid hO6
    have HNNx := Lib.hid hnn
    clear hO6 hl2 hnn HO HLN HNN
    have HO := HOx
    have HLN := HLNx
    have HNN := HNNx
    clear HOx HLNx HNNx
    obtain ⟨k0, k1, k2, k3, g0, g1, g2, g3, c0, f0⟩ := HO.out.all
    dsimp only at k0 k1 k2 k3 g0 g1 g2 g3 c0
    have HTL : Hid (toL d ⟨0, (an : Int), -1, q, t⟩ = l2) := Lib.hid (by
      rw [HLLl2.out, HLLl1.out, HLLl0.out]
      unfold toL toC toB toA
      simp only [List.cons_append, List.nil_append, List.append_nil, List.append_assoc, Int.toNat_natCast]
      simp [HFA.out, HXE.out, hold_e.out])
    have HPOS : Hid (0 < nn) := Lib.hid (by rw [← HNN.out, HLLl2.out, HLLl1.out, HLLl0.out]; simp; try omega)
    obtain ⟨g9, rfl, hso⟩ := ot_sort HO.out HNN.out HPOS.out (by have h1 := HLN.out; have h2 := HNN.out; omega)
    have HSO := Lib.hid hso
    clear hso
    go_wp2_with fail
    refine HSO.out.mono ?_
    rintro e w7 ⟨rfl, hO7⟩
    have HO7 := Lib.hid hO7
    clear hO7 HSO HO
    clear k0 k1 k2 k3 g0 g1 g2 g3 c0 f0
    have c0 := HO7.out.b5.cell 0
    simp at c0
    have HCO := Lib.hid (ot_comp HO7.out HNN.out (by have h1 := HLN.out; have h2 := HNN.out; omega) HTL.out HOK.out)
    go_wp2_with fail
    refine HCO.out.mono ?_
    intro e w8 hp8
    obtain ⟨A8, n8, c8, rfl, hp9⟩ := ot_post hp8
    have HP9 := Lib.hid hp9
    clear hp8 hp9 HCO c0
    go_wp2_with fail
    go_ret
    exact HP9.out
  · have hk0 : (k == 0) = false := by simp; omega
    have hk2 : (k == 2) = false := by simp; omega
    have HFA : Hid (0 ≤ p ∧ (k = 0) = False ∧ (k = 2) = False) := Lib.hid ⟨h1, by simp; omega, by simp; omega⟩
    clear h0
    have hw10 := i64_w (10 + p) (by omega) (by omega)
    go_enter Try.func73, Try.ntmps73
    go_upto_region 3 with (fail)
    generalize World.alloc (World.alloc (World.alloc (World.alloc w _) _) _) _ = w1 at *
    have HO := HS1
    clear HS1
    obtain ⟨l0, hl0⟩ : ∃ l0 : List Int, l0 = [(an : Int)] := ⟨_, rfl⟩
    have HLLl0 := Lib.hid hl0
    rw [← hl0] at HO
    have HLN : Hid (l0.length ≤ 1) := Lib.hid (by rw [hl0]; exact Nat.le_refl _)
    clear hl0
    generalize w.heap.size + 3 = p5 at *
    generalize w.heap.size + 2 = pq at *
    generalize w.heap.size + 1 = p3 at *
    generalize hp2 : w.heap.size = p2 at HO ⊢
    generalize hv6 : Value.slice (some ⟨pq, 0, none⟩) 1 1 = v6 at *
    clear hv6
    have hO6 := HO.out
    clear HO
    obtain ⟨A9, c9, e9, _, _⟩ := hO6.slc
    generalize hnn : l0.length = nn at *
    subst e9
    have HO := Lib.hid hO6
    have HNN := Lib.hid hnn
    clear hO6 hnn
    obtain ⟨k0, k1, k2, k3, g0, g1, g2, g3, c0, f0⟩ := HO.out.all
    dsimp only at k0 k1 k2 k3 g0 g1 g2 g3 c0
    go_upto_region 5 with (at_builtin; refine wpList_append_ob rfl _ _ rfl HO.out rfl rfl (by have h1 := HLN.out; have h2 := HNN.out; omega) ?_; intro A6 c6 w6 k6 f6 hO6)
    clear k6 f6
    generalize World.setCell w6 _ _ = w7 at *
    generalize hv6 : Value.slice A6 _ c6 = v6 at *
    clear hv6
    clear k0 k1 k2 k3 g0 g1 g2 g3 c0 f0
    obtain ⟨l1, hl1⟩ : ∃ l1, l1 = l0 ++ [10 + p] := ⟨_, rfl⟩
    rw [← hl1] at hO6
    have HLLl1 := Lib.hid hl1
    have HLNx : Hid (l1.length ≤ 2) := Lib.hid (by rw [hl1, List.length_append]; have h1 := HLN.out; have h2 := (show [10 + p].length ≤ 1 from Nat.le_refl _); have h3 := HNN.out; omega)
    obtain ⟨A9, c9, e9, _, _⟩ := hO6.slc
    generalize hnn : l1.length = nn at *
    subst e9
    have HOx := Lib.hid hO6
    have HNNx := Lib.hid hnn
    clear hO6 hl1 hnn HO HLN HNN
    have HO := HOx
    have HLN := HLNx
    have HNN := HNNx
    clear HOx HLNx HNNx
    obtain ⟨k0, k1, k2, k3, g0, g1, g2, g3, c0, f0⟩ := HO.out.all
    dsimp only at k0 k1 k2 k3 g0 g1 g2 g3 c0
    go_wp2_with fail
    refine (HWH.out _ HO.out.bel).mono ?_
    rintro e w8 ⟨rfl, hb8⟩
    have HO8 := Lib.hid (HO.out.next hb8)
    clear hb8 HO
    have HO := HO8
    clear HO8
    clear k0 k1 k2 k3 g0 g1 g2 g3 c0 f0
    obtain ⟨k0, k1, k2, k3, g0, g1, g2, g3, c0, f0⟩ := HO.out.all
    dsimp only at k0 k1 k2 k3 g0 g1 g2 g3 c0
    go_wp2_with fail
    refine (tch_any w p2 p3 p5 d ⟨A1, n1, c1, A2, n2, c2, some ⟨b, off, none⟩, n3, c3⟩ ⟨k, (an : Int), p, -1, t⟩ _ _ _ HO.out _ HWB.out (by have h1 := HLN.out; have h2 := HNN.out; omega)).mono ?_
    rintro e w9 ⟨rfl, v9, hO6⟩
    clear k0 k1 k2 k3 g0 g1 g2 g3 c0 f0
    obtain ⟨l2, hl2⟩ : ∃ l2, l2 = l1 ++ spL (whr d p) := ⟨_, rfl⟩
    rw [← hl2] at hO6
    have HLLl2 := Lib.hid hl2
    have HLNx : Hid (l2.length ≤ 3) := Lib.hid (by rw [hl2, List.length_append]; have h1 := HLN.out; have h2 := spL_len (whr d p); have h3 := HNN.out; omega)
    obtain ⟨A9, c9, e9, _, _⟩ := hO6.slc
    generalize hnn : l2.length = nn at *
    subst e9
    have HOx := Lib.hid hO6
    have HNNx := Lib.hid hnn
    clear hO6 hl2 hnn HO HLN HNN
    have HO := HOx
    have HLN := HLNx
    have HNN := HNNx
    clear HOx HLNx HNNx
    obtain ⟨k0, k1, k2, k3, g0, g1, g2, g3, c0, f0⟩ := HO.out.all
    dsimp only at k0 k1 k2 k3 g0 g1 g2 g3 c0
    have HTL : Hid (toL d ⟨k, (an : Int), p, -1, t⟩ = l2) := Lib.hid (by
      rw [HLLl2.out, HLLl1.out, HLLl0.out]
      unfold toL toC toB toA
      simp only [List.cons_append, List.nil_append, List.append_nil, List.append_assoc, Int.toNat_natCast]
      simp [HFA.out, HXE.out, hold_e.out])
    have HPOS : Hid (0 < nn) := Lib.hid (by rw [← HNN.out, HLLl2.out, HLLl1.out, HLLl0.out]; simp; try omega)
    obtain ⟨g9, rfl, hso⟩ := ot_sort HO.out HNN.out HPOS.out (by have h1 := HLN.out; have h2 := HNN.out; omega)
    have HSO := Lib.hid hso
    clear hso
    go_wp2_with fail
    refine HSO.out.mono ?_
    rintro e w7 ⟨rfl, hO7⟩
    have HO7 := Lib.hid hO7
    clear hO7 HSO HO
    clear k0 k1 k2 k3 g0 g1 g2 g3 c0 f0
    have c0 := HO7.out.b5.cell 0
    simp at c0
    have HCO := Lib.hid (ot_comp HO7.out HNN.out (by have h1 := HLN.out; have h2 := HNN.out; omega) HTL.out HOK.out)
    go_wp2_with fail
    refine HCO.out.mono ?_
    intro e w8 hp8
    obtain ⟨A8, n8, c8, rfl, hp9⟩ := ot_post hp8
    have HP9 := Lib.hid hp9
    clear hp8 hp9 HCO c0
    go_wp2_with fail
    go_ret
    exact HP9.out
  · have HFA : Hid (0 ≤ q) := Lib.hid h1
    generalize hho : hold d (an : Int) = ho at *
    have HHC := Lib.hid (HHB.out rfl)
    clear HHB
    clear hold_e
    have hold_e := Lib.hid hho
    clear hho
    go_enter Try.func73, Try.ntmps73
    go_upto_region 3 with (fail)
    generalize World.alloc (World.alloc (World.alloc (World.alloc w _) _) _) _ = w1 at *
    have HO := HS1
    clear HS1
    obtain ⟨l0, hl0⟩ : ∃ l0 : List Int, l0 = [(an : Int)] := ⟨_, rfl⟩
    have HLLl0 := Lib.hid hl0
    rw [← hl0] at HO
    have HLN : Hid (l0.length ≤ 1) := Lib.hid (by rw [hl0]; exact Nat.le_refl _)
    clear hl0
    generalize w.heap.size + 3 = p5 at *
    generalize w.heap.size + 2 = pq at *
    generalize w.heap.size + 1 = p3 at *
    generalize hp2 : w.heap.size = p2 at HO ⊢
    generalize hv6 : Value.slice (some ⟨pq, 0, none⟩) 1 1 = v6 at *
    clear hv6
    have hO6 := HO.out
    clear HO
    obtain ⟨A9, c9, e9, _, _⟩ := hO6.slc
    generalize hnn : l0.length = nn at *
    subst e9
    have HO := Lib.hid hO6
    have HNN := Lib.hid hnn
    clear hO6 hnn
    obtain ⟨k0, k1, k2, k3, g0, g1, g2, g3, c0, f0⟩ := HO.out.all
    dsimp only at k0 k1 k2 k3 g0 g1 g2 g3 c0
    go_wp2_with fail
    refine (tch_any w p2 p3 p5 d ⟨A1, n1, c1, A2, n2, c2, some ⟨b, off, none⟩, n3, c3⟩ ⟨2, (an : Int), -1, q, t⟩ _ _ _ HO.out _ HQB.out (by have h1 := HLN.out; have h2 := HNN.out; omega)).mono ?_
    rintro e w9 ⟨rfl, v9, hO6⟩
    clear k0 k1 k2 k3 g0 g1 g2 g3 c0 f0
    obtain ⟨l1, hl1⟩ : ∃ l1, l1 = l0 ++ spL q := ⟨_, rfl⟩
    rw [← hl1] at hO6
    have HLLl1 := Lib.hid hl1
    have HLNx : Hid (l1.length ≤ 2) := Lib.hid (by rw [hl1, List.length_append]; have h1 := HLN.out; have h2 := spL_len q; have h3 := HNN.out; omega)
    obtain ⟨A9, c9, e9, _, _⟩ := hO6.slc
    generalize hnn : l1.length = nn at *
    subst e9
    have HOx := Lib.hid hO6
    have HNNx := Lib.hid hnn
    clear hO6 hl1 hnn HO HLN HNN
    have HO := HOx
    have HLN := HLNx
    have HNN := HNNx
    clear HOx HLNx HNNx
    obtain ⟨k0, k1, k2, k3, g0, g1, g2, g3, c0, f0⟩ := HO.out.all
    dsimp only at k0 k1 k2 k3 g0 g1 g2 g3 c0
    go_upto_region 11 with (fail)
    clear k0 k1 k2 k3 g0 g1 g2 g3 c0 f0
    refine wp_inv_chain (S := (OT w p2 p3 p5 d ⟨A1, n1, c1, A2, n2, c2, some ⟨b, off, none⟩, n3, c3⟩ ⟨2, (an : Int), -1, q, t⟩ (.slice A9 nn c9) l1)) 7 [isV (.slice A9 nn c9), isV (.agg #[.int .i64 sl, .slice A1 n1 c1, .slice A2 n2 c2, .slice (some ⟨b, off, none⟩) n3 c3]), isV (.pointer (some ⟨p3, 1, none⟩)), isV (.int .i64 (an : Int)), isV (.int .i64 ho), isV (.int .i64 (10 + ho)), isOneY (10 + ho)] rfl (by kernel_rfl) (by kernel_rfl) (by kernel_rfl) (by kernel_rfl) (fun _ _ h9 hb9 => h9.next hb9) HO.out ?plan ?last
    case plan =>
      refine PlanI.cons (OpI.mkV fun a wx hs hf hp => ?_) ?_
      · exact StepI.load rfl (wants_none rfl) (hf.keep 5 (by kernel_rfl)) (run_load_cell hs.b5 (f := 0) rfl (by kernel_rfl) rfl) rfl
      refine PlanI.cons (OpI.mkV fun a wx hs hf hp => ?_) ?_
      · have hb2 : Blk wx p2 25 #[.int .i64 sl, .slice A1 n1 c1, .slice A2 n2 c2, .slice (some ⟨b, off, none⟩) n3 c3] := by have h9 := hs.b2; unfold wcs at h9; rw [hsl] at h9; exact h9
        exact StepI.load rfl (wants_none rfl) (hf.keep 2 (by kernel_rfl)) (run_load_blk hb2 (n := 4) rfl (by kernel_rfl)) rfl
      refine PlanI.cons (OpI.mkV fun a wx hs hf hp => ?_) ?_
      · exact StepI.fld rfl (wants_none rfl) (hf.keep 3 (by kernel_rfl)) (run_fldO1 p3 wx) rfl
      refine PlanI.cons (OpI.mkV fun a wx hs hf hp => ?_) ?_
      · exact StepI.load rfl (wants_none rfl) (hp 2 49 (by kernel_rfl) rfl) (run_load_cell hs.b3 (f := 1) rfl (by kernel_rfl) rfl) rfl
      refine PlanI.cons (OpI.mkV fun a wx hs hf hp => ?_) ?_
      · exact StepI.callV rfl (wants_none rfl) (args2 (hp 1 48 (by kernel_rfl) rfl) (hp 3 50 (by kernel_rfl) rfl)) (by kernel_rfl) (HHO.out wx hs.bel)
      refine PlanI.cons (OpI.mkV fun a wx hs hf hp => ?_) ?_
      · exact StepI.bin rfl (wants_none rfl) rfl (hp 4 51 (by kernel_rfl) rfl) (add_ob _ _ ho HHC.out wx) rfl
      refine PlanI.cons (OpI.mk isOneY_st fun a wx hs hf hp => ?_) ?_
      · have e9 : a.eval (.tmp 52) = .int .i64 (10 + ho) := (hp 5 52 (by kernel_rfl) rfl)
        exact StepI.new (wants_none rfl) (by unfold execOp; simp only [List.map_toArray, List.map_cons, List.map_nil, e9]; exact run_oneY _ wx) ((Below.refl _ _).alloc (Nat.le_refl _) _) ⟨_, rfl, Blk.new _ _ _⟩
      exact PlanI.nil
    case last =>
      intro a wx hs hf hv
      obtain ⟨g9, e53, hb9⟩ := (show isOneY (10 + ho) (a.tmps.getD 53 undef) wx from hv 6 53 (by decide) rfl)
      obtain ⟨v54, h54⟩ : ∃ v, a.tmps.getD 54 undef = v := ⟨_, rfl⟩
      have hput := hf.puts [(47, .slice A9 nn c9), (48, .agg #[.int .i64 sl, .slice A1 n1 c1, .slice A2 n2 c2, .slice (some ⟨b, off, none⟩) n3 c3]), (49, .pointer (some ⟨p3, 1, none⟩)), (50, .int .i64 (an : Int)), (51, .int .i64 ho), (52, .int .i64 (10 + ho)), (53, .slice (some ⟨g9, 0, none⟩) 1 1), (54, v54)] (by kernel_rfl) (List.forall_mem_cons.2 ⟨hv 0 47 (by decide) rfl, (List.forall_mem_cons.2 ⟨hv 1 48 (by decide) rfl, (List.forall_mem_cons.2 ⟨hv 2 49 (by decide) rfl, (List.forall_mem_cons.2 ⟨hv 3 50 (by decide) rfl, (List.forall_mem_cons.2 ⟨hv 4 51 (by decide) rfl, (List.forall_mem_cons.2 ⟨hv 5 52 (by decide) rfl, (List.forall_mem_cons.2 ⟨e53, (List.forall_mem_cons.2 ⟨h54, (by intro p hp; cases hp)⟩)⟩)⟩)⟩)⟩)⟩)⟩)⟩)
      have HO9 := Lib.hid hs
      have HB9 := Lib.hid hb9
      clear hf hv h54 e53 hs hb9
      subst hput
      simp only [puts, Act.put, List.setIfInBounds_toArray, List.set_cons_zero, List.set_cons_succ]
      refine ⟨wants_none rfl, ?_⟩
      refine wp_append_ob _ _ rfl HO9.out HB9.out rfl rfl (by have h1 := HLN.out; have h2 := HNN.out; omega) ?_
      intro A6 c6 w6 k6 f6 hO6
      simp only [Act.put, List.setIfInBounds_toArray, List.set_cons_zero, List.set_cons_succ]
      refine ⟨wants_none rfl, ?_⟩
      refine wp_store_tail rfl rfl rfl (run_storeS w6 p5 _ _ _ _ k6 f6) ?_
      clear k6 f6 HO9 HB9
      generalize World.setCell w6 _ _ = w7 at *
      generalize hv6 : Value.slice A6 _ c6 = v6 at *
      clear hv6
      obtain ⟨l2, hl2⟩ : ∃ l2, l2 = l1 ++ [10 + ho] := ⟨_, rfl⟩
      rw [← hl2] at hO6
      have HLLl2 := Lib.hid hl2
      have HLNx : Hid (l2.length ≤ 3) := Lib.hid (by rw [hl2, List.length_append]; have h1 := HLN.out; have h2 := (show [10 + ho].length ≤ 1 from Nat.le_refl _); have h3 := HNN.out; omega)
      obtain ⟨A9, c9, e9, _, _⟩ := hO6.slc
      generalize hnn : l2.length = nn at *
      subst e9
      have HOx := Lib.hid hO6
      have HNNx := Lib.hid hnn
      clear hO6 hl2 hnn HO HLN HNN
      have HO := HOx
      have HLN := HLNx
      have HNN := HNNx
      clear HOx HLNx HNNx
      obtain ⟨k0, k1, k2, k3, g0, g1, g2, g3, c0, f0⟩ := HO.out.all
      dsimp only at k0 k1 k2 k3 g0 g1 g2 g3 c0
      have HTL : Hid (toL d ⟨2, (an : Int), -1, q, t⟩ = l2) := Lib.hid (by
        rw [HLLl2.out, HLLl1.out, HLLl0.out]
        unfold toL toC toB toA
        simp only [List.cons_append, List.nil_append, List.append_nil, List.append_assoc, Int.toNat_natCast]
        simp [HFA.out, HXE.out, hold_e.out])
      have HPOS : Hid (0 < nn) := Lib.hid (by rw [← HNN.out, HLLl2.out, HLLl1.out, HLLl0.out]; simp; try omega)
      obtain ⟨g9, rfl, hso⟩ := ot_sort HO.out HNN.out HPOS.out (by have h1 := HLN.out; have h2 := HNN.out; omega)
      have HSO := Lib.hid hso
      clear hso
      go_wp2_with fail
      refine HSO.out.mono ?_
      rintro e w7 ⟨rfl, hO7⟩
      have HO7 := Lib.hid hO7
      clear hO7 HSO HO
      clear k0 k1 k2 k3 g0 g1 g2 g3 c0 f0
      have c0 := HO7.out.b5.cell 0
      simp at c0
      have HCO := Lib.hid (ot_comp HO7.out HNN.out (by have h1 := HLN.out; have h2 := HNN.out; omega) HTL.out HOK.out)
      go_wp2_with fail
      refine HCO.out.mono ?_
      intro e w8 hp8
      obtain ⟨A8, n8, c8, rfl, hp9⟩ := ot_post hp8
      have HP9 := Lib.hid hp9
      clear hp8 hp9 HCO c0
      go_wp2_with fail
      go_ret
      exact HP9.out
  · have HFA : Hid True := Lib.hid trivial
    go_enter Try.func73, Try.ntmps73
    go_upto_region 3 with (fail)
    generalize World.alloc (World.alloc (World.alloc (World.alloc w _) _) _) _ = w1 at *
    have HO := HS1
    clear HS1
    obtain ⟨l0, hl0⟩ : ∃ l0 : List Int, l0 = [(an : Int)] := ⟨_, rfl⟩
    have HLLl0 := Lib.hid hl0
    rw [← hl0] at HO
    have HLN : Hid (l0.length ≤ 1) := Lib.hid (by rw [hl0]; exact Nat.le_refl _)
    clear hl0
    generalize w.heap.size + 3 = p5 at *
    generalize w.heap.size + 2 = pq at *
    generalize w.heap.size + 1 = p3 at *
    generalize hp2 : w.heap.size = p2 at HO ⊢
    generalize hv6 : Value.slice (some ⟨pq, 0, none⟩) 1 1 = v6 at *
    clear hv6
    have hO6 := HO.out
    clear HO
    obtain ⟨A9, c9, e9, _, _⟩ := hO6.slc
    generalize hnn : l0.length = nn at *
    subst e9
    have HO := Lib.hid hO6
    have HNN := Lib.hid hnn
    clear hO6 hnn
    obtain ⟨k0, k1, k2, k3, g0, g1, g2, g3, c0, f0⟩ := HO.out.all
    dsimp only at k0 k1 k2 k3 g0 g1 g2 g3 c0
    have HTL : Hid (toL d ⟨4, (an : Int), -1, -1, t⟩ = l0) := Lib.hid (by
      rw [HLLl0.out]
      unfold toL toC toB toA
      simp only [List.cons_append, List.nil_append, List.append_nil, List.append_assoc, Int.toNat_natCast]
      simp [HFA.out, HXE.out, hold_e.out])
    have HPOS : Hid (0 < nn) := Lib.hid (by rw [← HNN.out, HLLl0.out]; simp; try omega)
    obtain ⟨g9, rfl, hso⟩ := ot_sort HO.out HNN.out HPOS.out (by have h1 := HLN.out; have h2 := HNN.out; omega)
    have HSO := Lib.hid hso
    clear hso
    go_wp2_with fail
    refine HSO.out.mono ?_
    rintro e w7 ⟨rfl, hO7⟩
    have HO7 := Lib.hid hO7
    clear hO7 HSO HO
    clear k0 k1 k2 k3 g0 g1 g2 g3 c0 f0
    have c0 := HO7.out.b5.cell 0
    simp at c0
    have HCO := Lib.hid (ot_comp HO7.out HNN.out (by have h1 := HLN.out; have h2 := HNN.out; omega) HTL.out HOK.out)
    go_wp2_with fail
    refine HCO.out.mono ?_
    intro e w8 hp8
    obtain ⟨A8, n8, c8, rfl, hp9⟩ := ot_post hp8
    have HP9 := Lib.hid hp9
    clear hp8 hp9 HCO c0
    go_wp2_with fail
    go_ret
    exact HP9.out
end Go.Proofs.Ytnaiflokmihmeaa
