/- Walk: StepsOf (reference). -/
import Derived.Test.YtnaiflokmihmeaaAsK
namespace Go.Proofs.Ytnaiflokmihmeaa
open Go.RowKit
set_option linter.unusedVariables false
set_option linter.unusedSimpArgs false

/-- the list so far holds just the steps of P that can be done -/
def GbS (w0 : World) (X : List (Nat × TypeId × Array Value)) (base p1 p3 : Nat) (d : Wd) (r : Raw) (P : Stp → Prop) (N : Nat) (wr : World) : Prop :=
  ∃ v xs, OSt w0 X base p1 p3 d r v xs wr ∧ AscS xs ∧ xs.length ≤ N ∧ ∀ s, s ∈ xs ↔ P s ∧ canE d s = 0
section
variable {w0 wr w' : World} {X : List (Nat × TypeId × Array Value)} {base p1 p3 N M : Nat} {d : Wd} {r : Raw} {P Q : Stp → Prop} {s : Stp}
theorem GbS.next (h : GbS w0 X base p1 p3 d r P N wr) (hb : Below wr.heap.size wr w') : GbS w0 X base p1 p3 d r P N w' := by
  obtain ⟨v, xs, h1, h2⟩ := h
  exact ⟨v, xs, h1.next hb, h2⟩
theorem GbS.re (h : GbS w0 X base p1 p3 d r P N wr) (hQ : ∀ s, Q s ↔ P s) (hN : N ≤ M) : GbS w0 X base p1 p3 d r Q M wr := by
  obtain ⟨v, xs, h1, h2, h3, h4⟩ := h
  exact ⟨v, xs, h1, h2, by omega, fun s => by rw [h4, hQ]⟩
theorem GbS.b1 (h : GbS w0 X base p1 p3 d r P N wr) : Blk wr p1 25 (wcs d.sl r) := by
  obtain ⟨v, xs, h1, _⟩ := h
  exact h1.b1
theorem GbS.four {sl : Int} (h : GbS w0 X base p1 p3 d r P N wr) (hs : d.sl = sl) : wr.cell? ⟨p1, 0, none⟩ = some (.int .i64 sl) ∧ wr.cell? ⟨p1, 1, none⟩ = some (.slice r.A1 r.n1 r.c1) ∧ wr.cell? ⟨p1, 2, none⟩ = some (.slice r.A2 r.n2 r.c2) ∧ wr.cell? ⟨p1, 3, none⟩ = some (.slice r.A3 r.n3 r.c3) := by
  subst hs
  exact ⟨h.b1.cell 0, h.b1.cell 1, h.b1.cell 2, h.b1.cell 3⟩
theorem GbS.more {g : Nat} {T : TypeId} {cs : Array Value} (h : GbS w0 X base p1 p3 d r P N wr) (hB : Blk wr g T cs) (hT : 39 ≠ T) (hg : g ≠ p3) : GbS w0 ((g, T, cs) :: X) base p1 p3 d r P N wr := by
  obtain ⟨v, xs, h1, h2⟩ := h
  exact ⟨v, xs, ⟨h1.bel, h1.b1, h1.b3, h1.row, h1.le, h1.ge, h1.q1, h1.q3, h1.g3, h1.ne, fun e he => by
    rcases List.mem_cons.1 he with rfl | he
    · exact ⟨hB, hT, hg⟩
    · exact h1.ext e he⟩, h2⟩
theorem GbS.less {x : Nat × TypeId × Array Value} (h : GbS w0 (x :: X) base p1 p3 d r P N wr) : GbS w0 X base p1 p3 d r P N wr := by
  obtain ⟨v, xs, h1, h2⟩ := h
  exact ⟨v, xs, ⟨h1.bel, h1.b1, h1.b3, h1.row, h1.le, h1.ge, h1.q1, h1.q3, h1.g3, h1.ne, fun e he => h1.ext e (List.mem_cons_of_mem _ he)⟩, h2⟩
theorem GbS.top {g : Nat} {T : TypeId} {cs : Array Value} (h : GbS w0 ((g, T, cs) :: X) base p1 p3 d r P N wr) : Blk wr g T cs := by
  obtain ⟨v, xs, h1, _⟩ := h
  exact (h1.ext _ List.mem_cons_self).1
theorem GbS.new (h : GbS w0 X base p1 p3 d r P N wr) (cs : Array Value) (T : TypeId) (hT : 39 ≠ T) : GbS w0 ((wr.heap.size, T, cs) :: X) base p1 p3 d r P N (wr.alloc (.cells cs T)) := by
  have hb : Below wr.heap.size wr (wr.alloc (.cells cs T)) := (Below.refl _ _).alloc (Nat.le_refl _) _
  refine (h.next hb).more (Blk.new wr T cs) hT ?_
  obtain ⟨v, xs, h1, _⟩ := h
  have h2 := h1.q3
  have h3 := h1.le
  omega
theorem gbs_try (h0 : WOk w0 r d) (hlo : ∀ x ∈ d.pl, -9223372036854775808 ≤ x) (h : GbS w0 X base p1 p3 d r P N wr) (hP : ¬ P s) (hQ : ∀ y, Q y ↔ P y ∨ y = s) (hN : N + 1 ≤ M) (hM : M ≤ 1000) :
    Calls Try.prog 94 #[sv s, .pointer (some ⟨p1, 0, none⟩), .pointer (some ⟨p3, 0, none⟩)] wr fun e w' => e = .returned (.tuple #[]) ∧ GbS w0 X base p1 p3 d r Q M w' := by
  obtain ⟨v, xs, h1, h2, h3, h4⟩ := h
  refine (try_any w0 X d r h0 hlo s base p1 p3 v xs wr h1 h2 (fun hm => hP ((h4 s).1 hm).1) (by omega)).mono ?_
  rintro e w' ⟨rfl, v', l', ho, ha, hl, hm⟩
  refine ⟨rfl, v', l', ho, ha, by omega, fun y => ?_⟩
  rw [hm, h4, hQ]
  constructor
  · rintro (⟨a, b⟩ | ⟨a, rfl⟩)
    · exact ⟨.inl a, b⟩
    · exact ⟨.inr rfl, a⟩
  · rintro ⟨a | rfl, b⟩
    · exact .inl ⟨a, b⟩
    · exact .inr ⟨b, rfl⟩
theorem gbs_fin (h : GbS w0 X base p1 p3 d r (gbS d.pl.length d.sl.toNat d.sp.length 0 0 0 0) N wr) (hw : wErr d = 0) :
    ∃ A n c, Blk wr p3 26 #[.slice A n c] ∧ SsPost d w0 (.returned (.slice A n c)) wr := by
  obtain ⟨v, xs, h1, h2, h3, h4⟩ := h
  obtain ⟨A, c, rfl, hc, hm, hs⟩ := StepsAt.of_own h1.row
  refine ⟨A, xs.length, c, h1.b3, xs, A, c, rfl, hc, hm, hs, h2, fun s => ?_, h1.bel⟩
  rw [h4]
  constructor
  · rintro ⟨a, b⟩
    exact ⟨hw, (gb_end _ _ _ s (canE_inv b).2.1).1 a, b⟩
  · rintro ⟨_, a, b⟩
    exact ⟨(gb_end _ _ _ s (canE_inv b).2.1).2 a, b⟩
end
theorem gbs_start {w w2 : World} {d : Wd} {r : Raw} (hb : Below (w.heap.size + 1) (w.alloc (.cells (wcs d.sl r) 25)) w2) (hs : w.heap.size + 1 ≤ w2.heap.size) :
    GbS w [] (w2.heap.size + 1) w.heap.size w2.heap.size d r (gbS d.pl.length d.sl.toNat 0 0 0 0 0) 0 (w2.alloc (.cells #[.slice none 0 0] 26)) := by
  have e1 : Below w.heap.size w (w.alloc (.cells (wcs d.sl r) 25)) := (Below.refl _ _).alloc (Nat.le_refl _) _
  have e2 : Below w.heap.size w w2 := e1.trans (hb.mono (by omega))
  have e3 : Blk w2 w.heap.size 25 (wcs d.sl r) := (hb.block _ (by omega)).trans (Blk.new w _ _)
  have e4 : Below w2.heap.size w2 (w2.alloc (.cells #[.slice none 0 0] 26)) := (Below.refl _ _).alloc (Nat.le_refl _) _
  refine ⟨.slice none 0 0, [], ⟨e2.trans (e4.mono (by omega)), e3.belowB e4, Blk.new w2 _ _, ⟨by simp [cellsS], .inl ⟨rfl, rfl⟩⟩, by simp, by omega, by omega, by omega, by omega, by omega, fun e he => by simp at he⟩, List.Pairwise.nil, Nat.le_refl _, fun s => ?_⟩
  exact ⟨fun h9 => by simp at h9, fun h9 => absurd h9.1 (gb_zero _ _ s)⟩
set_option maxHeartbeats 4000000 in
set_option maxRecDepth 20000 in
theorem stepsOf_any (d : Wd) (r : Raw) (w : World) (h : WOk w r d) (hlo : ∀ x ∈ d.pl, -9223372036854775808 ≤ x) : Calls Try.prog 62 #[wv d.sl r] w (SsPost d w) := by
  have hb1 : Below w.heap.size w (w.alloc (.cells (wcs d.sl r) 25)) := (Below.refl _ _).alloc (Nat.le_refl _) _
  have HWF := Lib.hid (wfault_any d r (w.alloc (.cells (wcs d.sl r) 25)) (h.next hb1) hlo)
  have HB1 := Lib.hid (Blk.new w 25 (wcs d.sl r))
  have HSZ : Hid ((w.alloc (.cells (wcs d.sl r) 25)).heap.size = w.heap.size + 1) := Lib.hid (by simp)
  have HBL := Lib.hid hb1
  have HST := Lib.hid (fun w2 hb hs => gbs_start (w := w) (w2 := w2) (d := d) (r := r) hb hs)
  clear hb1
  by_cases hw0 : wErr d = 0
  · have HW0 := Lib.hid hw0
    rw [hw0] at HWF
    have hv := vd_of hw0
    obtain ⟨ns, hns⟩ := Int.eq_ofNat_of_zero_le hv.sl0
    have hns8 : ns ≤ 8 := by have := hv.sl8; omega
    have hn16 : r.n1 ≤ 6 := by have h8 := hv.p6; have h9 := h.h1; omega
    have hn34 : r.n3 ≤ 4 := by have h8 := hv.s4; have h9 := h.h3; omega
    have HFN := Lib.hid (fun N p1 p3 base wr (h9 : GbS w [] base p1 p3 d r (gbS r.n1 ns r.n3 0 0 0 0) N wr) => gbs_fin (by rw [h.h1] at h9; rw [h.h3] at h9; rw [show d.sl.toNat = ns by omega]; exact h9) hw0)
    have HST2 : Hid (∀ w2, Below (w.heap.size + 1) (w.alloc (.cells (wcs d.sl r) 25)) w2 → w.heap.size + 1 ≤ w2.heap.size → GbS w [] (w2.heap.size + 1) w.heap.size w2.heap.size d r (gbS r.n1 ns 0 0 0 0 0) 0 (w2.alloc (.cells #[.slice none 0 0] 26))) := Lib.hid (fun w2 hb hs => by
      have := HST.out w2 hb hs
      rw [← h.h1] at this
      rw [show d.sl.toNat = ns by omega] at this
      exact this)
    have HTR := Lib.hid (fun X base p1 p3 (P Q : Stp → Prop) N M s wr (h9 : GbS w X base p1 p3 d r P N wr) (hP : ¬ P s) (hQ : ∀ y, Q y ↔ P y ∨ y = s) (hN : N + 1 ≤ M) (hM : M ≤ 1000) => gbs_try h hlo h9 hP hQ hN hM)
    clear hv hw0 h hlo HST
    obtain ⟨A1, n1, c1, A2, n2, c2, A3, n3, c3⟩ := r
    unfold wv wcs
    unfold wv wcs at HWF
    unfold wcs at HB1 HSZ HBL HST2
    dsimp only at HWF HB1 HSZ HBL HST2 HFN hn16 hn34 ⊢
    generalize hsl : d.sl = sl at *
    subst hns
    have HSL := Lib.hid hsl
    clear hsl
    go_enter Try.func62, Try.ntmps62
    go_upto_region 1 with (fail)
    generalize World.alloc w _ = w1 at *
    have k0 := HB1.out.cell 0
    have k1 := HB1.out.cell 1
    have k2 := HB1.out.cell 2
    have k3 := HB1.out.cell 3
    simp at k0 k1 k2 k3
    go_wp2_with fail
    refine HWF.out.mono ?_
    rintro e w2 ⟨rfl, hb2⟩
    rw [HSZ.out] at hb2
    have hsz2 := hb2.size
    rw [HSZ.out] at hsz2
    have HG0 := Lib.hid (HST2.out _ hb2 hsz2)
    clear hb2 hsz2 HST2 HB1 k0 k1 k2 k3 HWF HSZ HBL
    go_upto_region 5 with (fail)
    generalize World.alloc w2 _ = w3 at *
    generalize w2.heap.size + 1 = base at *
    generalize w2.heap.size = p3 at *
    generalize w.heap.size = p1 at *
    have HF := HG0
    obtain ⟨k0, k1, k2, k3⟩ := HF.out.four HSL.out
    dsimp only at k0 k1 k2 k3
    go_wp2_with fail
    clear k0 k1 k2 k3
    go_loopg [17] n3 (fun kx i wr => ∃ a : Nat, kx = n3 - a ∧ a ≤ n3 ∧ i = .int .i64 (a : Int) ∧ Hid (GbS w [] base p1 p3 d ⟨A1, n1, c1, A2, n2, c2, A3, n3, c3⟩ (gbS n1 ns a 0 0 0 0) (34 * a) wr))
    case atStart => exact ⟨0, by omega, Nat.zero_le _, rfl, HF⟩
    case round =>
      clear HF HG0
      obtain ⟨a, hgk, ha, rfl, HF⟩ := hrel
      have HGKA := Lib.hid hgk; clear hgk
      by_cases hlta : a < n3
      · skip
        obtain ⟨k0, k1, k2, k3⟩ := HF.out.four HSL.out
        dsimp only at k0 k1 k2 k3
        go_wp2_with fail
        clear k0 k1 k2 k3
        go_loopg [23] n1 (fun kx i wr => ∃ j : Nat, kx = n1 - j ∧ j ≤ n1 ∧ i = .int .i64 (j : Int) ∧ Hid (GbS w [] base p1 p3 d ⟨A1, n1, c1, A2, n2, c2, A3, n3, c3⟩ (gbS n1 ns a j 0 0 0) (34 * a + 3 * j) wr))
        case atStart => exact ⟨0, by omega, Nat.zero_le _, rfl, HF⟩
        case round =>
          clear HF
          obtain ⟨j, hgk, hj, rfl, HF⟩ := hrel
          have HGKJ := Lib.hid hgk; clear hgk
          by_cases hlt : j < n1
          · skip
            go_upto_region 12 with (fail)
            have HF1 := Lib.hid (HF.out.new #[.int .i64 0, .int .i64 1, .int .i64 3] 3 (by decide))
            clear HF
            have HF := HF1
            clear HF1
            generalize World.alloc wr _ = w4 at *
            generalize wr.heap.size = pk at *
            go_loopg [28] 3 (fun kx i wr => ∃ q : Nat, kx = 3 - q ∧ q ≤ 3 ∧ i = .int .i64 (q : Int) ∧ Hid (GbS w [(pk, 3, #[.int .i64 0, .int .i64 1, .int .i64 3])] base p1 p3 d ⟨A1, n1, c1, A2, n2, c2, A3, n3, c3⟩ (gbS n1 ns a j q 0 0) (34 * a + 3 * j + q) wr))
            case atStart => exact ⟨0, by omega, Nat.zero_le _, rfl, HF⟩
            case round =>
              clear HF
              obtain ⟨q, hgk, hq, rfl, HF⟩ := hrel
              have HGK := Lib.hid hgk; clear hgk
              have hcs : q = 0 ∨ q = 1 ∨ q = 2 ∨ q = 3 := by omega
              rcases hcs with rfl | rfl | rfl | rfl
              · skip
                have HK := Lib.hid HF.out.top
                have e0 := HK.out.cell 0
                simp at e0
                clear HK
                go_wp2_with fail
                refine (HTR.out _ base p1 p3 (gbS n1 ns a j 0 0 0) (gbS n1 ns a j 1 0 0) (34 * a + 3 * j + 0) (34 * a + 3 * j + 1) ⟨0, (a : Int), (j : Int), -1, 0⟩ _ HF.out (gb_newk n1 ns a j 0 (by omega)) (gb_kind n1 ns a j 0 (by omega)) (by omega) (by omega)).mono ?_
                rintro e w5 ⟨rfl, hg5⟩
                have HF5 := Lib.hid hg5
                clear hg5 HF
                have HF := HF5
                clear HF5
                clear e0
                go_wp2_with fail
                go_roundg (3 - 1)
                case measure => rw [HGK.out]; omega
                case rel => exact ⟨1, rfl, by omega, by go_num, HF⟩
              · skip
                have HK := Lib.hid HF.out.top
                have e0 := HK.out.cell 1
                simp at e0
                clear HK
                go_wp2_with fail
                refine (HTR.out _ base p1 p3 (gbS n1 ns a j 1 0 0) (gbS n1 ns a j 2 0 0) (34 * a + 3 * j + 1) (34 * a + 3 * j + 2) ⟨1, (a : Int), (j : Int), -1, 0⟩ _ HF.out (gb_newk n1 ns a j 1 (by omega)) (gb_kind n1 ns a j 1 (by omega)) (by omega) (by omega)).mono ?_
                rintro e w5 ⟨rfl, hg5⟩
                have HF5 := Lib.hid hg5
                clear hg5 HF
                have HF := HF5
                clear HF5
                clear e0
                go_wp2_with fail
                go_roundg (3 - 2)
                case measure => rw [HGK.out]; omega
                case rel => exact ⟨2, rfl, by omega, by go_num, HF⟩
              · skip
                have HK := Lib.hid HF.out.top
                have e0 := HK.out.cell 2
                simp at e0
                clear HK
                go_wp2_with fail
                refine (HTR.out _ base p1 p3 (gbS n1 ns a j 2 0 0) (gbS n1 ns a j 3 0 0) (34 * a + 3 * j + 2) (34 * a + 3 * j + 3) ⟨3, (a : Int), (j : Int), -1, 0⟩ _ HF.out (gb_newk n1 ns a j 2 (by omega)) (gb_kind n1 ns a j 2 (by omega)) (by omega) (by omega)).mono ?_
                rintro e w5 ⟨rfl, hg5⟩
                have HF5 := Lib.hid hg5
                clear hg5 HF
                have HF := HF5
                clear HF5
                clear e0
                go_wp2_with fail
                go_roundg (3 - 3)
                case measure => rw [HGK.out]; omega
                case rel => exact ⟨3, rfl, by omega, by go_num, HF⟩
              · have HF6 := Lib.hid (HF.out.less.re (Q := gbS n1 ns a (j + 1) 0 0 0) (M := 34 * a + 3 * (j + 1)) (gb_part n1 ns a j) (by omega))
                clear HF
                go_wp2_with fail
                go_roundg (n1 - (j + 1))
                case measure => rw [HGKJ.out]; omega
                case rel => exact ⟨j + 1, rfl, by omega, by go_num, HF6⟩
          · obtain rfl : j = n1 := by omega
            clear hlt
            obtain ⟨k0, k1, k2, k3⟩ := HF.out.four HSL.out
            dsimp only at k0 k1 k2 k3
            go_wp2_with fail
            clear k0 k1 k2 k3
            go_loopg [42] ns (fun kx i wr => ∃ i' : Nat, kx = ns - i' ∧ i' ≤ ns ∧ i = .int .i64 (i' : Int) ∧ Hid (GbS w [] base p1 p3 d ⟨A1, j, c1, A2, n2, c2, A3, n3, c3⟩ (gbS j ns a j 0 i' 0) (34 * a + 3 * j + 2 * i') wr))
            case atStart => exact ⟨0, by omega, Nat.zero_le _, rfl, HF⟩
            case round =>
              clear HF
              obtain ⟨i, hgk, hi, rfl, HF⟩ := hrel
              have HGK := Lib.hid hgk; clear hgk
              by_cases hlt : i < ns
              · skip
                go_wp2_with fail
                refine (HTR.out _ base p1 p3 (gbS j ns a j 0 i 0) (gbS j ns a j 0 i 1) (34 * a + 3 * j + 2 * i) (34 * a + 3 * j + 2 * i + 1) ⟨0, (a : Int), -1, (i : Int), 0⟩ _ HF.out (gb_newg j ns a i) (gb_go j ns a i) (by omega) (by omega)).mono ?_
                rintro e w5 ⟨rfl, hg5⟩
                have HF5 := Lib.hid hg5
                clear hg5 HF
                have HF := HF5
                clear HF5
                go_wp2_with fail
                refine (HTR.out _ base p1 p3 (gbS j ns a j 0 i 1) (gbS j ns a j 0 (i + 1) 0) (34 * a + 3 * j + 2 * i + 1) (34 * a + 3 * j + 2 * (i + 1)) ⟨2, (a : Int), -1, (i : Int), 0⟩ _ HF.out (gb_newp j ns a i) (gb_put j ns a i) (by omega) (by omega)).mono ?_
                rintro e w5 ⟨rfl, hg5⟩
                have HF5 := Lib.hid hg5
                clear hg5 HF
                have HF := HF5
                clear HF5
                go_wp2_with fail
                go_roundg (ns - (i + 1))
                case measure => rw [HGK.out]; omega
                case rel => exact ⟨i + 1, rfl, by omega, by go_num, HF⟩
              · obtain rfl : i = ns := by omega
                clear hlt
                have HF6 := Lib.hid (HF.out.re (Q := gbS j i (a + 1) 0 0 0 0) (M := 34 * (a + 1)) (gb_arm j i a) (by omega))
                clear HF
                go_wp2_with fail
                go_roundg (n3 - (a + 1))
                case measure => rw [HGKA.out]; omega
                case rel => exact ⟨a + 1, rfl, by omega, by go_num, HF6⟩
      · obtain rfl : a = n3 := by omega
        clear hlta
        obtain ⟨A9, n9, c9, hb9, hp9⟩ := HFN.out _ _ _ _ _ HF.out
        have HP9 := Lib.hid hp9
        have k0 := hb9.cell 0
        simp at k0
        clear hb9 hp9
        go_wp2_with fail
        go_ret
        exact HP9.out
  · have hne : (wErr d != 0) = true := by simp [hw0]
    have HBAD := Lib.hid (fun W hb => ss_bad (d := d) (w := w) (W := W) hw0 hb)
    clear hw0 hlo
    generalize wErr d = ce at *
    obtain ⟨A1, n1, c1, A2, n2, c2, A3, n3, c3⟩ := r
    clear h HST
    unfold wv wcs
    unfold wv wcs at HWF
    unfold wcs at HB1 HSZ HBL
    dsimp only at HWF HB1 HSZ HBL ⊢
    generalize d.sl = sl at *
    go_enter Try.func62, Try.ntmps62
    go_upto_region 1 with (fail)
    generalize World.alloc w _ = w1 at *
    have k0 := HB1.out.cell 0
    have k1 := HB1.out.cell 1
    have k2 := HB1.out.cell 2
    have k3 := HB1.out.cell 3
    simp at k0 k1 k2 k3
    go_wp2_with fail
    refine HWF.out.mono ?_
    rintro e w2 ⟨rfl, hb2⟩
    have HF := Lib.hid (HBL.out.trans (hb2.mono HBL.out.size))
    clear hb2 k0 k1 k2 k3
    go_wp2_with fail
    go_ret
    exact HBAD.out _ HF.out
end Go.Proofs.Ytnaiflokmihmeaa
