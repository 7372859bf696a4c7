/- Walk: Facts (package act). -/
import Derived.Test.YtnaiflokmihmeaaAwC
import Derived.Test.YtnaiflokmihmeaaReA
namespace Go.Proofs.Ytnaiflokmihmeaa
open Go.RowKit
set_option linter.unusedVariables false
set_option linter.unusedSimpArgs false

/-- the facts told of j parts' places, j5 parts' looks, i4 slots, i3 arms' hands, i6 arms' spots -/
def fcF (d : Wd) (j j5 i4 i3 i6 : Nat) (f : Ft) : Prop :=
  (f.k = 1 ∧ 0 ≤ f.b ∧ ∃ q : Nat, f.a = (q : Int) ∧ q < j ∧ d.pl[q]? = some f.b) ∨
  (f.k = 2 ∧ 0 ≤ f.a ∧ ∃ q : Nat, f.b = (q : Int) ∧ q < j ∧ d.pl[q]? = some (-2 - f.a)) ∨
  (f.k = 5 ∧ f.b = 0 ∧ ∃ q : Nat, f.a = (q : Int) ∧ q < j5 ∧ d.se[q]? = some true) ∨
  (f.k = 4 ∧ f.b = 0 ∧ 0 ≤ f.a ∧ f.a < (i4 : Int) ∧ f.a ∉ d.pl) ∨
  (f.k = 3 ∧ f.b = 0 ∧ 0 ≤ f.a ∧ f.a < (i3 : Int) ∧ (-2 - f.a) ∉ d.pl) ∨
  (f.k = 6 ∧ 0 ≤ f.b ∧ ∃ q : Nat, f.a = (q : Int) ∧ q < i6 ∧ d.sp[q]? = some f.b)
theorem exq_succ {α : Type} {xs : List α} {j : Nat} {x : α} (hx : xs[j]? = some x) (a : Int) (y : α) : (∃ q : Nat, a = (q : Int) ∧ q < j + 1 ∧ xs[q]? = some y) ↔ (∃ q : Nat, a = (q : Int) ∧ q < j ∧ xs[q]? = some y) ∨ (a = (j : Int) ∧ x = y) := by
  constructor
  · rintro ⟨q, h1, h2, h3⟩
    by_cases h : q < j
    · exact .inl ⟨q, h1, h, h3⟩
    · obtain rfl : q = j := by omega
      rw [hx] at h3; exact .inr ⟨h1, Option.some.inj h3⟩
  · rintro (⟨q, h1, h2, h3⟩ | ⟨h1, h2⟩)
    · exact ⟨q, h1, by omega, h3⟩
    · exact ⟨j, h1, by omega, by rw [hx, h2]⟩
theorem fc_zero (d : Wd) (f : Ft) : ¬ fcF d 0 0 0 0 0 f := by
  rintro (⟨_, _, q, _, h, _⟩ | ⟨_, _, q, _, h, _⟩ | ⟨_, _, q, _, h, _⟩ | h | h | ⟨_, _, q, _, h, _⟩)
  all_goals omega
theorem fc_place (d : Wd) {j i4 i3 i6 : Nat} {x : Int} (hx : d.pl[j]? = some x) (f : Ft) : fcF d (j + 1) j i4 i3 i6 f ↔ fcF d j j i4 i3 i6 f ∨ (0 ≤ x ∧ f = ⟨1, (j : Int), x⟩) ∨ (x < -1 ∧ f = ⟨2, -2 - x, (j : Int)⟩) := by
  obtain ⟨k, a, b⟩ := f
  simp only [fcF, exq_succ hx, Ft.mk.injEq]
  generalize (∃ q : Nat, a = (q : Int) ∧ q < j ∧ d.pl[q]? = some b) = P1
  generalize (∃ q : Nat, b = (q : Int) ∧ q < j ∧ d.pl[q]? = some (-2 - a)) = P2
  generalize (∃ q : Nat, a = (q : Int) ∧ q < j ∧ d.se[q]? = some true) = P3
  generalize (∃ q : Nat, a = (q : Int) ∧ q < i6 ∧ d.sp[q]? = some b) = P4
  generalize (a ∈ d.pl) = M1
  generalize (-2 - a ∈ d.pl) = M2
  clear hx
  grind (splits := 80)
theorem fc_seen (d : Wd) {j i4 i3 i6 : Nat} {x : Bool} (hx : d.se[j]? = some x) (f : Ft) : fcF d (j + 1) (j + 1) i4 i3 i6 f ↔ fcF d (j + 1) j i4 i3 i6 f ∨ (x = true ∧ f = ⟨5, (j : Int), 0⟩) := by
  obtain ⟨k, a, b⟩ := f
  simp only [fcF, exq_succ hx, Ft.mk.injEq]
  generalize (∃ q : Nat, a = (q : Int) ∧ q < j + 1 ∧ d.pl[q]? = some b) = P1
  generalize (∃ q : Nat, b = (q : Int) ∧ q < j + 1 ∧ d.pl[q]? = some (-2 - a)) = P2
  generalize (∃ q : Nat, a = (q : Int) ∧ q < j ∧ d.se[q]? = some true) = P3
  generalize (∃ q : Nat, a = (q : Int) ∧ q < i6 ∧ d.sp[q]? = some b) = P4
  generalize (a ∈ d.pl) = M1
  generalize (-2 - a ∈ d.pl) = M2
  clear hx
  grind (splits := 80)
theorem fc_slot (d : Wd) (j j5 i i3 i6 : Nat) (f : Ft) : fcF d j j5 (i + 1) i3 i6 f ↔ fcF d j j5 i i3 i6 f ∨ ((i : Int) ∉ d.pl ∧ f = ⟨4, (i : Int), 0⟩) := by
  obtain ⟨k, a, b⟩ := f
  simp only [fcF, Ft.mk.injEq]
  generalize (∃ q : Nat, a = (q : Int) ∧ q < j ∧ d.pl[q]? = some b) = P1
  generalize (∃ q : Nat, b = (q : Int) ∧ q < j ∧ d.pl[q]? = some (-2 - a)) = P2
  generalize (∃ q : Nat, a = (q : Int) ∧ q < j5 ∧ d.se[q]? = some true) = P3
  generalize (∃ q : Nat, a = (q : Int) ∧ q < i6 ∧ d.sp[q]? = some b) = P4
  by_cases ha : a = (i : Int)
  · subst ha
    generalize ((i : Int) ∈ d.pl) = M1
    generalize (-2 - (i : Int) ∈ d.pl) = M2
    grind (splits := 80)
  · generalize (a ∈ d.pl) = M1
    generalize (-2 - a ∈ d.pl) = M2
    have : a < ((i + 1 : Nat) : Int) ↔ a < (i : Int) := by omega
    rw [this]
    grind (splits := 80)
theorem fc_free (d : Wd) (j j5 i4 i i6 : Nat) (f : Ft) : fcF d j j5 i4 (i + 1) i6 f ↔ fcF d j j5 i4 i i6 f ∨ ((-2 - (i : Int)) ∉ d.pl ∧ f = ⟨3, (i : Int), 0⟩) := by
  obtain ⟨k, a, b⟩ := f
  simp only [fcF, Ft.mk.injEq]
  generalize (∃ q : Nat, a = (q : Int) ∧ q < j ∧ d.pl[q]? = some b) = P1
  generalize (∃ q : Nat, b = (q : Int) ∧ q < j ∧ d.pl[q]? = some (-2 - a)) = P2
  generalize (∃ q : Nat, a = (q : Int) ∧ q < j5 ∧ d.se[q]? = some true) = P3
  generalize (∃ q : Nat, a = (q : Int) ∧ q < i6 ∧ d.sp[q]? = some b) = P4
  by_cases ha : a = (i : Int)
  · subst ha
    generalize ((i : Int) ∈ d.pl) = M1
    generalize (-2 - (i : Int) ∈ d.pl) = M2
    grind (splits := 80)
  · generalize (a ∈ d.pl) = M1
    generalize (-2 - a ∈ d.pl) = M2
    have : a < ((i + 1 : Nat) : Int) ↔ a < (i : Int) := by omega
    rw [this]
    grind (splits := 80)
theorem fc_at (d : Wd) {j j5 i4 i3 i : Nat} {x : Int} (hx : d.sp[i]? = some x) (f : Ft) : fcF d j j5 i4 i3 (i + 1) f ↔ fcF d j j5 i4 i3 i f ∨ (0 ≤ x ∧ f = ⟨6, (i : Int), x⟩) := by
  obtain ⟨k, a, b⟩ := f
  simp only [fcF, exq_succ hx, Ft.mk.injEq]
  generalize (∃ q : Nat, a = (q : Int) ∧ q < j ∧ d.pl[q]? = some b) = P1
  generalize (∃ q : Nat, b = (q : Int) ∧ q < j ∧ d.pl[q]? = some (-2 - a)) = P2
  generalize (∃ q : Nat, a = (q : Int) ∧ q < j5 ∧ d.se[q]? = some true) = P3
  generalize (∃ q : Nat, a = (q : Int) ∧ q < i ∧ d.sp[q]? = some b) = P4
  generalize (a ∈ d.pl) = M1
  generalize (-2 - a ∈ d.pl) = M2
  clear hx
  grind (splits := 80)
theorem fc_all (d : Wd) (f : Ft) : fcF d d.pl.length d.pl.length d.sl.toNat d.sp.length d.sp.length f ↔ inS d f := by
  obtain ⟨k, a, b⟩ := f
  simp only [fcF, inS, stF, List.take_length]
  generalize (∃ q : Nat, a = (q : Int) ∧ q < d.pl.length ∧ d.pl[q]? = some b) = P1
  generalize (∃ q : Nat, b = (q : Int) ∧ q < d.pl.length ∧ d.pl[q]? = some (-2 - a)) = P2
  generalize (∃ q : Nat, a = (q : Int) ∧ q < d.pl.length ∧ d.se[q]? = some true) = P3
  generalize (∃ q : Nat, a = (q : Int) ∧ q < d.sp.length ∧ d.sp[q]? = some b) = P4
  generalize (a ∈ d.pl) = M1
  generalize (-2 - a ∈ d.pl) = M2
  grind (splits := 80)
theorem hold_mem {d : Wd} {a : Int} (h0 : 0 ≤ a) (h1 : a < (d.sp.length : Int)) : 0 ≤ hold d a ↔ (-2 - a) ∈ d.pl := by
  have h3 := ixI_any (fun y => (-2 - a) == y) d.pl
  rw [← hold_in h0 h1] at h3
  constructor
  · intro h4
    rw [decide_eq_true h4] at h3
    obtain ⟨y, hy, hy2⟩ := List.any_eq_true.1 h3.symm
    have : -2 - a = y := by simpa using hy2
    rw [this]; exact hy
  · intro h4
    refine Classical.byContradiction fun h5 => ?_
    rw [decide_eq_false h5] at h3
    have := List.any_eq_false.1 h3.symm _ h4
    simp at this
theorem mem_app {xs : List Ft} {g : Ft} {p q : Ft → Prop} (h : ∀ f, f ∈ xs ↔ p f) (hq : ∀ f, q f ↔ p f ∨ f = g) : ∀ f, f ∈ xs ++ [g] ↔ q f := fun f => by rw [List.mem_append, List.mem_singleton, h f, hq f]
theorem mem_same {xs : List Ft} {p q : Ft → Prop} (h : ∀ f, f ∈ xs ↔ p f) (hq : ∀ f, q f ↔ p f) : ∀ f, f ∈ xs ↔ q f := fun f => by rw [h f, hq f]
/-- while facts are gathered -/
structure FcS (w : World) (sl : Int) (r : Raw) (v : Value) (xs : List Ft) (wr : World) : Prop where
  one : Blk wr w.heap.size 25 (wcs sl r)
  row : FRow w v xs wr
section
variable {w wr w' : World} {sl : Int} {r : Raw} {v v' : Value} {xs : List Ft} {n : Nat}
theorem FcS.bel (h : FcS w sl r v xs wr) : Below w.heap.size w wr := h.row.bel
theorem FcS.start (w : World) (sl : Int) (r : Raw) : FcS w sl r (.slice none 0 0) [] (w.alloc (.cells (wcs sl r) 25)) := ⟨Blk.new _ _ _, FRow.nil ((Below.refl _ _).alloc (Nat.le_refl _) _)⟩
theorem FcS.next (h : FcS w sl r v xs wr) (hb : Below wr.heap.size wr w') : FcS w sl r v xs w' := ⟨h.one.belowB hb, h.row.next hb⟩
theorem FcS.four (h : FcS w sl r v xs wr) : wr.cell? ⟨w.heap.size, 0, none⟩ = some (.int .i64 sl) ∧ wr.cell? ⟨w.heap.size, 1, none⟩ = some (.slice r.A1 r.n1 r.c1) ∧ wr.cell? ⟨w.heap.size, 2, none⟩ = some (.slice r.A2 r.n2 r.c2) ∧ wr.cell? ⟨w.heap.size, 3, none⟩ = some (.slice r.A3 r.n3 r.c3) :=
  ⟨h.one.cell 0, h.one.cell 1, h.one.cell 2, h.one.cell 3⟩
theorem FcS.app (h : FcS w sl r v xs wr) {o : Obj} {x : Ft} (hn : xs.length = n) (hR : Rws w [⟨v', 45, 3, n + 1, cellsF xs ++ (#[.int .i64 x.k, .int .i64 x.a, .int .i64 x.b] : Array Value).toList⟩] w') (hg : (wr.alloc o).grownBy w' v.ownBlock) : FcS w sl r v' (xs ++ [x]) w' := by
  have h0 := h.next ((Below.refl _ _).alloc (Nat.le_refl _) o)
  exact ⟨h0.one.grown hg (own_blk_ne (Rws.head h0.row) h0.one (by dsimp only; decide)), FRow.add hn hR⟩
end
def FcPost (d : Wd) (w : World) (e : Ending) (w' : World) : Prop :=
  ∃ l A c, e = .returned (.slice A (List.length l) c) ∧ l.length ≤ c ∧ c ≤ maxLen ∧ FactsAt w' w'.heap.size A l ∧ Asc l ∧ (∀ f, f ∈ l ↔ wErr d = 0 ∧ inS d f ∧ okF f = true) ∧ Below w.heap.size w w'
theorem fc_bad {d : Wd} {w W : World} (h : wErr d ≠ 0) (hb : Below w.heap.size w W) : FcPost d w (.returned (.slice none 0 0)) W :=
  ⟨[], none, 0, rfl, Nat.le_refl _, by unfold maxLen; omega, fun k x hx => by simp at hx, List.Pairwise.nil, fun f => ⟨fun h9 => by simp at h9, fun h9 => absurd h9.1 h⟩, hb⟩
theorem fc_ok {d : Wd} {w w1 W : World} {e : Ending} {xs : List Ft} (h : wErr d = 0) (hb : Below w.heap.size w w1) (hm : ∀ f, f ∈ xs ↔ inS d f) (ho : OfPost xs w1 e W) : FcPost d w e W := by
  obtain ⟨A, c, h1, h2, h3, h4, h5⟩ := ho
  exact ⟨ofL xs, A, c, h1, h2, h3, h4, ofL_asc xs, fun f => by rw [ofL_mem, hm f]; exact ⟨fun h9 => ⟨h, h9⟩, fun h9 => h9.2⟩, hb.trans (h5.mono hb.size)⟩
set_option maxHeartbeats 4000000 in
set_option maxRecDepth 20000 in
theorem facts_any (d : Wd) (r : Raw) (w : World) (h : WOk w r d) : Calls Try.prog 48 #[wv d.sl r] w (FcPost d w) := by
  have HCK := Lib.hid (fun W (hb : Below w.heap.size w W) => acheck_any d r W (h.next hb))
  have HIN := Lib.hid (fun (x : Int) W (hb : Below w.heap.size w W) => inn_any d r x W (h.next hb))
  have HHO := Lib.hid (fun (x : Int) W (hb : Below w.heap.size w W) => holds_any d r x W (h.next hb))
  have HS0 := Lib.hid (FcS.start w d.sl r)
  have HH := Lib.hid h
  by_cases hw0 : wErr d = 0
  · rw [hw0] at HCK
    have HW0 := Lib.hid hw0
    have hv := vd_of hw0
    have HV := Lib.hid hv
    have E1 := Lib.hid h.h1
    have E3 := Lib.hid h.h3
    obtain ⟨ns, hns⟩ := Int.eq_ofNat_of_zero_le hv.sl0
    have hns8 : ns ≤ 8 := by have := hv.sl8; omega
    have hn16 : r.n1 ≤ 6 := by have h8 := hv.p6; have h9 := h.h1; omega
    have hn34 : r.n3 ≤ 4 := by have h8 := hv.s4; have h9 := h.h3; omega
    have hn12 : r.n1 = r.n2 := by have h7 := hv.se; have h8 := h.h2; have h9 := h.h1; omega
    have E2 : Hid (r.n1 = d.se.length) := Lib.hid (by have h8 := h.h2; omega)
    have HALL : Hid (∀ f, inS d f ↔ fcF d r.n1 r.n1 ns r.n3 r.n3 f) := Lib.hid (fun f => by
      have h9 := fc_all d f
      rw [← h.h1, ← h.h3, show d.sl.toNat = ns by omega] at h9
      exact h9.symm)
    clear hv hw0
    obtain ⟨A1, n1, c1, A2, n2, c2, A3, n3, c3⟩ := r
    clear h
    unfold wv wcs
    unfold wv wcs at HCK HIN HHO
    unfold wcs at HS0
    dsimp only at HCK HIN HHO HS0 ⊢
    dsimp only at hn16 hn34 hn12 HALL E1 E2 E3
    subst hn12
    generalize hsl : d.sl = sl at *
    subst hns
    clear hsl
    go_enter Try.func48, Try.ntmps48
    go_upto_region 1 with (fail)
    generalize World.alloc w _ = w1 at *
    obtain ⟨k0, k1, k2, k3⟩ := HS0.out.four
    dsimp only at k0 k1 k2 k3
    go_wp2_with fail
    refine (HCK.out _ HS0.out.bel).mono ?_
    rintro e w2 ⟨rfl, hb2⟩
    have HF := Lib.hid (HS0.out.next hb2)
    clear hb2 HS0 k0 k1 k2 k3
    obtain ⟨k0, k1, k2, k3⟩ := HF.out.four
    dsimp only at k0 k1 k2 k3
    go_wp2_with fail
    clear k0 k1 k2 k3
    go_loopg [3, 15] n1 (fun kx o i wr => ∃ (j vn vc : Nat) (VA : Option Addr) (xs : List Ft), kx = n1 - j ∧ j ≤ n1 ∧ i = .int .i64 j ∧ o = .slice VA vn vc ∧ vn ≤ 2 * j ∧ Hid (xs.length = vn) ∧ Hid (FcS w (ns : Int) ⟨A1, n1, c1, A2, n1, c2, A3, n3, c3⟩ (.slice VA vn vc) xs wr) ∧ Hid (∀ f, f ∈ xs ↔ fcF d j j 0 0 0 f))
    case atStart => exact ⟨0, 0, 0, none, [], by omega, Nat.zero_le _, rfl, rfl, Nat.zero_le _, Lib.hid rfl, HF, Lib.hid (fun f => ⟨fun h9 => by simp at h9, fun h9 => absurd h9 (fc_zero d f)⟩)⟩
    case round =>
      clear HF
      obtain ⟨j, vn, vc, VA, xs, hgk, hj, rfl, rfl, hvn, HXN, HF, HM⟩ := hrel
      have HGK := Lib.hid hgk; clear hgk
      by_cases hlt : j < n1
      · obtain ⟨x, hx⟩ := get_of_lt E1.out hlt
        obtain ⟨y, hy⟩ := get_of_lt E2.out hlt
        obtain ⟨b, off, rfl, hb, hc0⟩ := HH.out.i1 j x hx
        obtain ⟨b2, off2, rfl, hb2, hc2⟩ := HH.out.i2 j y hy
        have hxlo := (HV.out.plo j x hx)
        have HP := Lib.hid (fc_place (i4 := 0) (i3 := 0) (i6 := 0) d hx)
        have HY := Lib.hid hy
        have j1 : (0 : Int) ≤ (j : Int) := by omega
        have j2 : (j : Int) < (n1 : Int) := by omega
        clear hx hy
        have hcs : 0 ≤ x ∨ x = -1 ∨ x < -1 := by omega
        have g0 := (HF.out.bel.cell (p := ⟨b, off + j, none⟩) hb).trans hc0
        rcases hcs with hx0 | hx0 | hx0
        · skip
          go_upto_region 11 with (at_builtin; refine wpList_append_oneG rfl _ _ _ rfl Try.underlying43 infoFt rfl rfl (n := vn) (xs := cellsF xs) (HF.out.row.row HXN.out) rfl rfl rfl (one_ft ⟨1, (j : Int), x⟩) (by omega) ?_; intro v' w6 hR6 hb6 hg6; obtain ⟨A6, c6, rfl⟩ := own_sliceR hR6)
          have HF2 := Lib.hid (HF.out.app (x := ⟨1, (j : Int), x⟩) HXN.out hR6 hg6)
          have HXN2 : Hid ((xs ++ [(⟨1, (j : Int), x⟩ : Ft)]).length = vn + 1) := Lib.hid (by rw [List.length_append, HXN.out]; rfl)
          have HM2 := Lib.hid (mem_app (g := ⟨1, (j : Int), x⟩) HM.out (q := fcF d (j + 1) j 0 0 0) (fun f => by rw [HP.out f]; exact ⟨fun h8 => h8.elim .inl (fun h7 => h7.elim (fun h6 => .inr h6.2) (fun h6 => absurd h6.1 (by omega))), fun h8 => h8.elim .inl (fun h7 => .inr (.inl ⟨hx0, h7⟩))⟩))
          generalize xs ++ [(⟨1, (j : Int), x⟩ : Ft)] = ys at *
          clear HF HXN HM hR6 hb6 hg6
          have HF := HF2
          have HXN := HXN2
          have HM := HM2
          clear HF2 HXN2 HM2
          clear g0
          cases y with
          | true =>
            have HSE2 := Lib.hid (fc_seen (i4 := 0) (i3 := 0) (i6 := 0) d HY.out)
            obtain ⟨k0, k1, k2, k3⟩ := HF.out.four
            dsimp only at k0 k1 k2 k3
            have g1 := (HF.out.bel.cell (p := ⟨b2, off2 + j, none⟩) hb2).trans hc2
            go_upto_region 13 with (at_builtin; refine wpList_append_oneG rfl _ _ _ rfl Try.underlying43 infoFt rfl rfl (n := (vn + 1)) (xs := cellsF ys) (HF.out.row.row HXN.out) rfl rfl rfl (one_ft ⟨5, (j : Int), 0⟩) (by omega) ?_; intro v' w6 hR6 hb6 hg6; obtain ⟨A6, c6, rfl⟩ := own_sliceR hR6)
            have HF2 := Lib.hid (HF.out.app (x := ⟨5, (j : Int), 0⟩) HXN.out hR6 hg6)
            have HXN2 : Hid ((ys ++ [(⟨5, (j : Int), 0⟩ : Ft)]).length = (vn + 1) + 1) := Lib.hid (by rw [List.length_append, HXN.out]; rfl)
            have HM2 := Lib.hid (mem_app (g := ⟨5, (j : Int), 0⟩) HM.out (q := fcF d (j + 1) (j + 1) 0 0 0) (fun f => by rw [HSE2.out f]; simp))
            generalize ys ++ [(⟨5, (j : Int), 0⟩ : Ft)] = zs at *
            clear HF HXN HM hR6 hb6 hg6
            have HF := HF2
            have HXN := HXN2
            have HM := HM2
            clear HF2 HXN2 HM2
            clear k0 k1 k2 k3 g1
            go_wp2_with fail
            go_roundg (n1 - (j + 1))
            case measure => rw [HGK.out]; omega
            case rel => exact ⟨j+1, _, _, _, _, rfl, by omega, by go_num, rfl, by omega, HXN, HF, HM⟩
          | false =>
            have HSE2 := Lib.hid (fc_seen (i4 := 0) (i3 := 0) (i6 := 0) d HY.out)
            have HM2 := Lib.hid (mem_same (q := fcF d (j + 1) (j + 1) 0 0 0) HM.out (fun f => by rw [HSE2.out f]; simp))
            obtain ⟨k0, k1, k2, k3⟩ := HF.out.four
            dsimp only at k0 k1 k2 k3
            have g1 := (HF.out.bel.cell (p := ⟨b2, off2 + j, none⟩) hb2).trans hc2
            go_wp2_with fail
            go_roundg (n1 - (j + 1))
            case measure => rw [HGK.out]; omega
            case rel => exact ⟨j+1, _, _, _, _, rfl, by omega, by go_num, rfl, by omega, HXN, HF, HM2⟩
        · subst hx0
          have HM2 := Lib.hid (mem_same (q := fcF d (j + 1) j 0 0 0) HM.out (fun f => by rw [HP.out f]; simp))
          clear HM
          have HM := HM2
          clear HM2
          go_upto_region 11 with (fail)
          clear g0
          cases y with
          | true =>
            have HSE2 := Lib.hid (fc_seen (i4 := 0) (i3 := 0) (i6 := 0) d HY.out)
            obtain ⟨k0, k1, k2, k3⟩ := HF.out.four
            dsimp only at k0 k1 k2 k3
            have g1 := (HF.out.bel.cell (p := ⟨b2, off2 + j, none⟩) hb2).trans hc2
            go_upto_region 13 with (at_builtin; refine wpList_append_oneG rfl _ _ _ rfl Try.underlying43 infoFt rfl rfl (n := vn) (xs := cellsF xs) (HF.out.row.row HXN.out) rfl rfl rfl (one_ft ⟨5, (j : Int), 0⟩) (by omega) ?_; intro v' w6 hR6 hb6 hg6; obtain ⟨A6, c6, rfl⟩ := own_sliceR hR6)
            have HF2 := Lib.hid (HF.out.app (x := ⟨5, (j : Int), 0⟩) HXN.out hR6 hg6)
            have HXN2 : Hid ((xs ++ [(⟨5, (j : Int), 0⟩ : Ft)]).length = vn + 1) := Lib.hid (by rw [List.length_append, HXN.out]; rfl)
            have HM2 := Lib.hid (mem_app (g := ⟨5, (j : Int), 0⟩) HM.out (q := fcF d (j + 1) (j + 1) 0 0 0) (fun f => by rw [HSE2.out f]; simp))
            generalize xs ++ [(⟨5, (j : Int), 0⟩ : Ft)] = ys at *
            clear HF HXN HM hR6 hb6 hg6
            have HF := HF2
            have HXN := HXN2
            have HM := HM2
            clear HF2 HXN2 HM2
            clear k0 k1 k2 k3 g1
            go_wp2_with fail
            go_roundg (n1 - (j + 1))
            case measure => rw [HGK.out]; omega
            case rel => exact ⟨j+1, _, _, _, _, rfl, by omega, by go_num, rfl, by omega, HXN, HF, HM⟩
          | false =>
            have HSE2 := Lib.hid (fc_seen (i4 := 0) (i3 := 0) (i6 := 0) d HY.out)
            have HM2 := Lib.hid (mem_same (q := fcF d (j + 1) (j + 1) 0 0 0) HM.out (fun f => by rw [HSE2.out f]; simp))
            obtain ⟨k0, k1, k2, k3⟩ := HF.out.four
            dsimp only at k0 k1 k2 k3
            have g1 := (HF.out.bel.cell (p := ⟨b2, off2 + j, none⟩) hb2).trans hc2
            go_wp2_with fail
            go_roundg (n1 - (j + 1))
            case measure => rw [HGK.out]; omega
            case rel => exact ⟨j+1, _, _, _, _, rfl, by omega, by go_num, rfl, by omega, HXN, HF, HM2⟩
        · have hx1 : x < 0 := by omega
          have hx9 : -10 ≤ x := by have h9 := E3.out; have h8 := hxlo.2; omega
          have hw := i64_w (-2 - x) (by omega) (by omega)
          go_upto_region 11 with (at_builtin; refine wpList_append_oneG rfl _ _ _ rfl Try.underlying43 infoFt rfl rfl (n := vn) (xs := cellsF xs) (HF.out.row.row HXN.out) rfl rfl rfl (one_ft ⟨2, -2 - x, (j : Int)⟩) (by omega) ?_; intro v' w6 hR6 hb6 hg6; obtain ⟨A6, c6, rfl⟩ := own_sliceR hR6)
          have HF2 := Lib.hid (HF.out.app (x := ⟨2, -2 - x, (j : Int)⟩) HXN.out hR6 hg6)
          have HXN2 : Hid ((xs ++ [(⟨2, -2 - x, (j : Int)⟩ : Ft)]).length = vn + 1) := Lib.hid (by rw [List.length_append, HXN.out]; rfl)
          have HM2 := Lib.hid (mem_app (g := ⟨2, -2 - x, (j : Int)⟩) HM.out (q := fcF d (j + 1) j 0 0 0) (fun f => by rw [HP.out f]; exact ⟨fun h8 => h8.elim .inl (fun h7 => h7.elim (fun h6 => absurd h6.1 (by omega)) (fun h6 => .inr h6.2)), fun h8 => h8.elim .inl (fun h7 => .inr (.inr ⟨hx0, h7⟩))⟩))
          generalize xs ++ [(⟨2, -2 - x, (j : Int)⟩ : Ft)] = ys at *
          clear HF HXN HM hR6 hb6 hg6
          have HF := HF2
          have HXN := HXN2
          have HM := HM2
          clear HF2 HXN2 HM2
          clear g0
          cases y with
          | true =>
            have HSE2 := Lib.hid (fc_seen (i4 := 0) (i3 := 0) (i6 := 0) d HY.out)
            obtain ⟨k0, k1, k2, k3⟩ := HF.out.four
            dsimp only at k0 k1 k2 k3
            have g1 := (HF.out.bel.cell (p := ⟨b2, off2 + j, none⟩) hb2).trans hc2
            go_upto_region 13 with (at_builtin; refine wpList_append_oneG rfl _ _ _ rfl Try.underlying43 infoFt rfl rfl (n := (vn + 1)) (xs := cellsF ys) (HF.out.row.row HXN.out) rfl rfl rfl (one_ft ⟨5, (j : Int), 0⟩) (by omega) ?_; intro v' w6 hR6 hb6 hg6; obtain ⟨A6, c6, rfl⟩ := own_sliceR hR6)
            have HF2 := Lib.hid (HF.out.app (x := ⟨5, (j : Int), 0⟩) HXN.out hR6 hg6)
            have HXN2 : Hid ((ys ++ [(⟨5, (j : Int), 0⟩ : Ft)]).length = (vn + 1) + 1) := Lib.hid (by rw [List.length_append, HXN.out]; rfl)
            have HM2 := Lib.hid (mem_app (g := ⟨5, (j : Int), 0⟩) HM.out (q := fcF d (j + 1) (j + 1) 0 0 0) (fun f => by rw [HSE2.out f]; simp))
            generalize ys ++ [(⟨5, (j : Int), 0⟩ : Ft)] = zs at *
            clear HF HXN HM hR6 hb6 hg6
            have HF := HF2
            have HXN := HXN2
            have HM := HM2
            clear HF2 HXN2 HM2
            clear k0 k1 k2 k3 g1
            go_wp2_with fail
            go_roundg (n1 - (j + 1))
            case measure => rw [HGK.out]; omega
            case rel => exact ⟨j+1, _, _, _, _, rfl, by omega, by go_num, rfl, by omega, HXN, HF, HM⟩
          | false =>
            have HSE2 := Lib.hid (fc_seen (i4 := 0) (i3 := 0) (i6 := 0) d HY.out)
            have HM2 := Lib.hid (mem_same (q := fcF d (j + 1) (j + 1) 0 0 0) HM.out (fun f => by rw [HSE2.out f]; simp))
            obtain ⟨k0, k1, k2, k3⟩ := HF.out.four
            dsimp only at k0 k1 k2 k3
            have g1 := (HF.out.bel.cell (p := ⟨b2, off2 + j, none⟩) hb2).trans hc2
            go_wp2_with fail
            go_roundg (n1 - (j + 1))
            case measure => rw [HGK.out]; omega
            case rel => exact ⟨j+1, _, _, _, _, rfl, by omega, by go_num, rfl, by omega, HXN, HF, HM2⟩
      · obtain rfl : j = n1 := by omega
        clear hlt
        obtain ⟨k0, k1, k2, k3⟩ := HF.out.four
        dsimp only at k0 k1 k2 k3
        go_wp2_with fail
        clear k0 k1 k2 k3
        go_loopg [3, 52] ns (fun kx o i wr => ∃ (q vn vc : Nat) (VA : Option Addr) (xs : List Ft), kx = ns - q ∧ q ≤ ns ∧ i = .int .i64 q ∧ o = .slice VA vn vc ∧ vn ≤ 12 + q ∧ Hid (xs.length = vn) ∧ Hid (FcS w (ns : Int) ⟨A1, j, c1, A2, j, c2, A3, n3, c3⟩ (.slice VA vn vc) xs wr) ∧ Hid (∀ f, f ∈ xs ↔ fcF d j j q 0 0 f))
        case atStart => exact ⟨0, vn, vc, VA, xs, by omega, Nat.zero_le _, rfl, rfl, by omega, HXN, HF, HM⟩
        case round =>
          clear HF HM HXN HGK hvn
          obtain ⟨q, vn, vc, VA, xs, hgk, hq, rfl, rfl, hvn, HXN, HF, HM⟩ := hrel
          have HGK := Lib.hid hgk; clear hgk
          by_cases hlt : q < ns
          · have HSL2 := Lib.hid (fc_slot d j j q 0 0)
            have HI := Lib.hid (inn_mem (d := d) (x := (q : Int)) (by omega))
            obtain ⟨k0, k1, k2, k3⟩ := HF.out.four
            dsimp only at k0 k1 k2 k3
            go_wp2_with fail
            refine (HIN.out (q : Int) _ HF.out.bel).mono ?_
            rintro e w4 ⟨rfl, hb4⟩
            have HF2 := Lib.hid (HF.out.next hb4)
            clear HF hb4 k0 k1 k2 k3
            have HF := HF2
            clear HF2
            by_cases hm : (q : Int) ∈ d.pl
            · have hin := HI.out.2 hm
              have HM2 := Lib.hid (mem_same (q := fcF d j j (q + 1) 0 0) HM.out (fun f => by rw [HSL2.out f]; simp [hm]))
              clear HM hm
              generalize inn d (q : Int) = iv at *
              go_wp2_with fail
              go_roundg (ns - (q + 1))
              case measure => rw [HGK.out]; omega
              case rel => exact ⟨q+1, _, _, _, _, rfl, by omega, by go_num, rfl, by omega, HXN, HF, HM2⟩
            · have hin : inn d (q : Int) < 0 := Int.not_le.1 fun h9 => hm (HI.out.1 h9)
              have HSL3 : Hid (∀ f, fcF d j j (q + 1) 0 0 f ↔ fcF d j j q 0 0 f ∨ f = ⟨4, (q : Int), 0⟩) := Lib.hid (fun f => by rw [HSL2.out f]; simp [hm])
              clear hm HI
              generalize inn d (q : Int) = iv at *
              go_upto_region 19 with (at_builtin; refine wpList_append_oneG rfl _ _ _ rfl Try.underlying43 infoFt rfl rfl (n := vn) (xs := cellsF xs) (HF.out.row.row HXN.out) rfl rfl rfl (one_ft ⟨4, (q : Int), 0⟩) (by omega) ?_; intro v' w6 hR6 hb6 hg6; obtain ⟨A6, c6, rfl⟩ := own_sliceR hR6)
              have HF2 := Lib.hid (HF.out.app (x := ⟨4, (q : Int), 0⟩) HXN.out hR6 hg6)
              have HXN2 : Hid ((xs ++ [(⟨4, (q : Int), 0⟩ : Ft)]).length = vn + 1) := Lib.hid (by rw [List.length_append, HXN.out]; rfl)
              have HM2 := Lib.hid (mem_app (g := ⟨4, (q : Int), 0⟩) HM.out HSL3.out)
              generalize xs ++ [(⟨4, (q : Int), 0⟩ : Ft)] = ys at *
              clear HF HXN HM hR6 hb6 hg6
              have HF := HF2
              have HXN := HXN2
              have HM := HM2
              clear HF2 HXN2 HM2
              go_wp2_with fail
              go_roundg (ns - (q + 1))
              case measure => rw [HGK.out]; omega
              case rel => exact ⟨q+1, _, _, _, _, rfl, by omega, by go_num, rfl, by omega, HXN, HF, HM⟩
          · obtain rfl : q = ns := by omega
            clear hlt
            obtain ⟨k0, k1, k2, k3⟩ := HF.out.four
            dsimp only at k0 k1 k2 k3
            go_wp2_with fail
            clear k0 k1 k2 k3
            go_loopg [3, 68] n3 (fun kx o i wr => ∃ (p vn vc : Nat) (VA : Option Addr) (xs : List Ft), kx = n3 - p ∧ p ≤ n3 ∧ i = .int .i64 p ∧ o = .slice VA vn vc ∧ vn ≤ 20 + 2 * p ∧ Hid (xs.length = vn) ∧ Hid (FcS w (q : Int) ⟨A1, j, c1, A2, j, c2, A3, n3, c3⟩ (.slice VA vn vc) xs wr) ∧ Hid (∀ f, f ∈ xs ↔ fcF d j j q p p f))
            case atStart => exact ⟨0, vn, vc, VA, xs, by omega, Nat.zero_le _, rfl, rfl, by omega, HXN, HF, HM⟩
            case round =>
              clear HF HM HXN HGK hvn
              obtain ⟨p, vn, vc, VA, xs, hgk, hp, rfl, rfl, hvn, HXN, HF, HM⟩ := hrel
              have HGK := Lib.hid hgk; clear hgk
              by_cases hlt : p < n3
              · obtain ⟨x, hx⟩ := get_of_lt E3.out hlt
                obtain ⟨b, off, rfl, hb, hc0⟩ := HH.out.i3 p x hx
                have hxlo := (HV.out.slo p x hx).1
                have HAT := Lib.hid (fc_at (j := j) (j5 := j) (i4 := q) (i3 := p + 1) d hx)
                have HFR := Lib.hid (fc_free d j j q p p)
                have HHM := Lib.hid (hold_mem (d := d) (a := (p : Int)) (by omega) (by rw [← E3.out]; omega))
                have j1 : (0 : Int) ≤ (p : Int) := by omega
                have j2 : (p : Int) < (n3 : Int) := by omega
                clear hx
                have g0 := (HF.out.bel.cell (p := ⟨b, off + p, none⟩) hb).trans hc0
                obtain ⟨k0, k1, k2, k3⟩ := HF.out.four
                dsimp only at k0 k1 k2 k3
                go_wp2_with fail
                refine (HHO.out (p : Int) _ HF.out.bel).mono ?_
                rintro e w4 ⟨rfl, hb4⟩
                have HF2 := Lib.hid (HF.out.next hb4)
                clear HF hb4 k0 k1 k2 k3 g0
                have HF := HF2
                clear HF2
                by_cases hm : (-2 - (p : Int)) ∈ d.pl
                · have hin := HHM.out.2 hm
                  have HM2 := Lib.hid (mem_same (q := fcF d j j q (p + 1) p) HM.out (fun f => by rw [HFR.out f]; simp [hm]))
                  clear HM hm HHM
                  have HM := HM2
                  clear HM2
                  generalize hold d (p : Int) = iv at *
                  go_upto_region 25 with (fail)
                  by_cases hx1 : x = -1
                  · subst hx1
                    have HM2 := Lib.hid (mem_same (q := fcF d j j q (p + 1) (p + 1)) HM.out (fun f => by rw [HAT.out f]; simp))
                    go_wp2_with fail
                    go_roundg (n3 - (p + 1))
                    case measure => rw [HGK.out]; omega
                    case rel => exact ⟨p+1, _, _, _, _, rfl, by omega, by go_num, rfl, by omega, HXN, HF, HM2⟩
                  · have hx2 : (x != -1) = true := by simp [hx1]
                    have hx3 : 0 ≤ x := by omega
                    have HAT3 : Hid (∀ f, fcF d j j q (p + 1) (p + 1) f ↔ fcF d j j q (p + 1) p f ∨ f = ⟨6, (p : Int), x⟩) := Lib.hid (fun f => by rw [HAT.out f]; simp [hx3])
                    clear hx1
                    go_upto_region 27 with (at_builtin; refine wpList_append_oneG rfl _ _ _ rfl Try.underlying43 infoFt rfl rfl (n := vn) (xs := cellsF xs) (HF.out.row.row HXN.out) rfl rfl rfl (one_ft ⟨6, (p : Int), x⟩) (by omega) ?_; intro v' w6 hR6 hb6 hg6; obtain ⟨A6, c6, rfl⟩ := own_sliceR hR6)
                    have HF2 := Lib.hid (HF.out.app (x := ⟨6, (p : Int), x⟩) HXN.out hR6 hg6)
                    have HXN2 : Hid ((xs ++ [(⟨6, (p : Int), x⟩ : Ft)]).length = vn + 1) := Lib.hid (by rw [List.length_append, HXN.out]; rfl)
                    have HM2 := Lib.hid (mem_app (g := ⟨6, (p : Int), x⟩) HM.out HAT3.out)
                    generalize xs ++ [(⟨6, (p : Int), x⟩ : Ft)] = ys at *
                    clear HF HXN HM hR6 hb6 hg6
                    have HF := HF2
                    have HXN := HXN2
                    have HM := HM2
                    clear HF2 HXN2 HM2
                    go_wp2_with fail
                    go_roundg (n3 - (p + 1))
                    case measure => rw [HGK.out]; omega
                    case rel => exact ⟨p+1, _, _, _, _, rfl, by omega, by go_num, rfl, by omega, HXN, HF, HM⟩
                · have hin : hold d (p : Int) < 0 := Int.not_le.1 fun h9 => hm (HHM.out.1 h9)
                  have HFR3 : Hid (∀ f, fcF d j j q (p + 1) p f ↔ fcF d j j q p p f ∨ f = ⟨3, (p : Int), 0⟩) := Lib.hid (fun f => by rw [HFR.out f]; simp [hm])
                  clear hm HHM
                  generalize hold d (p : Int) = iv at *
                  go_upto_region 25 with (at_builtin; refine wpList_append_oneG rfl _ _ _ rfl Try.underlying43 infoFt rfl rfl (n := vn) (xs := cellsF xs) (HF.out.row.row HXN.out) rfl rfl rfl (one_ft ⟨3, (p : Int), 0⟩) (by omega) ?_; intro v' w6 hR6 hb6 hg6; obtain ⟨A6, c6, rfl⟩ := own_sliceR hR6)
                  have HF2 := Lib.hid (HF.out.app (x := ⟨3, (p : Int), 0⟩) HXN.out hR6 hg6)
                  have HXN2 : Hid ((xs ++ [(⟨3, (p : Int), 0⟩ : Ft)]).length = vn + 1) := Lib.hid (by rw [List.length_append, HXN.out]; rfl)
                  have HM2 := Lib.hid (mem_app (g := ⟨3, (p : Int), 0⟩) HM.out HFR3.out)
                  generalize xs ++ [(⟨3, (p : Int), 0⟩ : Ft)] = ys at *
                  clear HF HXN HM hR6 hb6 hg6
                  have HF := HF2
                  have HXN := HXN2
                  have HM := HM2
                  clear HF2 HXN2 HM2
                  by_cases hx1 : x = -1
                  · subst hx1
                    have HM2 := Lib.hid (mem_same (q := fcF d j j q (p + 1) (p + 1)) HM.out (fun f => by rw [HAT.out f]; simp))
                    go_wp2_with fail
                    go_roundg (n3 - (p + 1))
                    case measure => rw [HGK.out]; omega
                    case rel => exact ⟨p+1, _, _, _, _, rfl, by omega, by go_num, rfl, by omega, HXN, HF, HM2⟩
                  · have hx2 : (x != -1) = true := by simp [hx1]
                    have hx3 : 0 ≤ x := by omega
                    have HAT3 : Hid (∀ f, fcF d j j q (p + 1) (p + 1) f ↔ fcF d j j q (p + 1) p f ∨ f = ⟨6, (p : Int), x⟩) := Lib.hid (fun f => by rw [HAT.out f]; simp [hx3])
                    clear hx1
                    go_upto_region 27 with (at_builtin; refine wpList_append_oneG rfl _ _ _ rfl Try.underlying43 infoFt rfl rfl (n := (vn + 1)) (xs := cellsF ys) (HF.out.row.row HXN.out) rfl rfl rfl (one_ft ⟨6, (p : Int), x⟩) (by omega) ?_; intro v' w6 hR6 hb6 hg6; obtain ⟨A6, c6, rfl⟩ := own_sliceR hR6)
                    have HF2 := Lib.hid (HF.out.app (x := ⟨6, (p : Int), x⟩) HXN.out hR6 hg6)
                    have HXN2 : Hid ((ys ++ [(⟨6, (p : Int), x⟩ : Ft)]).length = (vn + 1) + 1) := Lib.hid (by rw [List.length_append, HXN.out]; rfl)
                    have HM2 := Lib.hid (mem_app (g := ⟨6, (p : Int), x⟩) HM.out HAT3.out)
                    generalize ys ++ [(⟨6, (p : Int), x⟩ : Ft)] = zs at *
                    clear HF HXN HM hR6 hb6 hg6
                    have HF := HF2
                    have HXN := HXN2
                    have HM := HM2
                    clear HF2 HXN2 HM2
                    go_wp2_with fail
                    go_roundg (n3 - (p + 1))
                    case measure => rw [HGK.out]; omega
                    case rel => exact ⟨p+1, _, _, _, _, rfl, by omega, by go_num, rfl, by omega, HXN, HF, HM⟩
              · obtain rfl : p = n3 := by omega
                obtain ⟨B, cb, hv9, hl9, hm9, hI9⟩ := HF.out.row.facts
                have hfa : VA = B := by injection hv9
                subst hfa
                have HOF := Lib.hid ((of_any xs VA vn vc wr HXN.out.symm (by omega) hI9).mono fun e W h9 => fc_ok HW0.out HF.out.bel (fun f => by rw [HM.out f, ← HALL.out f]) h9)
                clear hv9 hl9 hm9 hI9
                go_wp2_with fail
                refine HOF.out.mono ?_
                intro e w9 h9
                obtain ⟨l9, A9, c9, rfl, h92⟩ := h9
                have HE9 := Lib.hid h92
                clear h92
                go_wp2_with fail
                go_ret
                exact ⟨l9, A9, c9, rfl, HE9.out⟩
  · have hne : (wErr d != 0) = true := by simp [hw0]
    have HBAD := Lib.hid (fun W hb => fc_bad (d := d) (w := w) (W := W) hw0 hb)
    clear hw0
    generalize wErr d = ce at *
    obtain ⟨A1, n1, c1, A2, n2, c2, A3, n3, c3⟩ := r
    clear h
    unfold wv wcs
    unfold wv wcs at HCK HIN HHO
    unfold wcs at HS0
    dsimp only at HCK HIN HHO HS0 ⊢
    generalize d.sl = sl at *
    go_enter Try.func48, Try.ntmps48
    go_upto_region 1 with (fail)
    generalize World.alloc w _ = w1 at *
    obtain ⟨k0, k1, k2, k3⟩ := HS0.out.four
    dsimp only at k0 k1 k2 k3
    go_wp2_with fail
    refine (HCK.out _ HS0.out.bel).mono ?_
    rintro e w2 ⟨rfl, hb2⟩
    have HF := Lib.hid (HS0.out.next hb2)
    clear hb2 HS0 k0 k1 k2 k3
    go_wp2_with fail
    go_ret
    exact HBAD.out _ HF.out.bel
end Go.Proofs.Ytnaiflokmihmeaa
