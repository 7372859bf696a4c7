/- Worlds of parts and arms, steps: as plain data, and what is read of them. -/
/- Walks: Held, Holds, In, Where, target (package act). -/
/- Walk: Check (package act). -/
import Derived.Test.YtnaiflokmihmeaaMgB
import Derived.OwnWalk
namespace Go.Proofs.Ytnaiflokmihmeaa
open Go.RowKit
set_option linter.unusedVariables false
set_option linter.unusedSimpArgs false

structure Wd where
  sl : Int
  pl : List Int
  se : List Bool
  sp : List Int
deriving DecidableEq
structure Stp where
  k : Int
  a : Int
  p : Int
  s : Int
  t : Int
deriving DecidableEq
def noWd : Wd := ⟨0, [], [], []⟩
/-- three slices -/
structure Raw where
  A1 : Option Addr
  n1 : Nat
  c1 : Nat
  A2 : Option Addr
  n2 : Nat
  c2 : Nat
  A3 : Option Addr
  n3 : Nat
  c3 : Nat
def wcs (sl : Int) (r : Raw) : Array Value := #[.int .i64 sl, .slice r.A1 r.n1 r.c1, .slice r.A2 r.n2 r.c2, .slice r.A3 r.n3 r.c3]
def wv (sl : Int) (r : Raw) : Value := .agg (wcs sl r)
def sv (s : Stp) : Value := .agg #[.int .i64 s.k, .int .i64 s.a, .int .i64 s.p, .int .i64 s.s, .int .i64 s.t]
abbrev noRaw : Raw := ⟨none, 0, 0, none, 0, 0, none, 0, 0⟩
/-- the slices read as the world d -/
structure WOk (w : World) (r : Raw) (d : Wd) : Prop where
  h1 : r.n1 = d.pl.length
  h2 : r.n2 = d.se.length
  h3 : r.n3 = d.sp.length
  l1 : r.n1 ≤ r.c1
  l2 : r.n2 ≤ r.c2
  l3 : r.n3 ≤ r.c3
  m1 : r.c1 ≤ 9223372036854775807
  m2 : r.c2 ≤ 9223372036854775807
  m3 : r.c3 ≤ 9223372036854775807
  i1 : IntsAt w w.heap.size r.A1 d.pl
  i2 : BoolsAt w w.heap.size r.A2 d.se
  i3 : IntsAt w w.heap.size r.A3 d.sp
theorem WOk.next {w w' : World} {r : Raw} {d : Wd} (h : WOk w r d) (hb : Below w.heap.size w w') : WOk w' r d := { h with i1 := h.i1.next hb, i2 := h.i2.next hb, i3 := h.i3.next hb }
theorem WOk.no (w : World) : WOk w noRaw noWd := ⟨rfl, rfl, rfl, Nat.le_refl _, Nat.le_refl _, Nat.le_refl _, by decide, by decide, by decide, IntsAt.nil, BoolsAt.nil, IntsAt.nil⟩

/-! ### what is told of a world -/
def pE (d : Wd) (i : Nat) : Option Int := match d.pl[i]? with
  | none => none
  | some p => if d.sl ≤ p ∨ p < -1 - (d.sp.length : Int) then some 1 else if p ≠ -1 ∧ p ∈ d.pl.take i then some 10 else none
def sE (d : Wd) (i : Nat) : Option Int := match d.sp[i]? with
  | none => none
  | some s => if s < -1 ∨ (d.sl ≤ s ∧ s < 8) ∨ 8 + (d.pl.length : Int) ≤ s then some 1 else if s ≠ -1 ∧ s ∈ d.sp.take i then some 10 else none
def wErr (d : Wd) : Int :=
  if d.sl < 0 ∨ 8 < d.sl ∨ 6 < d.pl.length ∨ 4 < d.sp.length then 2
  else if d.se.length ≠ d.pl.length then 3
  else match firstOf (pE d) d.pl.length with
    | some e => e
    | none => match firstOf (sE d) d.sp.length with
      | some e => e
      | none => 0
def nthI (xs : List Int) (k : Nat) : Int := (xs[k]?).getD 0
theorem nthI_get {xs : List Int} {k : Nat} {x : Int} (h : xs[k]? = some x) : nthI xs k = x := by simp [nthI, h]
def nthB (xs : List Bool) (k : Nat) : Bool := (xs[k]?).getD false
theorem nthB_get {xs : List Bool} {k : Nat} {x : Bool} (h : xs[k]? = some x) : nthB xs k = x := by simp [nthB, h]
def hold (d : Wd) (arm : Int) : Int := if arm < 0 ∨ (d.sp.length : Int) ≤ arm then -1 else ixI (fun y => (-2 - arm) == y) d.pl
def whr (d : Wd) (part : Int) : Int :=
  if part < 0 ∨ (d.pl.length : Int) ≤ part then -1 else
  if nthI d.pl part.toNat < -1 then -1 else if nthI d.pl part.toNat = -1 then 8 + part else nthI d.pl part.toNat
def inn (d : Wd) (slot : Int) : Int := if slot < 0 then -1 else ixI (fun y => slot == y) d.pl
def targ (d : Wd) (s : Stp) : Int := if 0 ≤ s.p then whr d s.p else s.s
def formB (s : Stp) : Bool :=
  decide (¬ (s.p < -1 ∨ s.s < -1 ∨ s.a < 0) ∧
    ((s.k = 0 ∧ (decide (0 ≤ s.p) ≠ decide (0 ≤ s.s)) ∧ s.t = 0) ∨ ((s.k = 1 ∨ s.k = 3) ∧ 0 ≤ s.p ∧ s.s < 0 ∧ s.t = 0) ∨ (s.k = 2 ∧ 0 ≤ s.s ∧ s.p < 0 ∧ s.t = 0) ∨ (s.k = 4 ∧ s.p < 0 ∧ s.s < 0 ∧ 1 ≤ s.t ∧ s.t ≤ 2000)))
def full (d : Wd) (s : Stp) : Bool := decide (0 ≤ hold d s.a)
def here (d : Wd) (s : Stp) : Bool := decide (targ d s ≠ -1 ∧ nthI d.sp s.a.toNat = targ d s)
def mayE (d : Wd) (s : Stp) : Int :=
  if s.k = 0 then (if 0 ≤ s.p ∧ full d s = true then 6 else if targ d s = -1 then 7 else if here d s = true then 5 else if targ d s ∈ d.sp then 10 else 0)
  else if s.k = 1 ∨ s.k = 3 then (if full d s = true then 6 else if here d s = false then 7 else if s.k = 1 ∧ nthB d.se s.p.toNat = false then 18 else if s.k = 3 ∧ nthB d.se s.p.toNat = true then 5 else 0)
  else if s.k = 2 then (if full d s = false ∨ here d s = false then 7 else if 0 ≤ inn d s.s then 5 else 0)
  else 0
def canE (d : Wd) (s : Stp) : Int :=
  if wErr d ≠ 0 then wErr d else if formB s = false then 3
  else if (d.sp.length : Int) ≤ s.a ∨ (d.pl.length : Int) ≤ s.p ∨ d.sl ≤ s.s then 4 else mayE d s
def stepN (d : Wd) (s : Stp) : Wd :=
  if s.k = 0 then { d with sp := d.sp.set s.a.toNat (targ d s) }
  else if s.k = 1 then { d with pl := d.pl.set s.p.toNat (-2 - s.a) }
  else if s.k = 3 then { d with se := d.se.set s.p.toNat true }
  else if s.k = 2 then { d with pl := d.pl.set (hold d s.a).toNat s.s, se := d.se.set (hold d s.a).toNat false }
  else d
def doN (d : Wd) (s : Stp) : Wd := if canE d s = 0 then stepN d s else noWd

/-! ### a world without fault -/
structure Vd (d : Wd) : Prop where
  sl0 : 0 ≤ d.sl
  sl8 : d.sl ≤ 8
  p6 : d.pl.length ≤ 6
  s4 : d.sp.length ≤ 4
  se : d.se.length = d.pl.length
  plo : ∀ (i : Nat) (p : Int), d.pl[i]? = some p → p < d.sl ∧ -1 - (d.sp.length : Int) ≤ p
  pun : ∀ (i j : Nat) (p : Int), d.pl[i]? = some p → d.pl[j]? = some p → p ≠ -1 → i = j
  slo : ∀ (i : Nat) (s : Int), d.sp[i]? = some s → -1 ≤ s ∧ (s < d.sl ∨ 8 ≤ s) ∧ s < 8 + (d.pl.length : Int)
  sun : ∀ (i j : Nat) (s : Int), d.sp[i]? = some s → d.sp[j]? = some s → s ≠ -1 → i = j
theorem firstOf_none_iff {f : Nat → Option Int} {n : Nat} (h : firstOf f n = none) : ∀ j < n, f j = none := by
  intro j hj
  unfold firstOf at h
  exact List.findSome?_eq_none_iff.1 h j (by simpa using hj)
theorem firstOf_ne {f : Nat → Option Int} {n : Nat} {e : Int} (h : firstOf f n = some e) : ∃ j < n, f j = some e := by
  unfold firstOf at h
  obtain ⟨j, hj, he⟩ := List.exists_of_findSome?_eq_some h
  exact ⟨j, by simpa using hj, he⟩
theorem pE_ne (d : Wd) (i : Nat) : pE d i ≠ some 0 := by
  unfold pE
  split
  · simp
  · split
    · simp
    · split <;> simp
theorem sE_ne (d : Wd) (i : Nat) : sE d i ≠ some 0 := by
  unfold sE
  split
  · simp
  · split
    · simp
    · split <;> simp
theorem vd_of {d : Wd} (h : wErr d = 0) : Vd d := by
  unfold wErr at h
  split at h
  · cases h
  · rename_i h1
    split at h
    · cases h
    · rename_i h2
      cases hp : firstOf (pE d) d.pl.length with
      | some e =>
        rw [hp] at h
        obtain ⟨j, _, hj⟩ := firstOf_ne hp
        simp at h; subst h
        exact absurd hj (pE_ne d j)
      | none =>
        cases hs : firstOf (sE d) d.sp.length with
        | some e =>
          rw [hp, hs] at h
          obtain ⟨j, _, hj⟩ := firstOf_ne hs
          simp at h; subst h
          exact absurd hj (sE_ne d j)
        | none =>
          have hpn := firstOf_none_iff hp
          have hsn := firstOf_none_iff hs
          have hlt : ∀ {xs : List Int} {i : Nat} {x : Int}, xs[i]? = some x → i < xs.length := fun h => (List.getElem?_eq_some_iff.1 h).1
          have htk : ∀ {xs : List Int} {i j : Nat} {x : Int}, xs[i]? = some x → i < j → x ∈ xs.take j := fun h hij => List.mem_iff_getElem?.2 ⟨_, by rw [List.getElem?_take, if_pos hij]; exact h⟩
          have key1 : ∀ (i : Nat) (p : Int), d.pl[i]? = some p → (p < d.sl ∧ -1 - (d.sp.length : Int) ≤ p) ∧ (p ≠ -1 → p ∉ d.pl.take i) := by
            intro i p hi
            have h3 := hpn i (hlt hi)
            unfold pE at h3
            rw [hi] at h3
            dsimp only at h3
            split at h3
            · cases h3
            · rename_i h4
              split at h3
              · cases h3
              · rename_i h5
                exact ⟨by omega, fun h6 h7 => h5 ⟨h6, h7⟩⟩
          have key2 : ∀ (i : Nat) (s : Int), d.sp[i]? = some s → (-1 ≤ s ∧ (s < d.sl ∨ 8 ≤ s) ∧ s < 8 + (d.pl.length : Int)) ∧ (s ≠ -1 → s ∉ d.sp.take i) := by
            intro i p hi
            have h3 := hsn i (hlt hi)
            unfold sE at h3
            rw [hi] at h3
            dsimp only at h3
            split at h3
            · cases h3
            · rename_i h4
              split at h3
              · cases h3
              · rename_i h5
                exact ⟨by omega, fun h6 h7 => h5 ⟨h6, h7⟩⟩
          refine ⟨by omega, by omega, by omega, by omega, by omega, fun i p hi => (key1 i p hi).1, ?_, fun i s hi => (key2 i s hi).1, ?_⟩
          · intro i j p hi hj hne
            rcases Nat.lt_trichotomy i j with h6 | h6 | h6
            · exact absurd (htk hi h6) ((key1 j p hj).2 hne)
            · exact h6
            · exact absurd (htk hj h6) ((key1 i p hi).2 hne)
          · intro i j p hi hj hne
            rcases Nat.lt_trichotomy i j with h6 | h6 | h6
            · exact absurd (htk hi h6) ((key2 j p hj).2 hne)
            · exact h6
            · exact absurd (htk hj h6) ((key2 i p hi).2 hne)
end Go.Proofs.Ytnaiflokmihmeaa

namespace Go.Proofs.Ytnaiflokmihmeaa
open Go.RowKit
set_option linter.unusedVariables false
set_option linter.unusedSimpArgs false

theorem wboxed (w : World) (sl : Int) (r : Raw) : Below w.heap.size w (w.alloc (.cells (wcs sl r) 25)) ∧ Blk (w.alloc (.cells (wcs sl r) 25)) w.heap.size 25 (wcs sl r) ∧ (w.alloc (.cells (wcs sl r) 25)).heap.size = w.heap.size + 1 :=
  ⟨(Below.refl _ _).alloc (Nat.le_refl _) _, Blk.new _ _ _, by simp⟩
theorem wcells {w : World} {p : Nat} {t : TypeId} {sl : Int} {r : Raw} (h : Blk w p t (wcs sl r)) : w.cell? ⟨p, 0, none⟩ = some (.int .i64 sl) ∧ w.cell? ⟨p, 1, none⟩ = some (.slice r.A1 r.n1 r.c1) ∧ w.cell? ⟨p, 2, none⟩ = some (.slice r.A2 r.n2 r.c2) ∧ w.cell? ⟨p, 3, none⟩ = some (.slice r.A3 r.n3 r.c3) :=
  ⟨h.cell 0, h.cell 1, h.cell 2, h.cell 3⟩
theorem held_any (a : Int) (w : World) (h0 : -1 ≤ a) (h1 : a ≤ 9223372036854775806) : Calls Try.prog 63 #[.int .i64 a] w fun e w' => e = .returned (.int .i64 (-2 - a)) ∧ w' = w := by
  go_enter Try.func63, Try.ntmps63
  go_wp2_with fail
  go_ret
  exact ⟨ret_int (by first | rfl | omega), rfl⟩
theorem hold_no {d : Wd} {a : Int} (h : a < 0 ∨ (d.sp.length : Int) ≤ a) : hold d a = -1 := by unfold hold; rw [if_pos h]
theorem hold_in {d : Wd} {a : Int} (h0 : 0 ≤ a) (h1 : a < (d.sp.length : Int)) : hold d a = ixI (fun y => (-2 - a) == y) d.pl := by unfold hold; rw [if_neg (by omega)]

set_option maxHeartbeats 1000000 in
theorem holds_any (d : Wd) (r : Raw) (a : Int) (w : World) (h : WOk w r d) : Calls Try.prog 50 #[wv d.sl r, .int .i64 a] w fun e w' => e = .returned (.int .i64 (hold d a)) ∧ Below w.heap.size w w' := by
  have HI := Lib.hid (fun x W (hb : Below w.heap.size w W) => ixI_walk d.pl r.A1 r.n1 r.c1 x W h.h1 (Nat.le_trans h.l1 h.m1) (h.i1.next hb))
  have HB := Lib.hid (wboxed w d.sl r)
  have H3 := Lib.hid h.h3
  have b3 := Nat.le_trans h.l3 h.m3
  clear h
  obtain ⟨A1, n1, c1, A2, n2, c2, A3, n3, c3⟩ := r
  by_cases h0 : a < 0
  · have HV := Lib.hid (hold_no (d := d) (a := a) (.inl h0))
    unfold wv wcs
    unfold wcs at HB
    dsimp only at HB HI H3 b3 ⊢
    generalize d.sl = sl at *
    go_enter Try.func50, Try.ntmps50
    go_wp2_with fail
    go_ret
    exact ⟨ret_int HV.out.symm, HB.out.1⟩
  · by_cases h1 : (n3 : Int) ≤ a
    · have HV := Lib.hid (hold_no (d := d) (a := a) (.inr (by rw [← H3.out]; exact h1)))
      unfold wv wcs
      unfold wcs at HB
      dsimp only at HB HI H3 b3 ⊢
      generalize d.sl = sl at *
      go_enter Try.func50, Try.ntmps50
      go_wp2_with fail
      go_ret
      exact ⟨ret_int HV.out.symm, HB.out.1⟩
    · have h0' : 0 ≤ a := by omega
      have h1' : a < (n3 : Int) := by omega
      have HV := Lib.hid (hold_in (d := d) h0' (by rw [← H3.out]; exact h1'))
      clear h0 h1
      have HC := Lib.hid (wcells HB.out.2.1)
      unfold wv wcs
      unfold wcs at HB
      dsimp only at HB HI H3 b3 HC ⊢
      generalize d.sl = sl at *
      have hw := i64_w (-2 - a) (by omega) (by omega)
      go_enter Try.func50, Try.ntmps50
      go_wp2_with fail
      unfold wcs at HC
      generalize World.alloc w _ = w1 at *
      obtain ⟨k0, k1, k2, k3⟩ := HC.out
      go_quiet ((first
        | (go_at_call 63; exact Calls.quiet_of_same (held_any _ _ (by omega) (by omega)))
        | (go_at_call 83; exact Calls.quiet_of_same (HI.out _ _ (below_drewN HB.out.1 _)))))
      go_wp2_with fail
      go_ret
      exact ⟨ret_int HV.out.symm, below_drewN HB.out.1 _⟩

theorem inn_lt {d : Wd} {x : Int} (h : x < 0) : inn d x = -1 := by unfold inn; rw [if_pos h]
theorem inn_ge {d : Wd} {x : Int} (h : 0 ≤ x) : inn d x = ixI (fun y => x == y) d.pl := by unfold inn; rw [if_neg (by omega)]
set_option maxHeartbeats 1000000 in
theorem inn_any (d : Wd) (r : Raw) (x : Int) (w : World) (h : WOk w r d) : Calls Try.prog 51 #[wv d.sl r, .int .i64 x] w fun e w' => e = .returned (.int .i64 (inn d x)) ∧ Below w.heap.size w w' := by
  have HI := Lib.hid (fun W (hb : Below w.heap.size w W) => ixI_walk d.pl r.A1 r.n1 r.c1 x W h.h1 (Nat.le_trans h.l1 h.m1) (h.i1.next hb))
  have HB := Lib.hid (wboxed w d.sl r)
  clear h
  obtain ⟨A1, n1, c1, A2, n2, c2, A3, n3, c3⟩ := r
  by_cases h0 : x < 0
  · have HV := Lib.hid (inn_lt (d := d) h0)
    unfold wv wcs
    unfold wcs at HB
    dsimp only at HB HI ⊢
    generalize d.sl = sl at *
    go_enter Try.func51, Try.ntmps51
    go_wp2_with fail
    go_ret
    exact ⟨ret_int HV.out.symm, HB.out.1⟩
  · have h0' : 0 ≤ x := by omega
    have HV := Lib.hid (inn_ge (d := d) h0')
    clear h0
    unfold wv wcs
    unfold wcs at HB
    dsimp only at HB HI ⊢
    generalize d.sl = sl at *
    go_enter Try.func51, Try.ntmps51
    go_wp2_with fail
    refine (HI.out _ HB.out.1).mono ?_
    rintro e w' ⟨rfl, rfl⟩
    go_wp2_with fail
    go_ret
    exact ⟨ret_int HV.out.symm, HB.out.1⟩
theorem whr_no {d : Wd} {a : Int} (h : a < 0 ∨ (d.pl.length : Int) ≤ a) : whr d a = -1 := by unfold whr; rw [if_pos h]
theorem whr_at {d : Wd} {k : Nat} {x : Int} (h : d.pl[k]? = some x) : whr d (k : Int) = if x < -1 then -1 else if x = -1 then 8 + (k : Int) else x := by
  have hlt := (List.getElem?_eq_some_iff.1 h).1
  unfold whr
  rw [if_neg (by omega), Int.toNat_natCast, nthI_get h]
set_option maxHeartbeats 1000000 in
theorem whr_any (d : Wd) (r : Raw) (a : Int) (w : World) (h : WOk w r d) (hs : r.n1 ≤ 1000000) : Calls Try.prog 52 #[wv d.sl r, .int .i64 a] w fun e w' => e = .returned (.int .i64 (whr d a)) ∧ Below w.heap.size w w' := by
  have HB := Lib.hid (wboxed w d.sl r)
  have HI := Lib.hid h.i1
  have H1 := Lib.hid h.h1
  clear h
  obtain ⟨A1, n1, c1, A2, n2, c2, A3, n3, c3⟩ := r
  dsimp only at hs
  by_cases h0 : a < 0
  · have HV := Lib.hid (whr_no (d := d) (a := a) (.inl h0))
    unfold wv wcs
    unfold wcs at HB
    dsimp only at HB HI H1 ⊢
    generalize d.sl = sl at *
    go_enter Try.func52, Try.ntmps52
    go_wp2_with fail
    go_ret
    exact ⟨ret_int HV.out.symm, HB.out.1⟩
  · by_cases h1 : (n1 : Int) ≤ a
    · have HV := Lib.hid (whr_no (d := d) (a := a) (.inr (by rw [← H1.out]; exact h1)))
      unfold wv wcs
      unfold wcs at HB
      dsimp only at HB HI H1 ⊢
      generalize d.sl = sl at *
      go_enter Try.func52, Try.ntmps52
      go_wp2_with fail
      go_ret
      exact ⟨ret_int HV.out.symm, HB.out.1⟩
    · obtain ⟨k, rfl⟩ := Int.eq_ofNat_of_zero_le (show 0 ≤ a by omega)
      have hk : k < n1 := by omega
      clear h0 h1
      obtain ⟨x, hx⟩ := get_of_lt H1.out hk
      have HV := Lib.hid (whr_at hx)
      obtain ⟨b, off, hA, hb, hc⟩ := HI.out k x hx
      dsimp only at hA
      subst hA
      clear hx
      have i1 : (0 : Int) ≤ (k : Int) := by omega
      have i2 : (k : Int) < (n1 : Int) := by omega
      unfold wv wcs
      unfold wcs at HB
      dsimp only at HB HI H1 ⊢
      generalize d.sl = sl at *
      by_cases hx1 : x < -1
      · rw [if_pos hx1] at HV
        have hx2 : (x == -1) = false := by simp; omega
        go_enter Try.func52, Try.ntmps52
        go_wp2_with fail
        go_ret
        exact ⟨ret_int HV.out.symm, HB.out.1⟩
      · by_cases hx2 : x = -1
        · subst hx2
          rw [if_neg hx1, if_pos rfl] at HV
          go_enter Try.func52, Try.ntmps52
          go_wp2_with fail
          go_ret
          exact ⟨ret_int HV.out.symm, HB.out.1⟩
        · have hx3 : -1 ≤ x := by omega
          have hx4 : (x == -1) = false := by simp [hx2]
          rw [if_neg hx1, if_neg hx2] at HV
          clear hx1 hx2
          go_enter Try.func52, Try.ntmps52
          go_wp2_with fail
          go_ret
          exact ⟨ret_int HV.out.symm, HB.out.1⟩

theorem wboxed2 (w : World) (sl : Int) (r : Raw) (s : Stp) : Below w.heap.size w ((w.alloc (.cells (wcs sl r) 25)).alloc (.cells #[.int .i64 s.k, .int .i64 s.a, .int .i64 s.p, .int .i64 s.s, .int .i64 s.t] 39)) ∧
    Blk ((w.alloc (.cells (wcs sl r) 25)).alloc (.cells #[.int .i64 s.k, .int .i64 s.a, .int .i64 s.p, .int .i64 s.s, .int .i64 s.t] 39)) w.heap.size 25 (wcs sl r) ∧
    Blk ((w.alloc (.cells (wcs sl r) 25)).alloc (.cells #[.int .i64 s.k, .int .i64 s.a, .int .i64 s.p, .int .i64 s.s, .int .i64 s.t] 39)) (w.heap.size + 1) 39 #[.int .i64 s.k, .int .i64 s.a, .int .i64 s.p, .int .i64 s.s, .int .i64 s.t] :=
  ⟨((Below.refl _ _).alloc (Nat.le_refl _) _).alloc (by simp) _, (Blk.new _ _ _).alloc _, Blk.at_ (by simp)⟩
theorem targ_p {d : Wd} {s : Stp} (h : 0 ≤ s.p) : targ d s = whr d s.p := by unfold targ; rw [if_pos h]
theorem targ_s {d : Wd} {s : Stp} (h : s.p < 0) : targ d s = s.s := by unfold targ; rw [if_neg (by omega)]
set_option maxHeartbeats 1000000 in
theorem targ_any (d : Wd) (r : Raw) (s : Stp) (w : World) (h : WOk w r d) (hs : r.n1 ≤ 1000000) : Calls Try.prog 84 #[wv d.sl r, sv s] w fun e w' => e = .returned (.int .i64 (targ d s)) ∧ Below w.heap.size w w' := by
  have HI := Lib.hid (fun W (hb : Below w.heap.size w W) => whr_any d r s.p W (h.next hb) hs)
  have HB := Lib.hid (wboxed2 w d.sl r s).1
  clear h
  obtain ⟨A1, n1, c1, A2, n2, c2, A3, n3, c3⟩ := r
  by_cases h0 : 0 ≤ s.p
  · have HV := Lib.hid (targ_p (d := d) h0)
    obtain ⟨k, a, p, s0, t⟩ := s
    unfold wv wcs sv
    unfold wv wcs at HI
    unfold wcs at HB
    dsimp only at HB HI h0 HV ⊢
    generalize d.sl = sl at *
    go_enter Try.func84, Try.ntmps84
    go_wp2_with fail
    refine (HI.out _ HB.out).mono ?_
    rintro e w' ⟨rfl, hb⟩
    have HB2 := Lib.hid (HB.out.trans (hb.mono HB.out.size)); clear hb
    go_wp2_with fail
    go_ret
    exact ⟨ret_int HV.out.symm, HB2.out⟩
  · have h0' : s.p < 0 := by omega
    have HV := Lib.hid (targ_s (d := d) h0')
    clear h0
    obtain ⟨k, a, p, s0, t⟩ := s
    unfold wv wcs sv
    unfold wcs at HB
    dsimp only at HB h0' HV ⊢
    generalize d.sl = sl at *
    go_enter Try.func84, Try.ntmps84
    go_wp2_with fail
    go_ret
    exact ⟨ret_int HV.out.symm, HB.out⟩
end Go.Proofs.Ytnaiflokmihmeaa

namespace Go.Proofs.Ytnaiflokmihmeaa
open Go.RowKit
set_option linter.unusedVariables false
set_option linter.unusedSimpArgs false

def Bad (d : Wd) : Prop := d.sl < 0 ∨ 8 < d.sl ∨ 6 < d.pl.length ∨ 4 < d.sp.length
theorem wErr_2 {d : Wd} (h : Bad d) : wErr d = 2 := by unfold wErr; unfold Bad at h; rw [if_pos h]
theorem wErr_3 {d : Wd} (h : ¬ Bad d) (h2 : d.se.length ≠ d.pl.length) : wErr d = 3 := by unfold wErr; unfold Bad at h; rw [if_neg h, if_pos h2]
theorem wErr_p {d : Wd} (h : ¬ Bad d) (h2 : d.se.length = d.pl.length) {k : Nat} {e : Int} (hk : k < d.pl.length) (ha : ∀ j < k, pE d j = none) (he : pE d k = some e) : wErr d = e := by
  unfold wErr; unfold Bad at h; rw [if_neg h, if_neg (by omega), firstOf_some _ _ k hk ha he]
theorem wErr_s {d : Wd} (h : ¬ Bad d) (h2 : d.se.length = d.pl.length) (hp : ∀ j < d.pl.length, pE d j = none) {k : Nat} {e : Int} (hk : k < d.sp.length) (ha : ∀ j < k, sE d j = none) (he : sE d k = some e) : wErr d = e := by
  unfold wErr; unfold Bad at h; rw [if_neg h, if_neg (by omega), firstOf_none _ _ hp, firstOf_some _ _ k hk ha he]
theorem wErr_0 {d : Wd} (h : ¬ Bad d) (h2 : d.se.length = d.pl.length) (hp : ∀ j < d.pl.length, pE d j = none) (hs : ∀ j < d.sp.length, sE d j = none) : wErr d = 0 := by
  unfold wErr; unfold Bad at h; rw [if_neg h, if_neg (by omega), firstOf_none _ _ hp, firstOf_none _ _ hs]
theorem pE_at {d : Wd} {k : Nat} {p : Int} (h : d.pl[k]? = some p) : pE d k = if d.sl ≤ p ∨ p < -1 - (d.sp.length : Int) then some 1 else if p ≠ -1 ∧ p ∈ d.pl.take k then some 10 else none := by unfold pE; rw [h]
theorem sE_at {d : Wd} {k : Nat} {s : Int} (h : d.sp[k]? = some s) : sE d k = if s < -1 ∨ (d.sl ≤ s ∧ s < 8) ∨ 8 + (d.pl.length : Int) ≤ s then some 1 else if s ≠ -1 ∧ s ∈ d.sp.take k then some 10 else none := by unfold sE; rw [h]
theorem IntsAt.take {w : World} {B : Nat} {A : Option Addr} {xs : List Int} (h : IntsAt w B A xs) (j : Nat) : IntsAt w B A (xs.take j) := by
  intro k x hx
  rw [List.getElem?_take] at hx
  split at hx
  · exact h k x hx
  · cases hx

set_option maxHeartbeats 4000000 in
set_option maxRecDepth 20000 in
theorem acheck_any (d : Wd) (r : Raw) (w : World) (h : WOk w r d) : Calls Try.prog 45 #[wv d.sl r] w fun e w' => e = .returned (.int .i64 (wErr d)) ∧ Below w.heap.size w w' := by
  have HB := Lib.hid (wboxed w d.sl r)
  have H1 := Lib.hid h.h1
  have H2 := Lib.hid h.h2
  have H3 := Lib.hid h.h3
  have I1 := Lib.hid h.i1
  have I3 := Lib.hid h.i3
  have m1 := Nat.le_trans h.l1 h.m1
  have m2 := Nat.le_trans h.l2 h.m2
  have m3 := Nat.le_trans h.l3 h.m3
  have l1 := h.l1
  have l3 := h.l3
  clear h
  obtain ⟨A1, n1, c1, A2, n2, c2, A3, n3, c3⟩ := r
  dsimp only at m1 m2 m3 l1 l3
  by_cases hbad : d.sl < 0 ∨ (0 ≤ d.sl ∧ 8 < d.sl) ∨ (0 ≤ d.sl ∧ d.sl ≤ 8 ∧ 6 < (n1 : Int)) ∨ (0 ≤ d.sl ∧ d.sl ≤ 8 ∧ (n1 : Int) ≤ 6 ∧ 4 < (n3 : Int))
  · have HV := Lib.hid (wErr_2 (d := d) (by
      unfold Bad
      have e1 := H1.out
      have e3 := H3.out
      dsimp only at e1 e3
      rw [← e1, ← e3]; omega))
    unfold wv wcs
    unfold wcs at HB
    dsimp only at HB H1 H2 H3 I1 I3 ⊢
    generalize d.sl = sl at *
    rcases hbad with h | ⟨h, h'⟩ | ⟨h, h', h''⟩ | ⟨h, h', h'', h'''⟩
    all_goals
      go_enter Try.func45, Try.ntmps45
      go_wp2_with fail
      go_ret
      exact ⟨ret_int HV.out.symm, HB.out.1⟩
  · have hs0 : 0 ≤ d.sl := by omega
    have hs8 : d.sl ≤ 8 := by omega
    have hn1 : (n1 : Int) ≤ 6 := by omega
    have hn3 : (n3 : Int) ≤ 4 := by omega
    have HNB : Hid (¬ Bad d) := Lib.hid (by
      unfold Bad
      have e1 := H1.out
      have e3 := H3.out
      dsimp only at e1 e3
      rw [← e1, ← e3]; omega)
    clear hbad
    by_cases h2 : n2 = n1
    · subst h2
      have HSE : Hid (d.se.length = d.pl.length) := Lib.hid (by have e1 := H1.out; have e2 := H2.out; dsimp only at e1 e2; omega)
      have hne : ((n2 : Int) != (n2 : Int)) = false := by simp
      have HDS : Hid (∃ s, s = d.sl) := Lib.hid ⟨_, rfl⟩
      unfold wv wcs
      unfold wcs at HB
      dsimp only at HB H1 H2 H3 I1 I3 ⊢
      obtain ⟨sl, hsl⟩ := HDS.out
      have HSL := Lib.hid hsl
      rw [← hsl] at HB hs0 hs8 ⊢
      clear hsl HDS
      have HC := Lib.hid (fun j x (hj : j ≤ n2) {r : Bool} (hr : decide (x ∈ d.pl.take j) = r) W (hb : Below w.heap.size w W) => hasI_any (d.pl.take j) A1 j c1 x W (by rw [List.length_take, ← H1.out]; omega) (by omega) ((I1.out.take j).next hb) hr)
      have HC3 := Lib.hid (fun j x (hj : j ≤ n3) {r : Bool} (hr : decide (x ∈ d.sp.take j) = r) W (hb : Below w.heap.size w W) => hasI_any (d.sp.take j) A3 j c3 x W (by rw [List.length_take, ← H3.out]; omega) (by omega) ((I3.out.take j).next hb) hr)
      have hw0 := i64_w ((n3 : Int) - 1) (by omega) (by omega)
      have hw1 := i64_w (8 + (n2 : Int)) (by omega) (by omega)
      go_enter Try.func45, Try.ntmps45
      go_wp2_with fail
      generalize World.alloc w _ = w1 at *
      have hcl := HB.out.2.1
      have k0 := hcl.cell 0
      have k1 := hcl.cell 1
      have k3 := hcl.cell 3
      simp at k0 k1 k3
      have HBE := Lib.hid HB.out.1
      clear hcl HB
      go_loop [37] (fun i => ∃ j : Nat, j ≤ n2 ∧ i = .int .i64 j ∧ Hid (∀ i < j, pE d i = none)) (fun i => n2 - (intOf i).toNat)
      case atStart => exact ⟨0, Nat.zero_le _, rfl, Lib.hid (fun i hi => by omega)⟩
      case round =>
        obtain ⟨j, hj, rfl, hall⟩ := hrel
        by_cases hlt : j < n2
        · obtain ⟨x, hx⟩ := get_of_lt H1.out hlt
          obtain ⟨b, off, rfl, hb, hc0⟩ := I1.out j x hx
          have hc := (HBE.out.cell (p := ⟨b, off + j, none⟩) hb).trans hc0
          have HP := Lib.hid (pE_at hx)
          have HE := Lib.hid (fun e he => wErr_p HNB.out HSE.out (by rw [← H1.out]; exact hlt) hall.out (k := j) (e := e) he)
          rw [← HSL.out, ← H3.out] at HP
          clear hx hc0
          by_cases ha : sl ≤ x
          · have HV := Lib.hid (HE.out 1 (by rw [HP.out, if_pos (.inl ha)]))
            go_wp2_with fail
            go_ret
            exact ⟨ret_int HV.out.symm, HBE.out⟩
          · have ha' : x < sl := by omega
            by_cases hb2 : x < -1 - (n3 : Int)
            · have HV := Lib.hid (HE.out 1 (by rw [HP.out, if_pos (.inr hb2)]))
              have hb3 : x < -2 - ((n3 : Int) - 1) := by omega
              clear ha
              go_wp2_with (go_at_call 63; refine (held_any _ _ (by omega) (by omega)).mono ?_; rintro e w' ⟨rfl, rfl⟩)
              go_ret
              exact ⟨ret_int HV.out.symm, HBE.out⟩
            · have hb3 : -2 - ((n3 : Int) - 1) ≤ x := by omega
              rw [if_neg (by omega)] at HP
              clear ha hb2
              by_cases h1 : x = -1
              · subst h1
                have HN1 : Hid (pE d j = none) := Lib.hid (by rw [HP.out, if_neg (by simp)])
                go_wp2_with (go_at_call 63; refine (held_any _ _ (by omega) (by omega)).mono ?_; rintro e w' ⟨rfl, rfl⟩)
                go_round
                case rel => exact ⟨j+1, by omega, by go_num, Lib.hid (forall_lt_succ hall.out HN1.out)⟩
                case measure => simp [intOf]; omega
              · have hx1 : (x != -1) = true := by simp [h1]
                cases hmem : decide (x ∈ d.pl.take j) with
                | true =>
                  have HV := Lib.hid (HE.out 10 (by rw [HP.out, if_pos ⟨h1, by simpa using hmem⟩]))
                  have HCC := Lib.hid (HC.out j x (by omega) hmem)
                  clear h1 hmem
                  go_wp2_with (first
                    | (go_at_call 63; refine (held_any _ _ (by omega) (by omega)).mono ?_; rintro e w' ⟨rfl, rfl⟩)
                    | (go_at_call 78; refine (HCC.out _ HBE.out).mono ?_; rintro e w' ⟨rfl, rfl⟩))
                  go_ret
                  exact ⟨ret_int HV.out.symm, HBE.out⟩
                | false =>
                  have HN1 : Hid (pE d j = none) := Lib.hid (by rw [HP.out, if_neg (by intro h2; have := h2.2; simp at hmem; exact hmem this)])
                  have HCC := Lib.hid (HC.out j x (by omega) hmem)
                  clear h1 hmem
                  go_wp2_with (first
                    | (go_at_call 63; refine (held_any _ _ (by omega) (by omega)).mono ?_; rintro e w' ⟨rfl, rfl⟩)
                    | (go_at_call 78; refine (HCC.out _ HBE.out).mono ?_; rintro e w' ⟨rfl, rfl⟩))
                  go_round
                  case rel => exact ⟨j+1, by omega, by go_num, Lib.hid (forall_lt_succ hall.out HN1.out)⟩
                  case measure => simp [intOf]; omega
        · obtain rfl : j = n2 := by omega
          have HPN : Hid (∀ i < d.pl.length, pE d i = none) := Lib.hid (by rw [← H1.out]; exact hall.out)
          clear hall
          go_wp2_with fail
          go_loop [69] (fun i => ∃ q : Nat, q ≤ n3 ∧ i = .int .i64 q ∧ Hid (∀ i < q, sE d i = none)) (fun i => n3 - (intOf i).toNat)
          case atStart => exact ⟨0, Nat.zero_le _, rfl, Lib.hid (fun i hi => by omega)⟩
          case round =>
            obtain ⟨q, hq, rfl, hall⟩ := hrel
            by_cases hlt3 : q < n3
            · obtain ⟨x, hx⟩ := get_of_lt H3.out hlt3
              obtain ⟨b, off, rfl, hb, hc0⟩ := I3.out q x hx
              have hc := (HBE.out.cell (p := ⟨b, off + q, none⟩) hb).trans hc0
              have HP := Lib.hid (sE_at hx)
              have HE := Lib.hid (fun e he => wErr_s HNB.out HSE.out HPN.out (by rw [← H3.out]; exact hlt3) hall.out (k := q) (e := e) he)
              rw [← HSL.out, ← H1.out] at HP
              clear hx hc0
              by_cases ha : x < -1 ∨ (sl ≤ x ∧ x < 8) ∨ 8 + (j : Int) ≤ x
              · have HV := Lib.hid (HE.out 1 (by rw [HP.out, if_pos ha]))
                have ha' : x < -1 ∨ (-1 ≤ x ∧ sl ≤ x ∧ x < 8) ∨ (-1 ≤ x ∧ sl ≤ x ∧ 8 ≤ x ∧ 8 + (j : Int) ≤ x) := by omega
                clear ha
                rcases ha' with g1 | ⟨g1, g2, g3⟩ | ⟨g1, g2, g3, g4⟩
                all_goals
                  go_wp2_with fail
                  go_ret
                  exact ⟨ret_int HV.out.symm, HBE.out⟩
              · rw [if_neg ha] at HP
                have ha' : (-1 ≤ x ∧ x < sl ∧ x < 8 + (j : Int)) ∨ (-1 ≤ x ∧ sl ≤ x ∧ 8 ≤ x ∧ x < 8 + (j : Int)) := by omega
                clear ha
                by_cases h1 : x = -1
                · subst h1
                  have HN1 : Hid (sE d q = none) := Lib.hid (by rw [HP.out, if_neg (by simp)])
                  rcases ha' with ⟨g1, g2, g3⟩ | ⟨g1, g2, g3, g4⟩
                  · go_wp2_with fail
                    go_round
                    case rel => exact ⟨q+1, by omega, by go_num, Lib.hid (forall_lt_succ hall.out HN1.out)⟩
                    case measure => simp [intOf]; omega
                  · exfalso; omega
                · have hx1 : (x != -1) = true := by simp [h1]
                  cases hmem : decide (x ∈ d.sp.take q) with
                  | true =>
                    have HV := Lib.hid (HE.out 10 (by rw [HP.out, if_pos ⟨h1, by simpa using hmem⟩]))
                    have HCC := Lib.hid (HC3.out q x (by omega) hmem)
                    clear h1 hmem
                    rcases ha' with ⟨g1, g2, g3⟩ | ⟨g1, g2, g3, g4⟩
                    all_goals
                      go_wp2_with (go_at_call 78; refine (HCC.out _ HBE.out).mono ?_; rintro e w' ⟨rfl, rfl⟩)
                      go_ret
                      exact ⟨ret_int HV.out.symm, HBE.out⟩
                  | false =>
                    have HN1 : Hid (sE d q = none) := Lib.hid (by rw [HP.out, if_neg (by intro h2; have := h2.2; simp at hmem; exact hmem this)])
                    have HCC := Lib.hid (HC3.out q x (by omega) hmem)
                    clear h1 hmem
                    rcases ha' with ⟨g1, g2, g3⟩ | ⟨g1, g2, g3, g4⟩
                    all_goals
                      go_wp2_with (go_at_call 78; refine (HCC.out _ HBE.out).mono ?_; rintro e w' ⟨rfl, rfl⟩)
                      go_round
                      case rel => exact ⟨q+1, by omega, by go_num, Lib.hid (forall_lt_succ hall.out HN1.out)⟩
                      case measure => simp [intOf]; omega
            · obtain rfl : q = n3 := by omega
              have HV := Lib.hid (wErr_0 HNB.out HSE.out HPN.out (by rw [← H3.out]; exact hall.out))
              go_wp2_with fail
              go_ret
              exact ⟨ret_int HV.out.symm, HBE.out⟩
    · have HV := Lib.hid (wErr_3 HNB.out (by have e1 := H1.out; have e2 := H2.out; dsimp only at e1 e2; omega))
      have hne : ((n2 : Int) != (n1 : Int)) = true := by simp; omega
      unfold wv wcs
      unfold wcs at HB
      dsimp only at HB H1 H2 H3 I1 I3 ⊢
      generalize d.sl = sl at *
      clear h2
      go_enter Try.func45, Try.ntmps45
      go_wp2_with fail
      go_ret
      exact ⟨ret_int HV.out.symm, HB.out.1⟩
end Go.Proofs.Ytnaiflokmihmeaa

