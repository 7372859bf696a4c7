/- Cells: the closures of Meet, Minus, Within; slices.IndexFunc with them (printed by gridp.py). -/
import Derived.Test.YtoejojfjiikogaaDoorGrH

namespace Go.Proofs.YtoejojfjiikogaaDoor
open Go.RowKit
set_option linter.unusedVariables false
set_option linter.unusedSimpArgs false


/-- the variable at block p holds the ascending list lb -/
def VarB (p : Nat) (lb : List Ft) (w : World) : Prop := ∃ A cap, Blk w p 56 #[.slice A lb.length cap] ∧ FactsAt w w.heap.size A lb
theorem VarB.next {p : Nat} {lb : List Ft} {w w' : World} (h : VarB p lb w) (hb : Below w.heap.size w w') : VarB p lb w' := by
  obtain ⟨A, cap, h1, h2⟩ := h
  exact ⟨A, cap, h1.belowB hb, h2.next hb⟩
def inB (lb : List Ft) (c : Ft) : Bool := decide (c ∈ lb)
def noB (lb : List Ft) (c : Ft) : Bool := !decide (c ∈ lb)
theorem first_bad {bad : Ft → Bool} {xs : List Ft} {j : Nat} {s : Ft} (hg : ∀ i, i < j → ∀ x, xs[i]? = some x → bad x = false) (hx : xs[j]? = some s) (hb : bad s = true) : xs.findIdx? bad = some j := by
  have hl := (List.getElem?_eq_some_iff.1 hx).1
  rw [List.findIdx?_eq_some_iff_getElem]
  refine ⟨hl, by rw [(List.getElem?_eq_some_iff.1 hx).2]; exact hb, fun i hi => ?_⟩
  have := hg i hi _ (List.getElem?_eq_getElem (by omega))
  simp [this]
theorem no_bad {bad : Ft → Bool} {xs : List Ft} (hg : ∀ i, i < xs.length → ∀ x, xs[i]? = some x → bad x = false) : xs.findIdx? bad = none := by
  rw [List.findIdx?_eq_none_iff]
  intro x hx
  obtain ⟨i, hi⟩ := List.mem_iff_getElem?.1 hx
  exact hg i (List.getElem?_eq_some_iff.1 hi).1 x hi
def ixS (bad : Ft → Bool) (xs : List Ft) : Int := match xs.findIdx? bad with
  | some i => (i : Int)
  | none => -1
theorem ixS_some {bad : Ft → Bool} {xs : List Ft} {j : Nat} (h : xs.findIdx? bad = some j) : ixS bad xs = j := by unfold ixS; rw [h]
theorem ixS_none {bad : Ft → Bool} {xs : List Ft} (h : xs.findIdx? bad = none) : ixS bad xs = -1 := by unfold ixS; rw [h]
set_option maxHeartbeats 2000000 in
set_option maxRecDepth 20000 in
theorem gmeetc_any (lb : List Ft) (hl : Asc lb) (hs : lb.length ≤ 1000000) (c : Ft) (p : Nat) (w : World) (h : VarB p lb w) :
    Calls Tryd.prog 57 #[valF c, .pointer (some ⟨p, 0, none⟩)] w fun e w' => e = .returned (.bool (noB lb c)) ∧ Below w.heap.size w w' := by
  obtain ⟨A, cap, h1, h2⟩ := h
  have HH := Lib.hid (fun W (hb : Below w.heap.size w W) => has_any lb hl c A lb.length cap W rfl hs (h2.next hb))
  obtain ⟨cx, cy⟩ := c
  unfold valF at HH
  unfold valF
  dsimp only at HH ⊢
  have hbx : Below w.heap.size w (w.alloc (.cells #[.int .i64 cx, .int .i64 cy] 60)) := (Below.refl _ _).alloc (Nat.le_refl _) _
  have HB := Lib.hid hbx
  have HV := Lib.hid (h1.belowB hbx)
  have HX := Lib.hid (Blk.new w 60 #[.int .i64 cx, .int .i64 cy])
  clear hbx h1 h2
  have HE : Hid (noB lb ⟨cx, cy⟩ = (!decide ((⟨cx, cy⟩ : Ft) ∈ lb))) := Lib.hid rfl
  rw [HE.out]
  generalize decide ((⟨cx, cy⟩ : Ft) ∈ lb) = rb at *
  clear HE hs hl
  generalize lb.length = nl at *
  go_enter Tryd.func57, Tryd.ntmps57
  go_upto_region 1 with (fail)
  generalize World.alloc w _ = w1 at *
  have k0 := HV.out.cell 0
  have g0 := HX.out.cell 0
  have g1 := HX.out.cell 1
  simp at k0 g0 g1
  go_wp2_with fail
  refine (HH.out _ HB.out).mono ?_
  rintro e w2 ⟨rfl, hb2⟩
  have HB2 := Lib.hid (HB.out.trans (hb2.mono HB.out.size))
  go_wp2_with fail
  go_ret
  exact ⟨rfl, HB2.out⟩
set_option maxHeartbeats 2000000 in
set_option maxRecDepth 20000 in
theorem gmeeti_any (lb : List Ft) (hl : Asc lb) (hs : lb.length ≤ 1000000) (p : Nat) (xs : List Ft) (A : Option Addr) (n c : Nat) (w : World) (hn : n = xs.length) (hm : n ≤ 9223372036854775807) (h : FactsAt w w.heap.size A xs) (hv : VarB p lb w) :
    Calls Tryd.prog 97 #[.slice A n c, .func (.func 57) #[] #[.pointer (some ⟨p, 0, none⟩)]] w fun e w' =>
      e = .returned (.int .i64 (ixS (noB lb) xs)) ∧ Below w.heap.size w w' := by
  have HN := Lib.hid hn
  have H := Lib.hid h
  have HV := Lib.hid hv
  have HC := Lib.hid (fun s W (hb : Below w.heap.size w W) => gmeetc_any lb hl hs s p W (hv.next hb))
  clear hn h hv hl hs
  generalize noB lb = bad at *
  go_enter Tryd.func97, Tryd.ntmps97
  go_wp2_with fail
  go_loopg [8] n (fun k i wr => ∃ j : Nat, k = n - j ∧ j ≤ n ∧ i = .int .i64 j ∧ Hid (Below w.heap.size w wr) ∧ Hid (∀ i, i < j → ∀ x, xs[i]? = some x → bad x = false))
  case atStart => exact ⟨0, by omega, Nat.zero_le _, rfl, Lib.hid (Below.refl _ _), Lib.hid (fun i hi => by omega)⟩
  case round =>
    obtain ⟨j, hgk, hj, rfl, HB, HG⟩ := hrel
    have HGK := Lib.hid hgk; clear hgk
    by_cases hlt : j < n
    · obtain ⟨s, hs⟩ := get_of_lt HN.out hlt
      obtain ⟨b, off, rfl, hb, g0, g1⟩ := H.out.two hs
      rw [← HB.out.cell (p := ⟨b, _, none⟩) hb] at g0 g1
      have HX := Lib.hid hs
      have HD := Lib.hid (HC.out s wr HB.out)
      have i1 : (0 : Int) ≤ (j : Int) := by omega
      have i2 : (j : Int) < (n : Int) := by omega
      clear hs hb
      obtain ⟨sx, sy⟩ := s
      unfold valF at HD
      dsimp only at HD g0 g1
      cases hz : bad ⟨sx, sy⟩ with
      | true =>
        rw [hz] at HD
        have HF := Lib.hid (ixS_some (first_bad HG.out HX.out hz))
        clear hz
        go_wp2_with fail
        refine HD.out.mono ?_
        rintro e w2 ⟨rfl, hb2⟩
        have HB2 := Lib.hid (HB.out.trans (hb2.mono HB.out.size))
        clear hb2
        go_wp2_with fail
        go_ret
        exact ⟨by rw [HF.out]; rfl, HB2.out⟩
      | false =>
        rw [hz] at HD
        have HG2 : Hid (∀ i, i < j + 1 → ∀ x, xs[i]? = some x → bad x = false) := Lib.hid (forall_lt_succ HG.out (fun x hx => by rw [HX.out] at hx; cases hx; exact hz))
        clear hz
        go_wp2_with fail
        refine HD.out.mono ?_
        rintro e w2 ⟨rfl, hb2⟩
        have HB2 := Lib.hid (HB.out.trans (hb2.mono HB.out.size))
        clear hb2
        go_wp2_with fail
        go_roundg (n - (j + 1))
        case measure => rw [HGK.out]; omega
        case rel => exact ⟨j+1, rfl, by omega, by go_num, HB2, HG2⟩
    · obtain rfl : j = n := by omega
      have HF := Lib.hid (ixS_none (no_bad (bad := bad) (xs := xs) (by rw [← HN.out]; exact HG.out)))
      go_wp2_with fail
      go_ret
      exact ⟨by rw [HF.out]; rfl, HB.out⟩
set_option maxHeartbeats 2000000 in
set_option maxRecDepth 20000 in
theorem gminusc_any (lb : List Ft) (hl : Asc lb) (hs : lb.length ≤ 1000000) (c : Ft) (p : Nat) (w : World) (h : VarB p lb w) :
    Calls Tryd.prog 61 #[valF c, .pointer (some ⟨p, 0, none⟩)] w fun e w' => e = .returned (.bool (inB lb c)) ∧ Below w.heap.size w w' := by
  obtain ⟨A, cap, h1, h2⟩ := h
  have HH := Lib.hid (fun W (hb : Below w.heap.size w W) => has_any lb hl c A lb.length cap W rfl hs (h2.next hb))
  obtain ⟨cx, cy⟩ := c
  unfold valF at HH
  unfold valF
  dsimp only at HH ⊢
  have hbx : Below w.heap.size w (w.alloc (.cells #[.int .i64 cx, .int .i64 cy] 60)) := (Below.refl _ _).alloc (Nat.le_refl _) _
  have HB := Lib.hid hbx
  have HV := Lib.hid (h1.belowB hbx)
  have HX := Lib.hid (Blk.new w 60 #[.int .i64 cx, .int .i64 cy])
  clear hbx h1 h2
  have HE : Hid (inB lb ⟨cx, cy⟩ = (decide ((⟨cx, cy⟩ : Ft) ∈ lb))) := Lib.hid rfl
  rw [HE.out]
  generalize decide ((⟨cx, cy⟩ : Ft) ∈ lb) = rb at *
  clear HE hs hl
  generalize lb.length = nl at *
  go_enter Tryd.func61, Tryd.ntmps61
  go_upto_region 1 with (fail)
  generalize World.alloc w _ = w1 at *
  have k0 := HV.out.cell 0
  have g0 := HX.out.cell 0
  have g1 := HX.out.cell 1
  simp at k0 g0 g1
  go_wp2_with fail
  refine (HH.out _ HB.out).mono ?_
  rintro e w2 ⟨rfl, hb2⟩
  have HB2 := Lib.hid (HB.out.trans (hb2.mono HB.out.size))
  go_wp2_with fail
  go_ret
  exact ⟨rfl, HB2.out⟩
set_option maxHeartbeats 2000000 in
set_option maxRecDepth 20000 in
theorem gminusi_any (lb : List Ft) (hl : Asc lb) (hs : lb.length ≤ 1000000) (p : Nat) (xs : List Ft) (A : Option Addr) (n c : Nat) (w : World) (hn : n = xs.length) (hm : n ≤ 9223372036854775807) (h : FactsAt w w.heap.size A xs) (hv : VarB p lb w) :
    Calls Tryd.prog 97 #[.slice A n c, .func (.func 61) #[] #[.pointer (some ⟨p, 0, none⟩)]] w fun e w' =>
      e = .returned (.int .i64 (ixS (inB lb) xs)) ∧ Below w.heap.size w w' := by
  have HN := Lib.hid hn
  have H := Lib.hid h
  have HV := Lib.hid hv
  have HC := Lib.hid (fun s W (hb : Below w.heap.size w W) => gminusc_any lb hl hs s p W (hv.next hb))
  clear hn h hv hl hs
  generalize inB lb = bad at *
  go_enter Tryd.func97, Tryd.ntmps97
  go_wp2_with fail
  go_loopg [8] n (fun k i wr => ∃ j : Nat, k = n - j ∧ j ≤ n ∧ i = .int .i64 j ∧ Hid (Below w.heap.size w wr) ∧ Hid (∀ i, i < j → ∀ x, xs[i]? = some x → bad x = false))
  case atStart => exact ⟨0, by omega, Nat.zero_le _, rfl, Lib.hid (Below.refl _ _), Lib.hid (fun i hi => by omega)⟩
  case round =>
    obtain ⟨j, hgk, hj, rfl, HB, HG⟩ := hrel
    have HGK := Lib.hid hgk; clear hgk
    by_cases hlt : j < n
    · obtain ⟨s, hs⟩ := get_of_lt HN.out hlt
      obtain ⟨b, off, rfl, hb, g0, g1⟩ := H.out.two hs
      rw [← HB.out.cell (p := ⟨b, _, none⟩) hb] at g0 g1
      have HX := Lib.hid hs
      have HD := Lib.hid (HC.out s wr HB.out)
      have i1 : (0 : Int) ≤ (j : Int) := by omega
      have i2 : (j : Int) < (n : Int) := by omega
      clear hs hb
      obtain ⟨sx, sy⟩ := s
      unfold valF at HD
      dsimp only at HD g0 g1
      cases hz : bad ⟨sx, sy⟩ with
      | true =>
        rw [hz] at HD
        have HF := Lib.hid (ixS_some (first_bad HG.out HX.out hz))
        clear hz
        go_wp2_with fail
        refine HD.out.mono ?_
        rintro e w2 ⟨rfl, hb2⟩
        have HB2 := Lib.hid (HB.out.trans (hb2.mono HB.out.size))
        clear hb2
        go_wp2_with fail
        go_ret
        exact ⟨by rw [HF.out]; rfl, HB2.out⟩
      | false =>
        rw [hz] at HD
        have HG2 : Hid (∀ i, i < j + 1 → ∀ x, xs[i]? = some x → bad x = false) := Lib.hid (forall_lt_succ HG.out (fun x hx => by rw [HX.out] at hx; cases hx; exact hz))
        clear hz
        go_wp2_with fail
        refine HD.out.mono ?_
        rintro e w2 ⟨rfl, hb2⟩
        have HB2 := Lib.hid (HB.out.trans (hb2.mono HB.out.size))
        clear hb2
        go_wp2_with fail
        go_roundg (n - (j + 1))
        case measure => rw [HGK.out]; omega
        case rel => exact ⟨j+1, rfl, by omega, by go_num, HB2, HG2⟩
    · obtain rfl : j = n := by omega
      have HF := Lib.hid (ixS_none (no_bad (bad := bad) (xs := xs) (by rw [← HN.out]; exact HG.out)))
      go_wp2_with fail
      go_ret
      exact ⟨by rw [HF.out]; rfl, HB.out⟩
set_option maxHeartbeats 2000000 in
set_option maxRecDepth 20000 in
theorem gwithinc_any (lb : List Ft) (hl : Asc lb) (hs : lb.length ≤ 1000000) (c : Ft) (p : Nat) (w : World) (h : VarB p lb w) :
    Calls Tryd.prog 63 #[valF c, .pointer (some ⟨p, 0, none⟩)] w fun e w' => e = .returned (.bool (noB lb c)) ∧ Below w.heap.size w w' := by
  obtain ⟨A, cap, h1, h2⟩ := h
  have HH := Lib.hid (fun W (hb : Below w.heap.size w W) => has_any lb hl c A lb.length cap W rfl hs (h2.next hb))
  obtain ⟨cx, cy⟩ := c
  unfold valF at HH
  unfold valF
  dsimp only at HH ⊢
  have hbx : Below w.heap.size w (w.alloc (.cells #[.int .i64 cx, .int .i64 cy] 60)) := (Below.refl _ _).alloc (Nat.le_refl _) _
  have HB := Lib.hid hbx
  have HV := Lib.hid (h1.belowB hbx)
  have HX := Lib.hid (Blk.new w 60 #[.int .i64 cx, .int .i64 cy])
  clear hbx h1 h2
  have HE : Hid (noB lb ⟨cx, cy⟩ = (!decide ((⟨cx, cy⟩ : Ft) ∈ lb))) := Lib.hid rfl
  rw [HE.out]
  generalize decide ((⟨cx, cy⟩ : Ft) ∈ lb) = rb at *
  clear HE hs hl
  generalize lb.length = nl at *
  go_enter Tryd.func63, Tryd.ntmps63
  go_upto_region 1 with (fail)
  generalize World.alloc w _ = w1 at *
  have k0 := HV.out.cell 0
  have g0 := HX.out.cell 0
  have g1 := HX.out.cell 1
  simp at k0 g0 g1
  go_wp2_with fail
  refine (HH.out _ HB.out).mono ?_
  rintro e w2 ⟨rfl, hb2⟩
  have HB2 := Lib.hid (HB.out.trans (hb2.mono HB.out.size))
  go_wp2_with fail
  go_ret
  exact ⟨rfl, HB2.out⟩
set_option maxHeartbeats 2000000 in
set_option maxRecDepth 20000 in
theorem gwithini_any (lb : List Ft) (hl : Asc lb) (hs : lb.length ≤ 1000000) (p : Nat) (xs : List Ft) (A : Option Addr) (n c : Nat) (w : World) (hn : n = xs.length) (hm : n ≤ 9223372036854775807) (h : FactsAt w w.heap.size A xs) (hv : VarB p lb w) :
    Calls Tryd.prog 97 #[.slice A n c, .func (.func 63) #[] #[.pointer (some ⟨p, 0, none⟩)]] w fun e w' =>
      e = .returned (.int .i64 (ixS (noB lb) xs)) ∧ Below w.heap.size w w' := by
  have HN := Lib.hid hn
  have H := Lib.hid h
  have HV := Lib.hid hv
  have HC := Lib.hid (fun s W (hb : Below w.heap.size w W) => gwithinc_any lb hl hs s p W (hv.next hb))
  clear hn h hv hl hs
  generalize noB lb = bad at *
  go_enter Tryd.func97, Tryd.ntmps97
  go_wp2_with fail
  go_loopg [8] n (fun k i wr => ∃ j : Nat, k = n - j ∧ j ≤ n ∧ i = .int .i64 j ∧ Hid (Below w.heap.size w wr) ∧ Hid (∀ i, i < j → ∀ x, xs[i]? = some x → bad x = false))
  case atStart => exact ⟨0, by omega, Nat.zero_le _, rfl, Lib.hid (Below.refl _ _), Lib.hid (fun i hi => by omega)⟩
  case round =>
    obtain ⟨j, hgk, hj, rfl, HB, HG⟩ := hrel
    have HGK := Lib.hid hgk; clear hgk
    by_cases hlt : j < n
    · obtain ⟨s, hs⟩ := get_of_lt HN.out hlt
      obtain ⟨b, off, rfl, hb, g0, g1⟩ := H.out.two hs
      rw [← HB.out.cell (p := ⟨b, _, none⟩) hb] at g0 g1
      have HX := Lib.hid hs
      have HD := Lib.hid (HC.out s wr HB.out)
      have i1 : (0 : Int) ≤ (j : Int) := by omega
      have i2 : (j : Int) < (n : Int) := by omega
      clear hs hb
      obtain ⟨sx, sy⟩ := s
      unfold valF at HD
      dsimp only at HD g0 g1
      cases hz : bad ⟨sx, sy⟩ with
      | true =>
        rw [hz] at HD
        have HF := Lib.hid (ixS_some (first_bad HG.out HX.out hz))
        clear hz
        go_wp2_with fail
        refine HD.out.mono ?_
        rintro e w2 ⟨rfl, hb2⟩
        have HB2 := Lib.hid (HB.out.trans (hb2.mono HB.out.size))
        clear hb2
        go_wp2_with fail
        go_ret
        exact ⟨by rw [HF.out]; rfl, HB2.out⟩
      | false =>
        rw [hz] at HD
        have HG2 : Hid (∀ i, i < j + 1 → ∀ x, xs[i]? = some x → bad x = false) := Lib.hid (forall_lt_succ HG.out (fun x hx => by rw [HX.out] at hx; cases hx; exact hz))
        clear hz
        go_wp2_with fail
        refine HD.out.mono ?_
        rintro e w2 ⟨rfl, hb2⟩
        have HB2 := Lib.hid (HB.out.trans (hb2.mono HB.out.size))
        clear hb2
        go_wp2_with fail
        go_roundg (n - (j + 1))
        case measure => rw [HGK.out]; omega
        case rel => exact ⟨j+1, rfl, by omega, by go_num, HB2, HG2⟩
    · obtain rfl : j = n := by omega
      have HF := Lib.hid (ixS_none (no_bad (bad := bad) (xs := xs) (by rw [← HN.out]; exact HG.out)))
      go_wp2_with fail
      go_ret
      exact ⟨by rw [HF.out]; rfl, HB.out⟩
end Go.Proofs.YtoejojfjiikogaaDoor
