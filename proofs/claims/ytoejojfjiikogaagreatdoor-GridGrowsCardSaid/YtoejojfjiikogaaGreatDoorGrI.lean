/- Joined texts: GrI GrD GrW. -/
import Derived.Test.YtoejojfjiikogaaGreatDoorGrH
namespace Go.Proofs.YtoejojfjiikogaaGreatDoor
open Go.RowKit
set_option linter.unusedVariables false
set_option linter.unusedSimpArgs false


/-- the variable at block p holds the ascending list lb -/
def VarB (p : Nat) (lb : List Ft) (w : World) : Prop := ∃ A cap, Blk w p 30 #[.slice A lb.length cap] ∧ FactsAt w w.heap.size A lb
theorem VarB.next {p : Nat} {lb : List Ft} {w w' : World} (h : VarB p lb w) (hb : Below w.heap.size w w') : VarB p lb w' := by
  obtain ⟨A, cap, h1, h2⟩ := h
  exact ⟨A, cap, h1.belowB hb, h2.next hb⟩
def noB (lb : List Ft) (c : Ft) : Bool := !decide (c ∈ lb)
theorem first_bad {bad : Ft → Bool} {xs : List Ft} {j : Nat} {s : Ft} (hg : ∀ i, i < j → ∀ x, xs[i]? = some x → bad x = false) (hx : xs[j]? = some s) (hb : bad s = true) : xs.findIdx? bad = some j := by
  have hl := (List.getElem?_eq_some_iff.1 hx).1
  rw [List.findIdx?_eq_some_iff_getElem]
  refine ⟨hl, by rw [(List.getElem?_eq_some_iff.1 hx).2]; exact hb, fun i hi => ?_⟩
  have := hg i hi _ (List.getElem?_eq_getElem (by omega))
  simp [this]
theorem no_bad {bad : Ft → Bool} {xs : List Ft} (hg : ∀ i, i < xs.length → ∀ x, xs[i]? = some x → bad x = false) : xs.findIdx? bad = none := by
  rw [List.findIdx?_eq_none_iff]
  intro x hx
  obtain ⟨i, hi⟩ := List.mem_iff_getElem?.1 hx
  exact hg i (List.getElem?_eq_some_iff.1 hi).1 x hi
def ixS (bad : Ft → Bool) (xs : List Ft) : Int := match xs.findIdx? bad with
  | some i => (i : Int)
  | none => -1
theorem ixS_some {bad : Ft → Bool} {xs : List Ft} {j : Nat} (h : xs.findIdx? bad = some j) : ixS bad xs = j := by unfold ixS; rw [h]
theorem ixS_none {bad : Ft → Bool} {xs : List Ft} (h : xs.findIdx? bad = none) : ixS bad xs = -1 := by unfold ixS; rw [h]
set_option maxHeartbeats 2000000 in
set_option maxRecDepth 20000 in
theorem gmeetc_any (lb : List Ft) (hl : Asc lb) (hs : lb.length ≤ 1000000) (c : Ft) (p : Nat) (w : World) (h : VarB p lb w) :
    Calls Tryz.prog 72 #[valF c, .pointer (some ⟨p, 0, none⟩)] w fun e w' => e = .returned (.bool (noB lb c)) ∧ Below w.heap.size w w' := by
  obtain ⟨A, cap, h1, h2⟩ := h
  have HH := Lib.hid (fun W (hb : Below w.heap.size w W) => has_any lb hl c A lb.length cap W rfl hs (h2.next hb))
  obtain ⟨cx, cy⟩ := c
  unfold valF at HH
  unfold valF
  dsimp only at HH ⊢
  have hbx : Below w.heap.size w (w.alloc (.cells #[.int .i64 cx, .int .i64 cy] 36)) := (Below.refl _ _).alloc (Nat.le_refl _) _
  have HB := Lib.hid hbx
  have HV := Lib.hid (h1.belowB hbx)
  have HX := Lib.hid (Blk.new w 36 #[.int .i64 cx, .int .i64 cy])
  clear hbx h1 h2
  have HE : Hid (noB lb ⟨cx, cy⟩ = (!decide ((⟨cx, cy⟩ : Ft) ∈ lb))) := Lib.hid rfl
  rw [HE.out]
  generalize decide ((⟨cx, cy⟩ : Ft) ∈ lb) = rb at *
  clear HE hs hl
  generalize lb.length = nl at *
  go_enter Tryz.func72, Tryz.ntmps72
  go_upto_region 1 with (fail)
  generalize World.alloc w _ = w1 at *
  have k0 := HV.out.cell 0
  have g0 := HX.out.cell 0
  have g1 := HX.out.cell 1
  simp at k0 g0 g1
  go_wp2_with fail
  refine (HH.out _ HB.out).mono ?_
  rintro e w2 ⟨rfl, hb2⟩
  have HB2 := Lib.hid (HB.out.trans (hb2.mono HB.out.size))
  go_wp2_with fail
  go_ret
  exact ⟨rfl, HB2.out⟩
set_option maxHeartbeats 2000000 in
set_option maxRecDepth 20000 in
theorem gmeeti_any (lb : List Ft) (hl : Asc lb) (hs : lb.length ≤ 1000000) (p : Nat) (xs : List Ft) (A : Option Addr) (n c : Nat) (w : World) (hn : n = xs.length) (hm : n ≤ 9223372036854775807) (h : FactsAt w w.heap.size A xs) (hv : VarB p lb w) :
    Calls Tryz.prog 101 #[.slice A n c, .func (.func 72) #[] #[.pointer (some ⟨p, 0, none⟩)]] w fun e w' =>
      e = .returned (.int .i64 (ixS (noB lb) xs)) ∧ Below w.heap.size w w' := by
  have HN := Lib.hid hn
  have H := Lib.hid h
  have HV := Lib.hid hv
  have HC := Lib.hid (fun s W (hb : Below w.heap.size w W) => gmeetc_any lb hl hs s p W (hv.next hb))
  clear hn h hv hl hs
  generalize noB lb = bad at *
  go_enter Tryz.func101, Tryz.ntmps101
  go_wp2_with fail
  go_loopg [8] n (fun k i wr => ∃ j : Nat, k = n - j ∧ j ≤ n ∧ i = .int .i64 j ∧ Hid (Below w.heap.size w wr) ∧ Hid (∀ i, i < j → ∀ x, xs[i]? = some x → bad x = false))
  case atStart => exact ⟨0, by omega, Nat.zero_le _, rfl, Lib.hid (Below.refl _ _), Lib.hid (fun i hi => by omega)⟩
  case round =>
    obtain ⟨j, hgk, hj, rfl, HB, HG⟩ := hrel
    have HGK := Lib.hid hgk; clear hgk
    by_cases hlt : j < n
    · obtain ⟨s, hs⟩ := get_of_lt HN.out hlt
      obtain ⟨b, off, rfl, hb, g0, g1⟩ := H.out.two hs
      rw [← HB.out.cell (p := ⟨b, _, none⟩) hb] at g0 g1
      have HX := Lib.hid hs
      have HD := Lib.hid (HC.out s wr HB.out)
      have i1 : (0 : Int) ≤ (j : Int) := by omega
      have i2 : (j : Int) < (n : Int) := by omega
      clear hs hb
      obtain ⟨sx, sy⟩ := s
      unfold valF at HD
      dsimp only at HD g0 g1
      cases hz : bad ⟨sx, sy⟩ with
      | true =>
        rw [hz] at HD
        have HF := Lib.hid (ixS_some (first_bad HG.out HX.out hz))
        clear hz
        go_wp2_with fail
        refine HD.out.mono ?_
        rintro e w2 ⟨rfl, hb2⟩
        have HB2 := Lib.hid (HB.out.trans (hb2.mono HB.out.size))
        clear hb2
        go_wp2_with fail
        go_ret
        exact ⟨by rw [HF.out]; rfl, HB2.out⟩
      | false =>
        rw [hz] at HD
        have HG2 : Hid (∀ i, i < j + 1 → ∀ x, xs[i]? = some x → bad x = false) := Lib.hid (forall_lt_succ HG.out (fun x hx => by rw [HX.out] at hx; cases hx; exact hz))
        clear hz
        go_wp2_with fail
        refine HD.out.mono ?_
        rintro e w2 ⟨rfl, hb2⟩
        have HB2 := Lib.hid (HB.out.trans (hb2.mono HB.out.size))
        clear hb2
        go_wp2_with fail
        go_roundg (n - (j + 1))
        case measure => rw [HGK.out]; omega
        case rel => exact ⟨j+1, rfl, by omega, by go_num, HB2, HG2⟩
    · obtain rfl : j = n := by omega
      have HF := Lib.hid (ixS_none (no_bad (bad := bad) (xs := xs) (by rw [← HN.out]; exact HG.out)))
      go_wp2_with fail
      go_ret
      exact ⟨by rw [HF.out]; rfl, HB.out⟩
set_option maxHeartbeats 2000000 in
set_option maxRecDepth 20000 in
theorem gwithinc_any (lb : List Ft) (hl : Asc lb) (hs : lb.length ≤ 1000000) (c : Ft) (p : Nat) (w : World) (h : VarB p lb w) :
    Calls Tryz.prog 69 #[valF c, .pointer (some ⟨p, 0, none⟩)] w fun e w' => e = .returned (.bool (noB lb c)) ∧ Below w.heap.size w w' := by
  obtain ⟨A, cap, h1, h2⟩ := h
  have HH := Lib.hid (fun W (hb : Below w.heap.size w W) => has_any lb hl c A lb.length cap W rfl hs (h2.next hb))
  obtain ⟨cx, cy⟩ := c
  unfold valF at HH
  unfold valF
  dsimp only at HH ⊢
  have hbx : Below w.heap.size w (w.alloc (.cells #[.int .i64 cx, .int .i64 cy] 36)) := (Below.refl _ _).alloc (Nat.le_refl _) _
  have HB := Lib.hid hbx
  have HV := Lib.hid (h1.belowB hbx)
  have HX := Lib.hid (Blk.new w 36 #[.int .i64 cx, .int .i64 cy])
  clear hbx h1 h2
  have HE : Hid (noB lb ⟨cx, cy⟩ = (!decide ((⟨cx, cy⟩ : Ft) ∈ lb))) := Lib.hid rfl
  rw [HE.out]
  generalize decide ((⟨cx, cy⟩ : Ft) ∈ lb) = rb at *
  clear HE hs hl
  generalize lb.length = nl at *
  go_enter Tryz.func69, Tryz.ntmps69
  go_upto_region 1 with (fail)
  generalize World.alloc w _ = w1 at *
  have k0 := HV.out.cell 0
  have g0 := HX.out.cell 0
  have g1 := HX.out.cell 1
  simp at k0 g0 g1
  go_wp2_with fail
  refine (HH.out _ HB.out).mono ?_
  rintro e w2 ⟨rfl, hb2⟩
  have HB2 := Lib.hid (HB.out.trans (hb2.mono HB.out.size))
  go_wp2_with fail
  go_ret
  exact ⟨rfl, HB2.out⟩
set_option maxHeartbeats 2000000 in
set_option maxRecDepth 20000 in
theorem gwithini_any (lb : List Ft) (hl : Asc lb) (hs : lb.length ≤ 1000000) (p : Nat) (xs : List Ft) (A : Option Addr) (n c : Nat) (w : World) (hn : n = xs.length) (hm : n ≤ 9223372036854775807) (h : FactsAt w w.heap.size A xs) (hv : VarB p lb w) :
    Calls Tryz.prog 101 #[.slice A n c, .func (.func 69) #[] #[.pointer (some ⟨p, 0, none⟩)]] w fun e w' =>
      e = .returned (.int .i64 (ixS (noB lb) xs)) ∧ Below w.heap.size w w' := by
  have HN := Lib.hid hn
  have H := Lib.hid h
  have HV := Lib.hid hv
  have HC := Lib.hid (fun s W (hb : Below w.heap.size w W) => gwithinc_any lb hl hs s p W (hv.next hb))
  clear hn h hv hl hs
  generalize noB lb = bad at *
  go_enter Tryz.func101, Tryz.ntmps101
  go_wp2_with fail
  go_loopg [8] n (fun k i wr => ∃ j : Nat, k = n - j ∧ j ≤ n ∧ i = .int .i64 j ∧ Hid (Below w.heap.size w wr) ∧ Hid (∀ i, i < j → ∀ x, xs[i]? = some x → bad x = false))
  case atStart => exact ⟨0, by omega, Nat.zero_le _, rfl, Lib.hid (Below.refl _ _), Lib.hid (fun i hi => by omega)⟩
  case round =>
    obtain ⟨j, hgk, hj, rfl, HB, HG⟩ := hrel
    have HGK := Lib.hid hgk; clear hgk
    by_cases hlt : j < n
    · obtain ⟨s, hs⟩ := get_of_lt HN.out hlt
      obtain ⟨b, off, rfl, hb, g0, g1⟩ := H.out.two hs
      rw [← HB.out.cell (p := ⟨b, _, none⟩) hb] at g0 g1
      have HX := Lib.hid hs
      have HD := Lib.hid (HC.out s wr HB.out)
      have i1 : (0 : Int) ≤ (j : Int) := by omega
      have i2 : (j : Int) < (n : Int) := by omega
      clear hs hb
      obtain ⟨sx, sy⟩ := s
      unfold valF at HD
      dsimp only at HD g0 g1
      cases hz : bad ⟨sx, sy⟩ with
      | true =>
        rw [hz] at HD
        have HF := Lib.hid (ixS_some (first_bad HG.out HX.out hz))
        clear hz
        go_wp2_with fail
        refine HD.out.mono ?_
        rintro e w2 ⟨rfl, hb2⟩
        have HB2 := Lib.hid (HB.out.trans (hb2.mono HB.out.size))
        clear hb2
        go_wp2_with fail
        go_ret
        exact ⟨by rw [HF.out]; rfl, HB2.out⟩
      | false =>
        rw [hz] at HD
        have HG2 : Hid (∀ i, i < j + 1 → ∀ x, xs[i]? = some x → bad x = false) := Lib.hid (forall_lt_succ HG.out (fun x hx => by rw [HX.out] at hx; cases hx; exact hz))
        clear hz
        go_wp2_with fail
        refine HD.out.mono ?_
        rintro e w2 ⟨rfl, hb2⟩
        have HB2 := Lib.hid (HB.out.trans (hb2.mono HB.out.size))
        clear hb2
        go_wp2_with fail
        go_roundg (n - (j + 1))
        case measure => rw [HGK.out]; omega
        case rel => exact ⟨j+1, rfl, by omega, by go_num, HB2, HG2⟩
    · obtain rfl : j = n := by omega
      have HF := Lib.hid (ixS_none (no_bad (bad := bad) (xs := xs) (by rw [← HN.out]; exact HG.out)))
      go_wp2_with fail
      go_ret
      exact ⟨by rw [HF.out]; rfl, HB.out⟩
end Go.Proofs.YtoejojfjiikogaaGreatDoor
namespace Go.Proofs.YtoejojfjiikogaaGreatDoor
open Go.RowKit
set_option linter.unusedVariables false
set_option linter.unusedSimpArgs false

def goodL (bad : Ft → Bool) (l : List Ft) : List Ft := l.filter fun s => !bad s
/-- while DeleteFunc works -/
structure DInv (bad : Ft → Bool) (D : Array Ft) (j i : Nat) (dk : Array Ft) : Prop where
  size : dk.size = D.size
  jn : j ≤ D.size
  cnt : (goodL bad (D.toList.take j)).length = i
  lt : i < j
  low : ∀ q, q < i → (goodL bad (D.toList.take j))[q]? = some dk[q]!
  high : ∀ q, j ≤ q → dk[q]! = D[q]!
section
variable {bad : Ft → Bool} {D dk : Array Ft} {j i : Nat}
theorem take_arr (h : j < D.size) : D.toList.take (j + 1) = D.toList.take j ++ [D[j]!] := by
  rw [List.take_add_one, Array.getElem?_toList, getElem!_pos D j h, Array.getElem?_eq_getElem h]
  rfl
theorem DInv.skip (h : DInv bad D j i dk) (hj : j < D.size) (hb : bad D[j]! = true) : DInv bad D (j + 1) i dk := by
  have e : goodL bad (D.toList.take (j + 1)) = goodL bad (D.toList.take j) := by
    unfold goodL
    rw [take_arr hj, List.filter_append]
    simp [hb]
  obtain ⟨h1, h2, h3, h4, h5, h6⟩ := h
  exact ⟨h1, hj, by rw [e]; exact h3, by omega, fun q hq => by rw [e]; exact h5 q hq, fun q hq => h6 q (by omega)⟩
theorem DInv.keep (h : DInv bad D j i dk) (hj : j < D.size) (hb : bad D[j]! = false) : DInv bad D (j + 1) (i + 1) (dk.setIfInBounds i D[j]!) := by
  have e : goodL bad (D.toList.take (j + 1)) = goodL bad (D.toList.take j) ++ [D[j]!] := by
    unfold goodL
    rw [take_arr hj, List.filter_append]
    simp [hb]
  obtain ⟨h1, h2, h3, h4, h5, h6⟩ := h
  have hi : i < dk.size := by omega
  have hd : ∀ q, q < dk.size → (dk.setIfInBounds i D[j]!)[q]! = if i = q then D[j]! else dk[q]! := by
    intro q hq
    rw [getElem!_pos _ q (by simpa using hq), Array.getElem_setIfInBounds (by simpa using hq), getElem!_pos dk q hq]
  refine ⟨by simpa using h1, hj, by rw [e, List.length_append, h3]; rfl, by omega, fun q hq => ?_, fun q hq => ?_⟩
  · rw [e]
    by_cases hqi : q = i
    · subst hqi
      rw [List.getElem?_append_right (by omega), h3, Nat.sub_self, hd _ hi, if_pos rfl]
      rfl
    · rw [List.getElem?_append_left (by omega), hd q (by omega), if_neg (by omega)]
      exact h5 q (by omega)
  · by_cases hq2 : q < dk.size
    · rw [hd q hq2, if_neg (by omega)]
      exact h6 q (by omega)
    · have e1 : (dk.setIfInBounds i D[j]!)[q]! = default := by rw [getElem!_neg]; simpa using hq2
      have e2 : D[q]! = default := by rw [getElem!_neg]; omega
      rw [e1, e2]
theorem DInv.start (hj : j < D.size) (hg : ∀ q, q < j → bad D[q]! = false) (hb : bad D[j]! = true) : DInv bad D (j + 1) j D := by
  have e : goodL bad (D.toList.take j) = D.toList.take j := by
    unfold goodL
    rw [List.filter_eq_self]
    intro s hs
    obtain ⟨q, hq⟩ := List.mem_iff_getElem?.1 hs
    rw [List.getElem?_take] at hq
    split at hq
    · rename_i hlt
      have h9 := hg q hlt
      rw [Array.getElem?_toList] at hq
      obtain ⟨h7, h8⟩ := Array.getElem?_eq_some_iff.1 hq
      rw [getElem!_pos D q h7, h8] at h9
      simp [h9]
    · cases hq
  have e2 : goodL bad (D.toList.take (j + 1)) = D.toList.take j := by
    rw [← e]
    unfold goodL
    rw [take_arr hj, List.filter_append]
    simp [hb]
  refine ⟨rfl, hj, by rw [e2]; simp; omega, by omega, fun q hq => ?_, fun q hq => rfl⟩
  rw [e2, List.getElem?_take, if_pos hq, Array.getElem?_toList, getElem!_pos D q (by omega), Array.getElem?_eq_getElem (by omega)]
end
/-- while the call goes on: the block g with the cells -/
structure DvS (w0 : World) (g cap : Nat) (dk : Array Ft) (wr : World) : Prop where
  bel : Below w0.heap.size w0 wr
  blk : FBlk wr g cap dk
section
variable {w0 wr w' : World} {g cap : Nat} {dk : Array Ft}
theorem DvS.next (h : DvS w0 g cap dk wr) (hb : Below wr.heap.size wr w') : DvS w0 g cap dk w' :=
  ⟨h.bel.trans (hb.mono h.bel.size), h.blk.below hb h.blk.lt⟩
theorem DvS.store (h : DvS w0 g cap dk wr) (hg : w0.heap.size ≤ g) {i : Nat} (hi : i < dk.size) (x : Ft) : DvS w0 g cap (dk.setIfInBounds i x) ((wr.setCell ⟨g, i*2, none⟩ (.int .i64 x.x)).setCell ⟨g, i*2+1, none⟩ (.int .i64 x.y)) :=
  ⟨(h.bel.setCell (p := ⟨g, _, none⟩) hg _).setCell (p := ⟨g, _, none⟩) hg _, h.blk.store hi x⟩
theorem DvS.cut (h : DvS w0 g cap dk wr) (hg : w0.heap.size ≤ g) {K : List Ft} (hk : K.length ≤ dk.size) (hK : ∀ q, q < K.length → K[q]? = some dk[q]!) (vs : List Value) : DvS w0 g cap K.toArray (wr.setCells g (K.length * 2) vs) :=
  ⟨h.bel.trans (below_setCells hg vs _ _), h.blk.cut hk hK vs⟩
end
set_option maxHeartbeats 4000000 in
set_option maxRecDepth 20000 in
theorem gmeetd_any (w0 : World) (lb : List Ft) (hl : Asc lb) (hs : lb.length ≤ 1000000) (p : Nat) (h0 : VarB p lb w0) (g cap n : Nat) (D : Array Ft) (w : World) (h : DvS w0 g cap D w) (hg : w0.heap.size ≤ g) (hn : D.size = n) (hsz : n ≤ 1000000) :
    Calls Tryz.prog 71 #[.slice (some ⟨g, 0, none⟩) n cap, .func (.func 72) #[] #[.pointer (some ⟨p, 0, none⟩)]] w fun e w' =>
      e = .returned (.slice (some ⟨g, 0, none⟩) (goodL (noB lb) D.toList).length cap) ∧ DvS w0 g cap (goodL (noB lb) D.toList).toArray w' := by
  have H := Lib.hid h
  have H0 := Lib.hid h0
  have HZ := Lib.hid hn
  have HG := Lib.hid hg
  have hle : n ≤ cap := by rw [← hn]; exact h.blk.le
  have HIX := Lib.hid (gmeeti_any lb hl hs p D.toList (some ⟨g, 0, none⟩) n cap w (by simpa using hn.symm) (by omega) h.blk.factsAll (h0.next h.bel))
  have HCL := Lib.hid (fun c W (hb : Below w0.heap.size w0 W) => gmeetc_any lb hl hs c p W (h0.next hb))
  clear h h0 hn hg hl hs
  generalize noB lb = bad at *
  cases hf : D.toList.findIdx? bad with
  | none =>
    have HGL : Hid (goodL bad D.toList = D.toList) := Lib.hid (by
      unfold goodL
      rw [List.filter_eq_self]
      intro s hs
      have := List.findIdx?_eq_none_iff.1 hf s hs
      simp [this])
    rw [ixS_none hf] at HIX
    clear hf
    go_enter Tryz.func71, Tryz.ntmps71
    go_wp2_with fail
    refine HIX.out.mono ?_
    rintro e w2 ⟨rfl, hb2⟩
    have H2 := Lib.hid (H.out.next hb2)
    clear hb2
    go_wp2_with fail
    go_ret
    exact ⟨by rw [HGL.out, Array.length_toList, HZ.out]; rfl, by rw [HGL.out]; exact H2.out⟩
  | some i0 =>
    rw [ixS_some hf] at HIX
    obtain ⟨hl0, hb0, hg0⟩ := List.findIdx?_eq_some_iff_getElem.1 hf
    have hi0 : i0 < D.size := by simpa using hl0
    have HI0 : Hid (DInv bad D (i0 + 1) i0 D) := Lib.hid (DInv.start hi0 (fun q hq => by
      have := hg0 q hq
      rw [getElem!_pos D q (by omega)]
      simpa using this) (by rw [getElem!_pos D i0 hi0]; simpa using hb0))
    have hin : i0 < n := by rw [← HZ.out]; exact hi0
    clear hf hl0 hb0 hg0 hi0
    go_enter Tryz.func71, Tryz.ntmps71
    go_wp2_with fail
    refine HIX.out.mono ?_
    rintro e w2 ⟨rfl, hb2⟩
    have H2 := Lib.hid (H.out.next hb2)
    clear hb2
    have hwi := i64_w ((i0 : Int) + 1) (by omega) (by omega)
    have hi1 : ((i0 : Int) == -1) = false := by simp
    go_wp2_with fail
    go_loopg [5, 6] (n - (i0 + 1)) (fun kx a b wr => ∃ (i j : Nat) (dk : Array Ft), kx = n - j ∧ j ≤ n ∧ a = .int .i64 i ∧ b = .int .i64 j ∧ Hid (DvS w0 g cap dk wr) ∧ Hid (DInv bad D j i dk))
    case atStart => exact ⟨i0, i0 + 1, D, rfl, by omega, rfl, by go_num, H2, HI0⟩
    case round =>
      clear H2 HI0 hwi hi1 hin
      obtain ⟨i, j, dk, hgk, hj, rfl, rfl, HV, HD⟩ := hrel
      have HGK := Lib.hid hgk; clear hgk
      have hij := HD.out.lt
      by_cases hlt : j < n
      · have hjD : j < D.size := by rw [HZ.out]; exact hlt
        have hjk : j < dk.size := by rw [HD.out.size]; exact hjD
        obtain ⟨c0, c1⟩ := HV.out.blk.cells hjk
        rw [HD.out.high j (Nat.le_refl _)] at c0 c1
        have HK := Lib.hid (fun hb => HD.out.keep hjD hb)
        have HS := Lib.hid (fun hb => HD.out.skip hjD hb)
        have HIK := Lib.hid (show i < dk.size by omega)
        have hic : i < cap := by omega
        clear hjD hjk
        generalize D[j]! = x at *
        have i1 : (0 : Int) ≤ (j : Int) := by omega
        have i2 : (j : Int) < (n : Int) := by omega
        have i3 : (0 : Int) ≤ (i : Int) := by omega
        have i4 : (i : Int) < (n : Int) := by omega
        obtain ⟨xx, xy⟩ := x
        dsimp only at c0 c1
        go_upto_region 8 with (fail)
        have hbx : Below wr.heap.size wr (wr.alloc (.cells #[.int .i64 xx, .int .i64 xy] 36)) := (Below.refl _ _).alloc (Nat.le_refl _) _
        have HV4 := Lib.hid (HV.out.next hbx)
        have HX4 := Lib.hid (Blk.new wr 36 #[.int .i64 xx, .int .i64 xy])
        clear hbx c0 c1 HV
        generalize World.alloc wr _ = w4 at *
        generalize wr.heap.size = px at *
        have o0 := HX4.out.cell 0
        have o1 := HX4.out.cell 1
        simp at o0 o1
        have HDL := Lib.hid (HCL.out ⟨xx, xy⟩ w4 HV4.out.bel)
        unfold valF at HDL
        dsimp only at HDL
        cases hz : bad ⟨xx, xy⟩ with
        | true =>
          rw [hz] at HDL
          have HD2 := Lib.hid (HS.out hz)
          clear hz
          go_wp2_with fail
          refine HDL.out.mono ?_
          rintro e w5 ⟨rfl, hb5⟩
          have HV5 := Lib.hid (HV4.out.next hb5)
          clear hb5 o0 o1
          go_wp2_with fail
          go_roundg (n - (j + 1))
          case measure => rw [HGK.out]; omega
          case rel => exact ⟨i, j + 1, dk, rfl, hlt, rfl, by go_num, HV5, HD2⟩
        | false =>
          rw [hz] at HDL
          have HD2 := Lib.hid (HK.out hz)
          clear hz
          go_wp2_with fail
          refine HDL.out.mono ?_
          rintro e w5 ⟨rfl, hb5⟩
          have HV5 := Lib.hid (HV4.out.next hb5)
          have HX5 := Lib.hid (HX4.out.belowB hb5)
          clear hb5 o0 o1 HX4 HV4
          have o0 := HX5.out.cell 0
          have o1 := HX5.out.cell 1
          simp at o0 o1
          obtain ⟨e0, e1⟩ := HV5.out.blk.cells HIK.out
          have f0 := HV5.out.blk.frozen (i*2)
          have f1 := HV5.out.blk.frozen (i*2+1)
          generalize dk[i]! = y at e0 e1
          have HV6 := Lib.hid (HV5.out.store HG.out HIK.out ⟨xx, xy⟩)
          go_wp2_with fail
          go_roundg (n - (j + 1))
          case measure => rw [HGK.out]; omega
          case rel => exact ⟨i + 1, j + 1, _, rfl, hlt, by go_num, by go_num, HV6, HD2⟩
      · obtain rfl : j = n := by omega
        obtain ⟨n2, hn2⟩ : ∃ n2, j = i + (n2 + 1) := ⟨j - i - 1, by omega⟩
        obtain ⟨vs, hcl⟩ := run_clear_ft g (i*2) n2 (cap - i) cap 0 dk wr HV.out.blk (by omega)
        have HN2 : j - i = n2 + 1 := by omega
        rw [← HN2] at hcl
        have HGL : Hid ((goodL bad D.toList).length = i ∧ ∀ q, q < (goodL bad D.toList).length → (goodL bad D.toList)[q]? = some dk[q]!) := Lib.hid (by
          have e : D.toList.take j = D.toList := by rw [← HZ.out, ← Array.length_toList]; exact List.take_length
          have h3 := HD.out.cnt
          have h5 := HD.out.low
          rw [e] at h3 h5
          exact ⟨h3, fun q hq => h5 q (by omega)⟩)
        have HC := Lib.hid (HV.out.cut HG.out (by rw [HGL.out.1, HD.out.size, HZ.out]; omega) HGL.out.2 vs)
        rw [HGL.out.1] at HC
        clear hn2 HN2
        go_wp2_with fail
        go_ret
        exact ⟨by rw [HGL.out.1]; rfl, HC.out⟩
set_option maxHeartbeats 2000000 in
/-- DeleteFunc of the empty slice -/
theorem gmeetd_nil (lb : List Ft) (hl : Asc lb) (hs : lb.length ≤ 1000000) (p : Nat) (w : World) (h0 : VarB p lb w) :
    Calls Tryz.prog 71 #[.slice none 0 0, .func (.func 72) #[] #[.pointer (some ⟨p, 0, none⟩)]] w fun e w' => e = .returned (.slice none 0 0) ∧ Below w.heap.size w w' := by
  have HIX := Lib.hid (gmeeti_any lb hl hs p [] none 0 0 w rfl (by omega) FactsAt.nil h0)
  have e : ixS (noB lb) [] = -1 := rfl
  rw [e] at HIX
  clear hl hs h0 e
  go_enter Tryz.func71, Tryz.ntmps71
  go_wp2_with fail
  refine HIX.out.mono ?_
  rintro e w2 ⟨rfl, hb2⟩
  have HB2 := Lib.hid hb2
  clear hb2
  go_wp2_with fail
  go_ret
  exact ⟨rfl, HB2.out⟩
set_option maxHeartbeats 4000000 in
set_option maxRecDepth 20000 in
theorem gmeet_any (la lb : List Ft) (va vb : Value) (w : World) (hA : Fs va la w) (hB : Fs vb lb w) (hs : la.length ≤ 1000) (hs2 : lb.length ≤ 1000) :
    Calls Tryz.prog 30 #[va, vb] w (FsPost (goodL (noB (ofL lb)) (ofL la)) w) := by
  obtain ⟨A, ca, rfl, hca, hma, hA⟩ := hA
  obtain ⟨B, cb, rfl, hcb, hmb, hB⟩ := hB
  have HA := Lib.hid hA
  have HB := Lib.hid hB
  have HNB : Hid ((ofL lb).length ≤ 1000000) := Lib.hid (by have := ofL_len_le lb; omega)
  have HNA : Hid ((ofL la).length ≤ 1000000) := Lib.hid (by have := ofL_len_le la; omega)
  have HSL := Lib.hid (fun g W (hb : Below w.heap.size w W) (hk : Blk W g 30 #[.slice B lb.length cb]) => sorted1_any lb B lb.length cb g W rfl hs2 (((HB.out.below hb (Nat.le_refl _)).more hb.size)) hk)
  have HSA := Lib.hid (fun g W (hb : Below w.heap.size w W) (hk : Blk W g 30 #[.slice A la.length ca]) => sorted1_any la A la.length ca g W rfl hs (((HA.out.below hb (Nat.le_refl _)).more hb.size)) hk)
  clear hA hB hca hma hcb hmb hs hs2
  have HAB := Lib.hid (ofL_asc lb)
  unfold SortPost at HSL HSA
  generalize ofL lb = sb at *
  generalize ofL la = sa at *
  generalize la.length = n at *
  generalize lb.length = m at *
  clear HA HB
  go_enter Tryz.func30, Tryz.ntmps30
  go_upto_region 1 with (fail)
  have hbx : Below w.heap.size w (w.alloc (.cells #[.slice B m cb] 30)) := (Below.refl _ _).alloc (Nat.le_refl _) _
  have HB1 := Lib.hid hbx
  have HX1 := Lib.hid (Blk.new w 30 #[.slice B m cb])
  have HP : Hid (w.heap.size ≤ w.heap.size) := Lib.hid (Nat.le_refl _)
  clear hbx
  generalize World.alloc w _ = w1 at *
  obtain ⟨p, hp⟩ : ∃ p, p = w.heap.size := ⟨_, rfl⟩
  rw [← hp] at HX1
  have HPP := Lib.hid hp
  rw [← hp]
  clear hp
  have k0 := HX1.out.cell 0
  have hf0 := HX1.out.frozen 0
  simp at k0
  go_wp2_with fail
  clear k0 hf0
  have hby : Below w.heap.size w (w1.alloc (.cells #[.slice B m cb] 30)) := HB1.out.alloc HB1.out.size _
  have HX2 := Lib.hid (HX1.out.belowB ((Below.refl w1.heap.size w1).alloc (Nat.le_refl _) (.cells #[.slice B m cb] 30)))
  have HB2 := Lib.hid hby
  have HSL2 := Lib.hid (HSL.out w1.heap.size _ hby (Blk.new w1 _ _))
  clear hby HB1 HX1 HSL
  generalize w1.heap.size = q1 at *
  generalize World.alloc w1 _ = w2 at *
  refine HSL2.out.mono ?_
  rintro e w3 ⟨vb3, rfl, ho3, hb3⟩
  obtain ⟨B3, c3, rfl, hl3, hm3, hF3⟩ := ho3.facts
  have HX3 := Lib.hid (HX2.out.belowB hb3)
  have HB3 := Lib.hid (HB2.out.trans (hb3.mono HB2.out.size))
  have HF3 := Lib.hid hF3
  have k0 := HX3.out.cell 0
  have hf0 := HX3.out.frozen 0
  simp at k0
  clear ho3 hb3 hl3 hm3 hF3 HX2 HB2 HSL2
  have HV4 : Hid (Below w.heap.size w (w3.setCell ⟨p, 0, none⟩ (.slice B3 sb.length c3)) ∧ VarB p sb (w3.setCell ⟨p, 0, none⟩ (.slice B3 sb.length c3))) := Lib.hid (by
    refine ⟨HB3.out.setCell (p := ⟨p, 0, none⟩) (by have := HPP.out; show _ ≤ p; omega) _, B3, c3, by simpa using HX3.out.set_ 0 (.slice B3 sb.length c3), fun k s hs => ?_⟩
    obtain ⟨b, off, hA, hb, hc⟩ := HF3.out k s hs
    refine ⟨b, off, hA, by simpa using hb, fun j v hj => ?_⟩
    have hbp : b ≠ p := by
      rintro rfl
      have h9 := hc 0 (.int .i64 s.x) rfl
      rw [Nat.add_zero] at h9
      have h8 := HX3.out.cell (off + k * 2)
      rw [h8] at h9
      rcases Nat.eq_zero_or_pos (off + k * 2) with h7 | h7
      · rw [h7] at h9; simp at h9
      · rw [Array.getElem?_eq_none (by simp; omega)] at h9; cases h9
    rw [World.cell?_setCell_other _ _ _ _ (by intro e; first | exact hbp (congrArg Addr.block e) | exact hbp (congrArg Addr.block e).symm)]
    exact hc j v hj)
  generalize hnb : sb.length = nb at *
  have HNBL := Lib.hid hnb
  clear hnb
  go_wp2_with fail
  clear k0 hf0
  have hsz : (w3.setCell ⟨p, 0, none⟩ (.slice B3 nb c3)).heap.size = w3.heap.size := by simp
  generalize World.setCell w3 _ _ = w4 at *
  generalize w3.heap.size = q4 at *
  have HV5 := Lib.hid (And.intro (HV4.out.1.alloc HV4.out.1.size (.cells #[.slice A n ca] 30)) (HV4.out.2.next ((Below.refl w4.heap.size w4).alloc (Nat.le_refl _) (.cells #[.slice A n ca] 30))))
  have HSA2 := Lib.hid (HSA.out w4.heap.size _ HV5.out.1 (Blk.new w4 _ _))
  rw [hsz] at HSA2
  clear HV4 HSA HX3 HF3 HB3 hsz
  generalize World.alloc w4 _ = w5 at *
  refine HSA2.out.mono ?_
  rintro e w6 ⟨va6, rfl, ho6, hb6⟩
  have HB6 := Lib.hid hb6
  have HB6w := Lib.hid (HV5.out.1.trans (hb6.mono HV5.out.1.size))
  have HV6 := Lib.hid (HV5.out.2.next hb6)
  rcases ho6 with ⟨rfl, hnil⟩ | ⟨g, cap, rfl, hg, hmx, hfb⟩
  · have HNIL := Lib.hid hnil
    have HD := Lib.hid (gmeetd_nil sb HAB.out (by have := HNB.out; have h2 := HNBL.out; omega) p w6 HV6.out)
    clear hnil hb6 HSA2
    go_wp2_with fail
    refine HD.out.mono ?_
    rintro e w7 ⟨rfl, hb7⟩
    have HB7 := Lib.hid (HB6w.out.trans (hb7.mono HB6w.out.size))
    clear hb7
    go_wp2_with fail
    go_ret
    exact ⟨_, rfl, ⟨none, 0, by rw [HNIL.out]; rfl, by rw [HNIL.out]; exact Nat.le_refl _, by unfold maxLen; omega, by rw [HNIL.out]; exact FactsAt.nil⟩, HB7.out⟩
  · have HD := Lib.hid (gmeetd_any w5 sb HAB.out (by have := HNB.out; have h2 := HNBL.out; omega) p HV5.out.2 g cap sa.length sa.toArray w6 ⟨hb6, hfb⟩ hg (by simp) HNA.out)
    have HG := Lib.hid hg
    have HM := Lib.hid hmx
    have HW5 := Lib.hid HV5.out.1
    clear hb6 hg hmx hfb HSA2
    have hto : sa.toArray.toList = sa := by simp
    rw [hto] at HD
    generalize hnn : (goodL (noB sb) sa).length = n9 at *
    have HN9 := Lib.hid hnn
    generalize sa.length = n8 at *
    clear hnn hto
    go_wp2_with fail
    refine HD.out.mono ?_
    rintro e w7 ⟨rfl, h7⟩
    have HB7 := Lib.hid (HW5.out.trans (h7.bel.mono HW5.out.size))
    have HF7 := Lib.hid h7.blk
    clear h7
    go_wp2_with fail
    go_ret
    refine ⟨_, rfl, ⟨some ⟨g, 0, none⟩, cap, by rw [HN9.out]; rfl, ?_, HM.out, by simpa using HF7.out.factsAll⟩, HB7.out⟩
    simpa using HF7.out.le
end Go.Proofs.YtoejojfjiikogaaGreatDoor
namespace Go.Proofs.YtoejojfjiikogaaGreatDoor
open Go.RowKit
set_option linter.unusedVariables false
set_option linter.unusedSimpArgs false

theorem within_ix (sb la : List Ft) : (!decide (ixS (noB sb) la ≥ 0)) = la.all fun c => decide (c ∈ sb) := by
  cases hf : la.findIdx? (noB sb) with
  | none =>
    rw [ixS_none hf]
    have h := List.findIdx?_eq_none_iff.1 hf
    have e : (la.all fun c => decide (c ∈ sb)) = true := by
      rw [List.all_eq_true]
      intro c hc
      have := h c hc
      simpa [noB] using this
    rw [e]; rfl
  | some j =>
    rw [ixS_some hf]
    obtain ⟨hl, hb, _⟩ := List.findIdx?_eq_some_iff_getElem.1 hf
    have e : (la.all fun c => decide (c ∈ sb)) = false := by
      rw [List.all_eq_false]
      exact ⟨la[j], List.getElem_mem hl, by simpa [noB] using hb⟩
    rw [e, decide_eq_true (by omega)]; rfl
set_option maxHeartbeats 2000000 in
theorem gwithinf_any (lb : List Ft) (hl : Asc lb) (hs : lb.length ≤ 1000000) (p : Nat) (xs : List Ft) (A : Option Addr) (n c : Nat) (w : World) (hn : n = xs.length) (hm : n ≤ 9223372036854775807) (h : FactsAt w w.heap.size A xs) (hv : VarB p lb w) :
    Calls Tryz.prog 68 #[.slice A n c, .func (.func 69) #[] #[.pointer (some ⟨p, 0, none⟩)]] w fun e w' =>
      e = .returned (.bool (decide (ixS (noB lb) xs ≥ 0))) ∧ Below w.heap.size w w' := by
  have HI := Lib.hid (gwithini_any lb hl hs p xs A n c w hn hm h hv)
  clear hl hs hn hm h hv
  generalize ixS (noB lb) xs = ix at *
  go_enter Tryz.func68, Tryz.ntmps68
  go_wp2_with fail
  refine HI.out.mono ?_
  rintro e w2 ⟨rfl, hb2⟩
  have HB2 := Lib.hid hb2
  clear hb2
  go_wp2_with fail
  go_ret
  exact ⟨by first | rfl | simp, HB2.out⟩
set_option maxHeartbeats 4000000 in
set_option maxRecDepth 20000 in
theorem gwithin_any (la lb : List Ft) (va vb : Value) (w : World) (hA : Fs va la w) (hB : Fs vb lb w) (hs : la.length ≤ 1000) (hs2 : lb.length ≤ 1000) :
    Calls Tryz.prog 29 #[va, vb] w fun e w' => e = .returned (.bool (withinL la lb)) ∧ Below w.heap.size w w' := by
  obtain ⟨A, ca, rfl, hca, hma, hA⟩ := hA
  obtain ⟨B, cb, rfl, hcb, hmb, hB⟩ := hB
  have HA := Lib.hid hA
  have HB := Lib.hid hB
  have HNB : Hid ((ofL lb).length ≤ 1000000) := Lib.hid (by have := ofL_len_le lb; omega)
  have HNA : Hid (la.length ≤ 1000) := Lib.hid hs
  have HSL := Lib.hid (fun g W (hb : Below w.heap.size w W) (hk : Blk W g 30 #[.slice B lb.length cb]) => sorted1_any lb B lb.length cb g W rfl hs2 (((HB.out.below hb (Nat.le_refl _)).more hb.size)) hk)
  clear hA hB hca hma hcb hmb hs hs2
  have HAB := Lib.hid (ofL_asc lb)
  unfold SortPost at HSL
  unfold withinL
  generalize ofL lb = sb at *
  generalize hn : la.length = n at *
  have HN := Lib.hid hn.symm
  clear hn
  generalize lb.length = m at *
  clear HB
  go_enter Tryz.func29, Tryz.ntmps29
  go_upto_region 1 with (fail)
  have hbx : Below w.heap.size w (w.alloc (.cells #[.slice B m cb] 30)) := (Below.refl _ _).alloc (Nat.le_refl _) _
  have HB1 := Lib.hid hbx
  have HX1 := Lib.hid (Blk.new w 30 #[.slice B m cb])
  have HP : Hid (w.heap.size ≤ w.heap.size) := Lib.hid (Nat.le_refl _)
  clear hbx
  generalize World.alloc w _ = w1 at *
  obtain ⟨p, hp⟩ : ∃ p, p = w.heap.size := ⟨_, rfl⟩
  rw [← hp] at HX1
  have HPP := Lib.hid hp
  rw [← hp]
  clear hp
  have k0 := HX1.out.cell 0
  have hf0 := HX1.out.frozen 0
  simp at k0
  go_wp2_with fail
  clear k0 hf0
  have hby : Below w.heap.size w (w1.alloc (.cells #[.slice B m cb] 30)) := HB1.out.alloc HB1.out.size _
  have HX2 := Lib.hid (HX1.out.belowB ((Below.refl w1.heap.size w1).alloc (Nat.le_refl _) (.cells #[.slice B m cb] 30)))
  have HB2 := Lib.hid hby
  have HSL2 := Lib.hid (HSL.out w1.heap.size _ hby (Blk.new w1 _ _))
  clear hby HB1 HX1 HSL
  generalize w1.heap.size = q1 at *
  generalize World.alloc w1 _ = w2 at *
  refine HSL2.out.mono ?_
  rintro e w3 ⟨vb3, rfl, ho3, hb3⟩
  obtain ⟨B3, c3, rfl, hl3, hm3, hF3⟩ := ho3.facts
  have HX3 := Lib.hid (HX2.out.belowB hb3)
  have HB3 := Lib.hid (HB2.out.trans (hb3.mono HB2.out.size))
  have HF3 := Lib.hid hF3
  have k0 := HX3.out.cell 0
  have hf0 := HX3.out.frozen 0
  simp at k0
  clear ho3 hb3 hl3 hm3 hF3 HX2 HB2 HSL2
  have HV4 : Hid (Below w.heap.size w (w3.setCell ⟨p, 0, none⟩ (.slice B3 sb.length c3)) ∧ VarB p sb (w3.setCell ⟨p, 0, none⟩ (.slice B3 sb.length c3))) := Lib.hid (by
    refine ⟨HB3.out.setCell (p := ⟨p, 0, none⟩) (by have := HPP.out; show _ ≤ p; omega) _, B3, c3, by simpa using HX3.out.set_ 0 (.slice B3 sb.length c3), fun k s hs => ?_⟩
    obtain ⟨b, off, hA, hb, hc⟩ := HF3.out k s hs
    refine ⟨b, off, hA, by simpa using hb, fun j v hj => ?_⟩
    have hbp : b ≠ p := by
      rintro rfl
      have h9 := hc 0 (.int .i64 s.x) rfl
      rw [Nat.add_zero] at h9
      have h8 := HX3.out.cell (off + k * 2)
      rw [h8] at h9
      rcases Nat.eq_zero_or_pos (off + k * 2) with h7 | h7
      · rw [h7] at h9; simp at h9
      · rw [Array.getElem?_eq_none (by simp; omega)] at h9; cases h9
    rw [World.cell?_setCell_other _ _ _ _ (by intro e; first | exact hbp (congrArg Addr.block e) | exact hbp (congrArg Addr.block e).symm)]
    exact hc j v hj)
  have HW := Lib.hid (gwithinf_any sb HAB.out HNB.out p la A n ca _ HN.out (by have := HNA.out; omega) ((HA.out.below HV4.out.1 (Nat.le_refl _)).more HV4.out.1.size) HV4.out.2)
  have HE := Lib.hid (within_ix sb la)
  generalize hrb : decide (ixS (noB sb) la ≥ 0) = rb at *
  clear hrb
  generalize sb.length = nb at *
  go_wp2_with fail
  clear k0 hf0
  have HB4 := Lib.hid HV4.out.1
  clear HV4
  generalize World.setCell w3 _ _ = w4 at *
  refine HW.out.mono ?_
  rintro e w7 ⟨rfl, hb7⟩
  have HB7 := Lib.hid (HB4.out.trans (hb7.mono HB4.out.size))
  clear hb7
  go_wp2_with fail
  go_ret
  exact ⟨by rw [← HE.out]; rfl, HB7.out⟩
end Go.Proofs.YtoejojfjiikogaaGreatDoor
