/- Walk: slices.DeleteFunc at steps with the closure of Steps. -/
import Derived.Test.YtnaiflokmihmeaaAsD
import Derived.Test.YtnaiflokmihmeaaMgG
namespace Go.Proofs.Ytnaiflokmihmeaa
open Go.RowKit Go.Lib
set_option linter.unusedVariables false
set_option linter.unusedSimpArgs false

theorem run_clear_st (g o n c cap : Nat) (ty : TypeId) (d : Array Stp) (w : World) (hd : SBlk w g cap d) (ho : o + (n + 1) * 5 ≤ cap * 5) :
    ∃ vs : List Value, (Builtin.clear_ #[26] ty #[.slice (some ⟨g, o, none⟩) (n + 1) c]).run Try.prog w = .ok (.tuple #[]) (w.setCells g o vs) := by
  have hz : (zeroValue 39).run Try.prog w = .ok (.agg #[.int .i64 0, .int .i64 0, .int .i64 0, .int .i64 0, .int .i64 0]) w := by kernel_rfl
  have hlen : (Builtin.zeroCells (Value.agg #[.int .i64 0, .int .i64 0, .int .i64 0, .int .i64 0, .int .i64 0]).cells (n + 1)).toList.length = (n + 1) * 5 := by
    simp [Builtin.zeroCells, Value.cells]
  have h1 : ∀ v ∈ (Builtin.zeroCells (Value.agg #[.int .i64 0, .int .i64 0, .int .i64 0, .int .i64 0, .int .i64 0]).cells (n + 1)).toList, v.oneCell' = true := by
    intro v hv
    have hv' : v = .int .i64 0 := by
      simp only [Builtin.zeroCells, Value.cells] at hv
      obtain ⟨i, hi, he⟩ := List.mem_iff_getElem.1 hv
      have h3 : i % 5 = 0 ∨ i % 5 = 1 ∨ i % 5 = 2 ∨ i % 5 = 3 ∨ i % 5 = 4 := by omega
      rcases h3 with h3 | h3 | h3 | h3 | h3 <;> simp [h3] at he <;> exact he.symm
    subst hv'
    rfl
  have hst := run_storeCells_cells (P := Try.prog) g o _ 0 w (fun j hj => by rw [hlen] at hj; exact hd.some_ (by omega)) (fun j hj => hd.frozen _) h1
  rw [Nat.add_zero] at hst
  refine ⟨(Builtin.zeroCells (Value.agg #[.int .i64 0, .int .i64 0, .int .i64 0, .int .i64 0, .int .i64 0]).cells (n + 1)).toList, ?_⟩
  simp [Builtin.clear_, run_underlying Try.underlying26, hz, hst]
theorem blk_setCells {g : Nat} {t : TypeId} : ∀ (vs : List Value) (o : Nat) (w : World) (cs : Array Value), Blk w g t cs → ∃ cs', Blk (w.setCells g o vs) g t cs' ∧ cs'.size = cs.size ∧ ∀ q, q < o → cs'[q]? = cs[q]?
  | [], o, w, cs, h => ⟨cs, h, rfl, fun _ _ => rfl⟩
  | v :: r, o, w, cs, h => by
    obtain ⟨cs', h1, h2, h3⟩ := blk_setCells r (o + 1) (w.setCell ⟨g, o, none⟩ v) _ (h.set_ o v)
    refine ⟨cs', h1, by rw [h2]; simp, fun q hq => ?_⟩
    rw [h3 q (by omega), Array.getElem?_setIfInBounds, if_neg (by omega)]
theorem far_setCells {g p : Nat} {t : TypeId} {cs : Array Value} (hn : p ≠ g) : ∀ (vs : List Value) (o : Nat) (w : World), Blk w p t cs → Blk (w.setCells g o vs) p t cs
  | [], o, w, h => h
  | v :: r, o, w, h => far_setCells hn r (o + 1) (w.setCell ⟨g, o, none⟩ v) (h.far (p := ⟨g, o, none⟩) hn v)
theorem SBlk.cut {w : World} {g cap : Nat} {dk : Array Stp} {K : List Stp} (h : SBlk w g cap dk) (hk : K.length ≤ dk.size) (hK : ∀ q, q < K.length → K[q]? = some dk[q]!) (vs : List Value) : SBlk (w.setCells g (K.length * 5) vs) g cap K.toArray := by
  obtain ⟨cs, h1, h2, h3, h4⟩ := h
  obtain ⟨cs', g1, g2, g3⟩ := blk_setCells vs (K.length * 5) w cs h1
  refine ⟨cs', g1, by rw [g2, h2], by simpa using Nat.le_trans hk h3, fun t ht => ?_⟩
  have ht' : t < K.length * 5 := by simpa using ht
  rw [g3 t ht', h4 t (by omega)]
  have hq := hK (t / 5) (by omega)
  have : K.toArray[t / 5]! = dk[t / 5]! := by
    rw [getElem!_pos K.toArray (t / 5) (by simpa using (by omega : t / 5 < K.length))]
    have h9 := (List.getElem?_eq_some_iff.1 hq).2
    simpa using h9
  rw [this]
def goodL (d : Wd) (l : List Stp) : List Stp := l.filter fun s => !badS d s
/-- while DeleteFunc works -/
structure DInv (d : Wd) (D : Array Stp) (j i : Nat) (dk : Array Stp) : Prop where
  size : dk.size = D.size
  jn : j ≤ D.size
  cnt : (goodL d (D.toList.take j)).length = i
  lt : i < j
  low : ∀ q, q < i → (goodL d (D.toList.take j))[q]? = some dk[q]!
  high : ∀ q, j ≤ q → dk[q]! = D[q]!
section
variable {d : Wd} {D dk : Array Stp} {j i : Nat}
theorem take_arr (h : j < D.size) : D.toList.take (j + 1) = D.toList.take j ++ [D[j]!] := by
  rw [List.take_add_one, Array.getElem?_toList, getElem!_pos D j h, Array.getElem?_eq_getElem h]
  rfl
theorem DInv.skip (h : DInv d D j i dk) (hj : j < D.size) (hb : badS d D[j]! = true) : DInv d D (j + 1) i dk := by
  have e : goodL d (D.toList.take (j + 1)) = goodL d (D.toList.take j) := by
    unfold goodL
    rw [take_arr hj, List.filter_append]
    simp [hb]
  obtain ⟨h1, h2, h3, h4, h5, h6⟩ := h
  exact ⟨h1, hj, by rw [e]; exact h3, by omega, fun q hq => by rw [e]; exact h5 q hq, fun q hq => h6 q (by omega)⟩
theorem DInv.keep (h : DInv d D j i dk) (hj : j < D.size) (hb : badS d D[j]! = false) : DInv d D (j + 1) (i + 1) (dk.setIfInBounds i D[j]!) := by
  have e : goodL d (D.toList.take (j + 1)) = goodL d (D.toList.take j) ++ [D[j]!] := by
    unfold goodL
    rw [take_arr hj, List.filter_append]
    simp [hb]
  obtain ⟨h1, h2, h3, h4, h5, h6⟩ := h
  have hi : i < dk.size := by omega
  have hd : ∀ q, q < dk.size → (dk.setIfInBounds i D[j]!)[q]! = if i = q then D[j]! else dk[q]! := by
    intro q hq
    rw [getElem!_pos _ q (by simpa using hq), Array.getElem_setIfInBounds (by simpa using hq), getElem!_pos dk q hq]
  refine ⟨by simpa using h1, hj, by rw [e, List.length_append, h3]; rfl, by omega, fun q hq => ?_, fun q hq => ?_⟩
  · rw [e]
    by_cases hqi : q = i
    · subst hqi
      rw [List.getElem?_append_right (by omega), h3, Nat.sub_self, hd _ hi, if_pos rfl]
      rfl
    · rw [List.getElem?_append_left (by omega), hd q (by omega), if_neg (by omega)]
      exact h5 q (by omega)
  · by_cases hq2 : q < dk.size
    · rw [hd q hq2, if_neg (by omega)]
      exact h6 q (by omega)
    · have e1 : (dk.setIfInBounds i D[j]!)[q]! = default := by rw [getElem!_neg]; simpa using hq2
      have e2 : D[q]! = default := by rw [getElem!_neg]; omega
      rw [e1, e2]
theorem DInv.start (hj : j < D.size) (hg : ∀ q, q < j → badS d D[q]! = false) (hb : badS d D[j]! = true) : DInv d D (j + 1) j D := by
  have e : goodL d (D.toList.take j) = D.toList.take j := by
    unfold goodL
    rw [List.filter_eq_self]
    intro s hs
    obtain ⟨q, hq⟩ := List.mem_iff_getElem?.1 hs
    rw [List.getElem?_take] at hq
    split at hq
    · rename_i hlt
      have h9 := hg q hlt
      rw [Array.getElem?_toList] at hq
      obtain ⟨h7, h8⟩ := Array.getElem?_eq_some_iff.1 hq
      rw [getElem!_pos D q h7, h8] at h9
      simp [h9]
    · cases hq
  have e2 : goodL d (D.toList.take (j + 1)) = D.toList.take j := by
    rw [← e]
    unfold goodL
    rw [take_arr hj, List.filter_append]
    simp [hb]
  refine ⟨rfl, hj, by rw [e2]; simp; omega, by omega, fun q hq => ?_, fun q hq => rfl⟩
  rw [e2, List.getElem?_take, if_pos hq, Array.getElem?_toList, getElem!_pos D q (by omega), Array.getElem?_eq_getElem (by omega)]
end
/-- while the call goes on: the box p with the world, the block g with the steps -/
structure DvS (w0 : World) (p : Nat) (d : Wd) (r : Raw) (g cap : Nat) (dk : Array Stp) (wr : World) : Prop where
  bel : Below w0.heap.size w0 wr
  box : Blk wr p 25 (wcs d.sl r)
  blk : SBlk wr g cap dk
section
variable {w0 wr w' : World} {p g cap : Nat} {d : Wd} {r : Raw} {dk : Array Stp}
theorem DvS.next (h : DvS w0 p d r g cap dk wr) (hb : Below wr.heap.size wr w') : DvS w0 p d r g cap dk w' :=
  ⟨h.bel.trans (hb.mono h.bel.size), h.box.belowB hb, h.blk.below hb h.blk.lt⟩
theorem DvS.var (h : DvS w0 p d r g cap dk wr) (h0 : WOk w0 r d) : VarW p d r wr := ⟨h.box, h0.next h.bel⟩
theorem DvS.store (h : DvS w0 p d r g cap dk wr) (hg : w0.heap.size ≤ g) (hp : p ≠ g) {i : Nat} (hi : i < dk.size) (x : Stp) : DvS w0 p d r g cap (dk.setIfInBounds i x) (((((wr.setCell ⟨g, i*5, none⟩ (.int .i64 x.k)).setCell ⟨g, i*5+1, none⟩ (.int .i64 x.a)).setCell ⟨g, i*5+2, none⟩ (.int .i64 x.p)).setCell ⟨g, i*5+3, none⟩ (.int .i64 x.s)).setCell ⟨g, i*5+4, none⟩ (.int .i64 x.t)) :=
  ⟨((((h.bel.setCell (p := ⟨g, _, none⟩) hg _).setCell (p := ⟨g, _, none⟩) hg _).setCell (p := ⟨g, _, none⟩) hg _).setCell (p := ⟨g, _, none⟩) hg _).setCell (p := ⟨g, _, none⟩) hg _, ((((h.box.far (p := ⟨g, _, none⟩) hp _).far (p := ⟨g, _, none⟩) hp _).far (p := ⟨g, _, none⟩) hp _).far (p := ⟨g, _, none⟩) hp _).far (p := ⟨g, _, none⟩) hp _, h.blk.store hi x⟩
theorem DvS.cut (h : DvS w0 p d r g cap dk wr) (hg : w0.heap.size ≤ g) (hp : p ≠ g) {K : List Stp} (hk : K.length ≤ dk.size) (hK : ∀ q, q < K.length → K[q]? = some dk[q]!) (vs : List Value) : DvS w0 p d r g cap K.toArray (wr.setCells g (K.length * 5) vs) :=
  ⟨h.bel.trans (below_setCells hg vs _ _), far_setCells hp vs _ _ h.box, h.blk.cut hk hK vs⟩
end
set_option maxHeartbeats 4000000 in
set_option maxRecDepth 20000 in
theorem delete_any (w0 : World) (d : Wd) (r : Raw) (h0 : WOk w0 r d) (p g cap n : Nat) (D : Array Stp) (w : World) (h : DvS w0 p d r g cap D w) (hp : p ≠ g) (hg : w0.heap.size ≤ g) (hn : D.size = n) (hsz : n ≤ 1000000) :
    Calls Try.prog 91 #[.slice (some ⟨g, 0, none⟩) n cap, .func (.func 92) #[] #[.pointer (some ⟨p, 0, none⟩)]] w fun e w' =>
      e = .returned (.slice (some ⟨g, 0, none⟩) (goodL d D.toList).length cap) ∧ DvS w0 p d r g cap (goodL d D.toList).toArray w' := by
  have H := Lib.hid h
  have H0 := Lib.hid h0
  have HZ := Lib.hid hn
  have HP := Lib.hid hp
  have HG := Lib.hid hg
  have hle : n ≤ cap := by rw [← hn]; exact h.blk.le
  have HIX := Lib.hid (indexS_any d r p D.toList (some ⟨g, 0, none⟩) n cap w (by simpa using hn.symm) (by omega) h.blk.stepsAll (h.var h0))
  clear h h0 hn hp hg
  cases hf : D.toList.findIdx? (badS d) with
  | none =>
    have HGL : Hid (goodL d D.toList = D.toList) := Lib.hid (by
      unfold goodL
      rw [List.filter_eq_self]
      intro s hs
      have := List.findIdx?_eq_none_iff.1 hf s hs
      simp [this])
    rw [ixS_none hf] at HIX
    clear hf
    go_enter Try.func91, Try.ntmps91
    go_wp2_with fail
    refine HIX.out.mono ?_
    rintro e w2 ⟨rfl, hb2⟩
    have H2 := Lib.hid (H.out.next hb2)
    clear hb2
    go_wp2_with fail
    go_ret
    exact ⟨by rw [HGL.out, Array.length_toList, HZ.out]; rfl, by rw [HGL.out]; exact H2.out⟩
  | some i0 =>
    rw [ixS_some hf] at HIX
    obtain ⟨hl0, hb0, hg0⟩ := List.findIdx?_eq_some_iff_getElem.1 hf
    have hi0 : i0 < D.size := by simpa using hl0
    have HI0 : Hid (DInv d D (i0 + 1) i0 D) := Lib.hid (DInv.start hi0 (fun q hq => by
      have := hg0 q hq
      rw [getElem!_pos D q (by omega)]
      simpa using this) (by rw [getElem!_pos D i0 hi0]; simpa using hb0))
    have hin : i0 < n := by rw [← HZ.out]; exact hi0
    clear hf hl0 hb0 hg0 hi0
    go_enter Try.func91, Try.ntmps91
    go_wp2_with fail
    refine HIX.out.mono ?_
    rintro e w2 ⟨rfl, hb2⟩
    have H2 := Lib.hid (H.out.next hb2)
    clear hb2
    have hwi := i64_w ((i0 : Int) + 1) (by omega) (by omega)
    have hi1 : ((i0 : Int) == -1) = false := by simp
    go_wp2_with fail
    go_loopg [5, 6] (n - (i0 + 1)) (fun kx a b wr => ∃ (i j : Nat) (dk : Array Stp), kx = n - j ∧ j ≤ n ∧ a = .int .i64 i ∧ b = .int .i64 j ∧ Hid (DvS w0 p d r g cap dk wr) ∧ Hid (DInv d D j i dk))
    case atStart => exact ⟨i0, i0 + 1, D, rfl, by omega, rfl, by go_num, H2, HI0⟩
    case round =>
      clear H2 HI0 hwi hi1 hin
      obtain ⟨i, j, dk, hgk, hj, rfl, rfl, HV, HD⟩ := hrel
      have HGK := Lib.hid hgk; clear hgk
      have hij := HD.out.lt
      by_cases hlt : j < n
      · have hjD : j < D.size := by rw [HZ.out]; exact hlt
        have hjk : j < dk.size := by rw [HD.out.size]; exact hjD
        obtain ⟨c0, c1, c2, c3, c4⟩ := HV.out.blk.cells hjk
        rw [HD.out.high j (Nat.le_refl _)] at c0 c1 c2 c3 c4
        have HK := Lib.hid (fun hb => HD.out.keep hjD hb)
        have HS := Lib.hid (fun hb => HD.out.skip hjD hb)
        have HIK := Lib.hid (show i < dk.size by omega)
        have hic : i < cap := by omega
        clear hjD hjk
        generalize D[j]! = x at *
        have i1 : (0 : Int) ≤ (j : Int) := by omega
        have i2 : (j : Int) < (n : Int) := by omega
        have i3 : (0 : Int) ≤ (i : Int) := by omega
        have i4 : (i : Int) < (n : Int) := by omega
        obtain ⟨xk, xa, xp, xs, xt⟩ := x
        dsimp only at c0 c1 c2 c3 c4
        go_upto_region 8 with (fail)
        have hbx : Below wr.heap.size wr (wr.alloc (.cells #[.int .i64 xk, .int .i64 xa, .int .i64 xp, .int .i64 xs, .int .i64 xt] 39)) := (Below.refl _ _).alloc (Nat.le_refl _) _
        have HV4 := Lib.hid (HV.out.next hbx)
        have HX4 := Lib.hid (Blk.new wr 39 #[.int .i64 xk, .int .i64 xa, .int .i64 xp, .int .i64 xs, .int .i64 xt])
        clear hbx c0 c1 c2 c3 c4 HV
        generalize World.alloc wr _ = w4 at *
        generalize wr.heap.size = px at *
        have o0 := HX4.out.cell 0
        have o1 := HX4.out.cell 1
        have o2 := HX4.out.cell 2
        have o3 := HX4.out.cell 3
        have o4 := HX4.out.cell 4
        simp at o0 o1 o2 o3 o4
        have HDL := Lib.hid (del_any d r ⟨xk, xa, xp, xs, xt⟩ p w4 (HV4.out.var H0.out))
        have HZB : Hid (∀ z, badS d ⟨xk, xa, xp, xs, xt⟩ = z → decide (canE d ⟨xk, xa, xp, xs, xt⟩ ≠ 0) = z) := Lib.hid (fun z hz => hz)
        unfold sv at HDL
        dsimp only at HDL
        cases hz : badS d ⟨xk, xa, xp, xs, xt⟩ with
        | true =>
          rw [HZB.out _ hz] at HDL
          have HD2 := Lib.hid (HS.out hz)
          clear hz
          go_wp2_with fail
          refine HDL.out.mono ?_
          rintro e w5 ⟨rfl, hb5⟩
          have HV5 := Lib.hid (HV4.out.next hb5)
          clear hb5 o0 o1 o2 o3 o4
          go_wp2_with fail
          go_roundg (n - (j + 1))
          case measure => rw [HGK.out]; omega
          case rel => exact ⟨i, j + 1, dk, rfl, hlt, rfl, by go_num, HV5, HD2⟩
        | false =>
          rw [HZB.out _ hz] at HDL
          have HD2 := Lib.hid (HK.out hz)
          clear hz
          go_wp2_with fail
          refine HDL.out.mono ?_
          rintro e w5 ⟨rfl, hb5⟩
          have HV5 := Lib.hid (HV4.out.next hb5)
          have HX5 := Lib.hid (HX4.out.belowB hb5)
          clear hb5 o0 o1 o2 o3 o4 HX4 HV4
          have o0 := HX5.out.cell 0
          have o1 := HX5.out.cell 1
          have o2 := HX5.out.cell 2
          have o3 := HX5.out.cell 3
          have o4 := HX5.out.cell 4
          simp at o0 o1 o2 o3 o4
          obtain ⟨e0, e1, e2, e3, e4⟩ := HV5.out.blk.cells HIK.out
          have f0 := HV5.out.blk.frozen (i*5)
          have f1 := HV5.out.blk.frozen (i*5+1)
          have f2 := HV5.out.blk.frozen (i*5+2)
          have f3 := HV5.out.blk.frozen (i*5+3)
          have f4 := HV5.out.blk.frozen (i*5+4)
          generalize dk[i]! = y at e0 e1 e2 e3 e4
          have HV6 := Lib.hid (HV5.out.store HG.out HP.out HIK.out ⟨xk, xa, xp, xs, xt⟩)
          go_wp2_with fail
          go_roundg (n - (j + 1))
          case measure => rw [HGK.out]; omega
          case rel => exact ⟨i + 1, j + 1, _, rfl, hlt, by go_num, by go_num, HV6, HD2⟩
      · obtain rfl : j = n := by omega
        obtain ⟨n2, hn2⟩ : ∃ n2, j = i + (n2 + 1) := ⟨j - i - 1, by omega⟩
        obtain ⟨vs, hcl⟩ := run_clear_st g (i*5) n2 (cap - i) cap 0 dk wr HV.out.blk (by omega)
        have HN2 : j - i = n2 + 1 := by omega
        rw [← HN2] at hcl
        have HGL : Hid ((goodL d D.toList).length = i ∧ ∀ q, q < (goodL d D.toList).length → (goodL d D.toList)[q]? = some dk[q]!) := Lib.hid (by
          have e : D.toList.take j = D.toList := by rw [← HZ.out, ← Array.length_toList]; exact List.take_length
          have h3 := HD.out.cnt
          have h5 := HD.out.low
          rw [e] at h3 h5
          exact ⟨h3, fun q hq => h5 q (by omega)⟩)
        have HC := Lib.hid (HV.out.cut HG.out HP.out (by rw [HGL.out.1, HD.out.size, HZ.out]; omega) HGL.out.2 vs)
        rw [HGL.out.1] at HC
        clear hn2 HN2
        go_wp2_with fail
        go_ret
        exact ⟨by rw [HGL.out.1]; rfl, HC.out⟩
end Go.Proofs.Ytnaiflokmihmeaa
