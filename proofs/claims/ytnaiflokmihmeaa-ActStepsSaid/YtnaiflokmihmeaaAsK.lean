/- Walk: the closure of StepsOf (reference). -/
import Derived.Test.YtnaiflokmihmeaaAsJ
namespace Go.Proofs.Ytnaiflokmihmeaa
open Go.RowKit
set_option linter.unusedVariables false
set_option linter.unusedSimpArgs false

theorem setCell_grownS (w : World) (p : Addr) (u : Value) : w.grownBy (w.setCell p u) (some p.block) :=
  ⟨by unfold World.setCell; split <;> rfl, by unfold World.setCell; split <;> rfl, by unfold World.setCell; split <;> rfl, by simp, fun i _ hi => Below.heap_setCell w p u i (fun e => hi (by rw [e]))⟩
/-- while StepsOf works: the box p1 with the world, the box p3 with the list so far -/
structure OSt (w0 : World) (X : List (Nat × TypeId × Array Value)) (base p1 p3 : Nat) (d : Wd) (r : Raw) (v : Value) (l : List Stp) (wr : World) : Prop where
  bel : Below w0.heap.size w0 wr
  b1 : Blk wr p1 25 (wcs d.sl r)
  b3 : Blk wr p3 26 #[v]
  row : wr.ownsRow base 39 5 v l.length (cellsS l)
  le : base ≤ wr.heap.size
  ge : w0.heap.size ≤ base
  q1 : p1 < base
  q3 : p3 < base
  g3 : w0.heap.size ≤ p3
  ne : p1 ≠ p3
  ext : ∀ e ∈ X, Blk wr e.1 e.2.1 e.2.2 ∧ 39 ≠ e.2.1 ∧ e.1 ≠ p3
section
variable {w0 wr w' : World} {X : List (Nat × TypeId × Array Value)} {base p1 p3 : Nat} {d : Wd} {r : Raw} {v v' : Value} {l l' : List Stp}
theorem OSt.next (h : OSt w0 X base p1 p3 d r v l wr) (hb : Below wr.heap.size wr w') : OSt w0 X base p1 p3 d r v l w' :=
  ⟨h.bel.trans (hb.mono h.bel.size), h.b1.belowB hb, h.b3.belowB hb, own_below h.row hb, Nat.le_trans h.le hb.size, h.ge, h.q1, h.q3, h.g3, h.ne, fun e he => ⟨(h.ext e he).1.belowB hb, (h.ext e he).2⟩⟩
theorem OSt.put (h : OSt w0 X base p1 p3 d r v l wr) (hb : Below base wr w') (hkp : Keep v wr w') (hr : w'.ownsRow base 39 5 v' l'.length (cellsS l')) : OSt w0 X base p1 p3 d r v' l' (w'.setCell ⟨p3, 0, none⟩ v') := by
  have b1 : Blk w' p1 25 (wcs d.sl r) := (hb.block p1 h.q1).trans h.b1
  have b3 : Blk w' p3 26 #[v] := (hb.block p3 h.q3).trans h.b3
  refine ⟨(h.bel.trans (hb.mono h.ge)).setCell (p := ⟨p3, 0, none⟩) h.g3 _, b1.far (p := ⟨p3, 0, none⟩) h.ne _, b3.set_ 0 v', hr.kept (setCell_grownS w' ⟨p3, 0, none⟩ v') ?_, ?_, h.ge, h.q1, h.q3, h.g3, h.ne, fun e he => ⟨?_, (h.ext e he).2⟩⟩
  · cases hk : v'.ownBlock with
    | none => exact .inl rfl
    | some k =>
      refine .inr fun e => ?_
      have e2 : k = p3 := Option.some.inj e
      have h1 := (hr.lt k hk).1
      have h2 := h.q3
      omega
  · simpa using Nat.le_trans h.le hb.size
  · obtain ⟨h1, h2, h3⟩ := h.ext e he
    have : Blk w' e.1 e.2.1 e.2.2 := (hkp _ h1.lt (own_blk_ne h.row h1 h2)).trans h1
    exact this.far (p := ⟨p3, 0, none⟩) h3 _
theorem OSt.ownNe (h : OSt w0 X base p1 p3 d r v l wr) {g : Nat} (hg : wr.heap.size ≤ g) : some g ≠ v.ownBlock := by
  intro e
  have := (h.row.lt g e.symm).2
  omega
end
theorem extract5 {cs : Array Value} {m : Nat} {y : Stp} (hs : m * 5 + 5 ≤ cs.size) (h : ∀ j, j < 5 → cs[m*5+j]? = (valS y)[j]?) : cs.extract (m*5) (m*5 + 5) = #[.int .i64 y.k, .int .i64 y.a, .int .i64 y.p, .int .i64 y.s, .int .i64 y.t] := by
  refine Array.ext_getElem? fun j => ?_
  rw [Array.getElem?_extract]
  by_cases hj : j < 5
  · rw [if_pos (by omega), h j hj, ← List.getElem?_toArray]; rfl
  · rw [if_neg (by omega), Array.getElem?_eq_none (by simp; omega)]
theorem own_slc {w : World} {base size n : Nat} {e : TypeId} {v : Value} {xs : List Value} (h : w.ownsRow base e size v n xs) : ∃ A c, v = .slice A n c := by
  rcases h.2 with ⟨rfl, h0⟩ | ⟨g, c, cur, rfl, _⟩
  · exact ⟨none, 0, by rw [h0]⟩
  · exact ⟨_, c, rfl⟩
theorem OSt.shape {w0 wr : World} {X : List (Nat × TypeId × Array Value)} {base p1 p3 : Nat} {d : Wd} {r : Raw} {v : Value} {l : List Stp} (h : OSt w0 X base p1 p3 d r v l wr) : ∃ A c, v = .slice A l.length c ∧ l.length ≤ c := by
  rcases h.row.2 with ⟨rfl, h0⟩ | ⟨g, c, cur, rfl, hg, hh, hc, hm, hs, ht⟩
  · exact ⟨none, 0, by rw [h0], by omega⟩
  · exact ⟨_, c, rfl, hc⟩
theorem OSt.rowN {w0 wr : World} {X : List (Nat × TypeId × Array Value)} {base p1 p3 n : Nat} {d : Wd} {r : Raw} {v : Value} {l : List Stp} (h : OSt w0 X base p1 p3 d r v l wr) (hn : l.length = n) : wr.ownsRow base 39 5 v n (cellsS l) := by subst hn; exact h.row
theorem OSt.at {w0 wr : World} {X : List (Nat × TypeId × Array Value)} {base p1 p3 c : Nat} {d : Wd} {r : Raw} {A : Option Addr} {l : List Stp} {m : Nat} {y : Stp} (h : OSt w0 X base p1 p3 d r (.slice A l.length c) l wr) (hy : l[m]? = some y) : ∃ g cs, A = some ⟨g, 0, none⟩ ∧ Blk wr g 39 cs ∧ m * 5 + 5 ≤ cs.size ∧ cs.extract (m*5) (m*5 + 5) = #[.int .i64 y.k, .int .i64 y.a, .int .i64 y.p, .int .i64 y.s, .int .i64 y.t] := by
  have hm := (List.getElem?_eq_some_iff.1 hy).1
  rcases h.row.2 with ⟨_, h0⟩ | ⟨g, c', cur, hv, hg, hh, hc, hm2, hs, ht⟩
  · omega
  · cases hv
    have h5 : m * 5 + 5 ≤ cur.size := by omega
    refine ⟨g, cur, rfl, hh, h5, extract5 h5 fun j hj => ?_⟩
    have hj5 : (valS y)[j]? = some ((valS y)[j]'hj) := List.getElem?_eq_getElem hj
    have := cellsS_get hy hj5
    rw [← ht, List.getElem?_take_of_lt (by omega), Array.getElem?_toList] at this
    rw [this, hj5]
/-- what is behind place k is behind s -/
def Hi (s : Stp) (l : List Stp) (k : Nat) : Prop := ∀ y ∈ l.drop k, scmp s y < 0
theorem Hi.len (s : Stp) (l : List Stp) {n : Nat} (h : l.length = n) : Hi s l n := fun y hy => by rw [List.drop_of_length_le (by omega)] at hy; simp at hy
theorem Hi.down {s : Stp} {l : List Stp} {m : Nat} {y : Stp} (h : Hi s l (m + 1)) (hy : l[m]? = some y) (hlt : scmp s y < 0) : Hi s l m := by
  intro z hz
  rw [List.drop_eq_getElem_cons (List.getElem?_eq_some_iff.1 hy).1, (List.getElem?_eq_some_iff.1 hy).2] at hz
  rcases List.mem_cons.1 hz with rfl | hz
  · exact hlt
  · exact h z hz
/-- what a try has done -/
def TryPost (w0 : World) (X : List (Nat × TypeId × Array Value)) (base p1 p3 : Nat) (d : Wd) (r : Raw) (l : List Stp) (s : Stp) (e : Ending) (w' : World) : Prop :=
  e = .returned (.tuple #[]) ∧ ∃ v' l', OSt w0 X base p1 p3 d r v' l' w' ∧ AscS l' ∧ l'.length ≤ l.length + 1 ∧ ∀ y, y ∈ l' ↔ y ∈ l ∨ (canE d s = 0 ∧ y = s)
theorem try_no {w0 wr : World} {X : List (Nat × TypeId × Array Value)} {base p1 p3 : Nat} {d : Wd} {r : Raw} {v : Value} {l : List Stp} {s : Stp} (h : OSt w0 X base p1 p3 d r v l wr) (ha : AscS l) (hc : canE d s ≠ 0) : TryPost w0 X base p1 p3 d r l s (.returned (.tuple #[])) wr :=
  ⟨rfl, v, l, h, ha, by omega, fun y => ⟨.inl, fun h9 => h9.elim id (fun h9 => absurd h9.1 hc)⟩⟩
theorem try_yes {w0 wr w' : World} {X : List (Nat × TypeId × Array Value)} {base p1 p3 k : Nat} {d : Wd} {r : Raw} {v v' : Value} {l : List Stp} {s : Stp} (h : OSt w0 X base p1 p3 d r v l wr) (ha : AscS l) (hc : canE d s = 0) (hx : s ∉ l) (hk : k ≤ l.length) (hhi : Hi s l k) (hlo : ∀ m y, k = m + 1 → l[m]? = some y → ¬ scmp s y < 0)
    (hb : Below base wr w') (hkp : Keep v wr w') (hr : w'.ownsRow base 39 5 v' (l.length + 1) (cellsS (l.take k ++ s :: l.drop k))) : TryPost w0 X base p1 p3 d r l s (.returned (.tuple #[])) (w'.setCell ⟨p3, 0, none⟩ v') := by
  have hl : (l.take k ++ s :: l.drop k).length = l.length + 1 := len_ins rfl hk
  refine ⟨rfl, v', _, h.put hb hkp (by rw [hl]; exact hr), asc_ins ha hhi hlo hk hx, by omega, fun y => ?_⟩
  rw [mem_ins (p := fun y => y ∈ l) (q := fun y => y ∈ l ∨ (canE d s = 0 ∧ y = s)) (fun _ => Iff.rfl) (fun y => by simp [hc])]
set_option maxHeartbeats 4000000 in
set_option maxRecDepth 20000 in
theorem try_any (w0 : World) (X : List (Nat × TypeId × Array Value)) (d : Wd) (r : Raw) (h0 : WOk w0 r d) (hlo : ∀ x ∈ d.pl, -9223372036854775808 ≤ x) (s : Stp) (base p1 p3 : Nat) (v : Value) (l : List Stp) (w : World) (h : OSt w0 X base p1 p3 d r v l w) (ha : AscS l) (hx : s ∉ l) (hsz : l.length ≤ 1000) :
    Calls Try.prog 94 #[sv s, .pointer (some ⟨p1, 0, none⟩), .pointer (some ⟨p3, 0, none⟩)] w (TryPost w0 X base p1 p3 d r l s) := by
  obtain ⟨A, c, rfl, hnc⟩ := h.shape
  have hbx : Below w.heap.size w (w.alloc (.cells #[.int .i64 s.k, .int .i64 s.a, .int .i64 s.p, .int .i64 s.s, .int .i64 s.t] 39)) := (Below.refl _ _).alloc (Nat.le_refl _) _
  have HC := Lib.hid (stepOf_any d r s _ ((h0.next h.bel).next hbx) hlo)
  have HO1 := Lib.hid (h.next hbx)
  have HX1 := Lib.hid (Blk.new w 39 #[.int .i64 s.k, .int .i64 s.a, .int .i64 s.p, .int .i64 s.s, .int .i64 s.t])
  have HXN := Lib.hid (h.ownNe (Nat.le_refl _))
  have HNO := Lib.hid (fun hc wr (h9 : OSt w0 X base p1 p3 d r (.slice A l.length c) l wr) => try_no (s := s) h9 ha hc)
  have HYES := Lib.hid (fun hc wr w' k v' (h9 : OSt w0 X base p1 p3 d r (.slice A l.length c) l wr) h1 h2 h3 h4 h5 h6 => try_yes (wr := wr) (w' := w') (k := k) (v' := v') h9 ha hc hx h1 h2 h3 h4 h5 h6)
  have HSL := Lib.hid (fun (y : Stp) W => sless_any s y W)
  have HIN := Lib.hid (fun k (hk : k ≤ l.length) W pb (hR : W.ownsRow base 39 5 (.slice A l.length c) l.length (cellsS l)) hbw hX hne => insert_any base l l.length k rfl hk s _ pb W hR hbw hX hne hsz)
  clear hbx h0 hlo h ha hx
  obtain ⟨A1, n1, c1, A2, n2, c2, A3, n3, c3⟩ := r
  obtain ⟨k, a, q, s0, t⟩ := s
  unfold DoPost at HC
  unfold wv wcs sv at HC
  unfold sv at HSL ⊢
  dsimp only at HC HX1 HSL HIN ⊢
  by_cases hce : canE d ⟨k, a, q, s0, t⟩ = 0
  · rw [hce] at HC
    have HY := Lib.hid (HYES.out hce)
    clear HYES HNO hce
    go_enter Try.func94, Try.ntmps94
    go_upto_region 1 with (fail)
    generalize World.alloc w _ = w1 at *
    generalize w.heap.size = px at *
    have k0 := HO1.out.b1.cell 0
    have k1 := HO1.out.b1.cell 1
    have k2 := HO1.out.b1.cell 2
    have k3 := HO1.out.b1.cell 3
    have g0 := HX1.out.cell 0
    have g1 := HX1.out.cell 1
    have g2 := HX1.out.cell 2
    have g3 := HX1.out.cell 3
    have g4 := HX1.out.cell 4
    unfold wcs at k0 k1 k2 k3
    simp at k0 k1 k2 k3 g0 g1 g2 g3 g4
    go_wp2_with fail
    refine HC.out.mono ?_
    rintro e w2 ⟨⟨B1, m1, e1, B2, m2, e2, B3, m3, e3⟩, rfl, _, hb2⟩
    have HO2 := Lib.hid (HO1.out.next hb2)
    have HX2 := Lib.hid (HX1.out.belowB hb2)
    clear hb2 k0 k1 k2 k3 g0 g1 g2 g3 g4 HO1 HX1 HC
    dsimp only
    generalize (doN d ⟨k, a, q, s0, t⟩).sl = sl2
    go_upto_region 3 with (fail)
    have hb3 : Below w2.heap.size w2 (w2.alloc (.cells #[.int .i64 sl2, .slice B1 m1 e1, .slice B2 m2 e2, .slice B3 m3 e3] 25)) := (Below.refl _ _).alloc (Nat.le_refl _) _
    have HO3 := Lib.hid (HO2.out.next hb3)
    have HX3 := Lib.hid (HX2.out.belowB hb3)
    clear hb3 HO2 HX2
    generalize World.alloc w2 _ = w3 at *
    generalize w2.heap.size = pj
    have k0 := HO3.out.b3.cell 0
    simp at k0
    go_wp2_with fail
    clear k0
    generalize hnl : l.length = n at *
    have HNL := Lib.hid hnl; clear hnl
    go_loopg [6] n (fun kx i wr => ∃ z : Nat, kx = z ∧ z ≤ n ∧ i = .int .i64 (z : Int) ∧ Hid (OSt w0 X base p1 p3 d ⟨A1, n1, c1, A2, n2, c2, A3, n3, c3⟩ (.slice A n c) l wr) ∧ Hid (Blk wr px 39 #[.int .i64 k, .int .i64 a, .int .i64 q, .int .i64 s0, .int .i64 t]) ∧ Hid (Hi ⟨k, a, q, s0, t⟩ l z))
    case atStart => exact ⟨n, rfl, Nat.le_refl _, rfl, HO3, HX3, Lib.hid (Hi.len _ _ HNL.out)⟩
    case round =>
      clear HO3 HX3
      obtain ⟨z, hgk, hzn, rfl, HO4, HX4, HHI⟩ := hrel
      have HGK := Lib.hid hgk; clear hgk
      rcases z with _ | m
      · skip
        go_upto_region 4 with (fail)
        refine wp_seq [] (by kernel_rfl) (by kernel_rfl) Reg.fin_no (StR.no (St.start (W := wr))) ?_
        refine Seq.pure rfl rfl (by intro wz; go_simp; try first | with_reducible rfl | rfl) ?_
        simp only [Act.put, List.setIfInBounds_toArray, List.set_cons_zero, List.set_cons_succ]
        refine Seq.pure rfl rfl (by intro wz; go_simp; try first | with_reducible rfl | rfl) ?_
        simp only [Act.put, List.setIfInBounds_toArray, List.set_cons_zero, List.set_cons_succ]
        refine Seq.pure rfl rfl (by intro wz; go_simp; try first | with_reducible rfl | rfl) ?_
        simp only [Act.put, List.setIfInBounds_toArray, List.set_cons_zero, List.set_cons_succ]
        refine Seq.nw (by kernel_rfl) ?_
        simp only [Act.put, List.setIfInBounds_toArray, List.set_cons_zero, List.set_cons_succ]
        refine Seq.nw (by kernel_rfl) ?_
        simp only [Act.put, List.setIfInBounds_toArray, List.set_cons_zero, List.set_cons_succ]
        refine Seq.nw (by kernel_rfl) ?_
        simp only [Act.put, List.setIfInBounds_toArray, List.set_cons_zero, List.set_cons_succ]
        refine Seq.nw (by kernel_rfl) ?_
        simp only [Act.put, List.setIfInBounds_toArray, List.set_cons_zero, List.set_cons_succ]
        refine Seq.nw (by kernel_rfl) ?_
        simp only [Act.put, List.setIfInBounds_toArray, List.set_cons_zero, List.set_cons_succ]
        refine Seq.nw (by kernel_rfl) ?_
        simp only [Act.put, List.setIfInBounds_toArray, List.set_cons_zero, List.set_cons_succ]
        refine Seq.nw (by kernel_rfl) ?_
        simp only [Act.put, List.setIfInBounds_toArray, List.set_cons_zero, List.set_cons_succ]
        refine Seq.pure rfl rfl (by intro wz; go_simp; try first | with_reducible rfl | rfl) ?_
        simp only [Act.put, List.setIfInBounds_toArray, List.set_cons_zero, List.set_cons_succ]
        refine Seq.done fun ws hws => ?_
        have HO5 := Lib.hid (HO4.out.next hws.st.below)
        have HX5 := Lib.hid (HX4.out.belowB hws.st.below)
        clear hws HO4 HX4
        have k0 := HO5.out.b3.cell 0
        have g0 := HX5.out.cell 0
        have g1 := HX5.out.cell 1
        have g2 := HX5.out.cell 2
        have g3 := HX5.out.cell 3
        have g4 := HX5.out.cell 4
        simp at k0 g0 g1 g2 g3 g4
        have hbn : Below ws.heap.size ws (ws.alloc (.cells #[.int .i64 k, .int .i64 a, .int .i64 q, .int .i64 s0, .int .i64 t] 39)) := (Below.refl _ _).alloc (Nat.le_refl _) _
        have HOn := Lib.hid (HO5.out.next hbn)
        have HXn := Lib.hid (Blk.new ws 39 #[.int .i64 k, .int .i64 a, .int .i64 q, .int .i64 s0, .int .i64 t])
        have HNn := Lib.hid (HO5.out.ownNe (Nat.le_refl _))
        have HI9 := Lib.hid (HIN.out 0 (Nat.zero_le _) _ _ (HOn.out.rowN HNL.out) HOn.out.le HXn.out HNn.out)
        clear hbn
        go_wp2_with fail
        refine HI9.out.mono ?_
        rintro e w9 ⟨v9, rfl, hr9, hb9, hk9⟩
        obtain ⟨A9, c9, rfl⟩ := own_slc hr9
        have HF9 := Lib.hid (HY.out _ _ 0 _ HOn.out (Nat.zero_le _) HHI.out (fun m y hm => by omega) hb9 hk9 hr9)
        have hb3 : Blk w9 p3 _ _ := (hb9.block p3 HOn.out.q3).trans HOn.out.b3
        have kk0 := hb3.cell 0
        have ff0 := hb3.frozen 0
        simp at kk0
        clear hr9 hb9 hk9 hb3 k0 g0 g1 g2 g3 g4
        go_wp2_with fail
        go_end0
        exact HF9.out
      · have hmn : m < l.length := by rw [HNL.out]; omega
        obtain ⟨y, hy⟩ : ∃ y, l[m]? = some y := ⟨l[m], List.getElem?_eq_getElem hmn⟩
        obtain ⟨g, cs, rfl, hblk, hfive, hext⟩ := OSt.at (c := c) (by rw [HNL.out]; exact HO4.out) hy
        have HBK := Lib.hid hblk
        have HFV := Lib.hid hfive
        have HEX := Lib.hid hext
        have HYM := Lib.hid hy
        have HSY := Lib.hid (HSL.out y)
        have HZB : Hid (∀ z, decide (scmp ⟨k, a, q, s0, t⟩ y < 0) = z → (scmp ⟨k, a, q, s0, t⟩ y < 0) = (z = true)) := Lib.hid (fun z hz => by rw [← hz]; simp)
        clear hblk hfive hext hy
        have m1 : (0 : Int) ≤ (m : Int) := by omega
        have m2 : (m : Int) < (n : Int) := by omega
        have m3 : IntKind.i64.wrap (m : Int) = (m : Int) := i64_w _ (by omega) (by omega)
        have m4 : (0 : Int) < (m : Int) + 1 := by omega
        obtain ⟨yk, ya, yp, ys, yt⟩ := y
        dsimp only at HEX HSY
        generalize hdz : decide (scmp ⟨k, a, q, s0, t⟩ ⟨yk, ya, yp, ys, yt⟩ < 0) = dz at HSY
        have HDZ := Lib.hid (HZB.out dz hdz)
        clear hdz HZB
        go_upto_region 4 with (fail)
        refine wp_seq [] (by kernel_rfl) (by kernel_rfl) Reg.fin_no (StR.no (St.start (W := wr))) ?_
        refine Seq.pure rfl rfl (by intro wz; go_simp; try first | with_reducible rfl | rfl) ?_
        simp only [Act.put, List.setIfInBounds_toArray, List.set_cons_zero, List.set_cons_succ]
        refine Seq.pure (v := .bool true) rfl rfl (by intro wz; go_simp; try first | with_reducible rfl | rfl) ?_
        simp only [Act.put, List.setIfInBounds_toArray, List.set_cons_zero, List.set_cons_succ]
        refine Seq.pure rfl rfl (by intro wz; go_simp; try first | with_reducible rfl | rfl) ?_
        simp only [Act.put, List.setIfInBounds_toArray, List.set_cons_zero, List.set_cons_succ]
        refine Seq.loadAtF rfl rfl rfl rfl HX4.out (f := 0) (n := 5) (cs' := #[.int .i64 k, .int .i64 a, .int .i64 q, .int .i64 s0, .int .i64 t]) (by simp) (by kernel_rfl) rfl ?_
        simp only [Act.put, List.setIfInBounds_toArray, List.set_cons_zero, List.set_cons_succ]
        refine Seq.loadCellF rfl rfl rfl rfl HO4.out.b3 (f := 0) rfl (by kernel_rfl) rfl ?_
        simp only [Act.put, List.setIfInBounds_toArray, List.set_cons_zero, List.set_cons_succ]
        refine Seq.pure rfl rfl (by intro wz; go_simp; try first | with_reducible rfl | rfl) ?_
        simp only [Act.put, List.setIfInBounds_toArray, List.set_cons_zero, List.set_cons_succ]
        refine Seq.pure (v := .int .i64 (m : Int)) rfl rfl (by intro wz; go_simp; try first | with_reducible rfl | rfl) ?_
        simp only [Act.put, List.setIfInBounds_toArray, List.set_cons_zero, List.set_cons_succ]
        refine Seq.pure (v := .pointer (some ⟨g, m * 5, none⟩)) rfl rfl (by intro wz; go_simp; try first | with_reducible rfl | rfl) ?_
        simp only [Act.put, List.setIfInBounds_toArray, List.set_cons_zero, List.set_cons_succ]
        refine Seq.loadAtF rfl rfl rfl rfl HBK.out (f := m * 5) (n := 5) HFV.out (by kernel_rfl) HEX.out ?_
        simp only [Act.put, List.setIfInBounds_toArray, List.set_cons_zero, List.set_cons_succ]
        refine Seq.call rfl rfl rfl rfl (by kernel_rfl) (fun w h => HSY.out w) ?_
        simp only [Act.put, List.setIfInBounds_toArray, List.set_cons_zero, List.set_cons_succ]
        refine Seq.pure (v := .bool dz) rfl rfl (by intro wz; go_simp; try first | with_reducible rfl | rfl) ?_
        simp only [Act.put, List.setIfInBounds_toArray, List.set_cons_zero, List.set_cons_succ]
        refine Seq.done fun ws hws => ?_
        have HO5 := Lib.hid (HO4.out.next hws.st.below)
        have HX5 := Lib.hid (HX4.out.belowB hws.st.below)
        clear hws HO4 HX4
        cases dz with
        | true =>
          have HHJ := Lib.hid (HHI.out.down HYM.out (HDZ.out.symm ▸ rfl))
          go_wp2_with fail
          go_roundg m
          case measure => rw [HGK.out]; omega
          case rel => exact ⟨m, rfl, by omega, by go_num, HO5, HX5, HHJ⟩
        | false =>
          have HLO : Hid (∀ m' y', m + 1 = m' + 1 → l[m']? = some y' → ¬ scmp ⟨k, a, q, s0, t⟩ y' < 0) := Lib.hid (fun m' y' hm hy' => by
            have hm2 : m = m' := by omega
            subst hm2
            have hyy := hy'.symm.trans HYM.out
            injection hyy with hyy
            subst hyy
            rw [HDZ.out]
            simp)
          have HKN := Lib.hid hzn
          have k0 := HO5.out.b3.cell 0
          have g0 := HX5.out.cell 0
          have g1 := HX5.out.cell 1
          have g2 := HX5.out.cell 2
          have g3 := HX5.out.cell 3
          have g4 := HX5.out.cell 4
          simp at k0 g0 g1 g2 g3 g4
          have hbn : Below ws.heap.size ws (ws.alloc (.cells #[.int .i64 k, .int .i64 a, .int .i64 q, .int .i64 s0, .int .i64 t] 39)) := (Below.refl _ _).alloc (Nat.le_refl _) _
          have HOn := Lib.hid (HO5.out.next hbn)
          have HXn := Lib.hid (Blk.new ws 39 #[.int .i64 k, .int .i64 a, .int .i64 q, .int .i64 s0, .int .i64 t])
          have HNn := Lib.hid (HO5.out.ownNe (Nat.le_refl _))
          have HI9 := Lib.hid (HIN.out (m + 1) (by first | exact HKN.out | (rw [HNL.out]; exact HKN.out)) _ _ (HOn.out.rowN HNL.out) HOn.out.le HXn.out HNn.out)
          clear hbn
          go_wp2_with fail
          refine HI9.out.mono ?_
          rintro e w9 ⟨v9, rfl, hr9, hb9, hk9⟩
          obtain ⟨A9, c9, rfl⟩ := own_slc hr9
          have HF9 := Lib.hid (HY.out _ _ (m + 1) _ HOn.out (by first | exact HKN.out | (rw [HNL.out]; exact HKN.out)) HHI.out HLO.out hb9 hk9 hr9)
          have hb3 : Blk w9 p3 _ _ := (hb9.block p3 HOn.out.q3).trans HOn.out.b3
          have kk0 := hb3.cell 0
          have ff0 := hb3.frozen 0
          simp at kk0
          clear hr9 hb9 hk9 hb3 k0 g0 g1 g2 g3 g4
          go_wp2_with fail
          go_end0
          exact HF9.out
  · have HN := Lib.hid (HNO.out hce)
    clear HYES HNO HIN HSL HXN
    have hne : (canE d ⟨k, a, q, s0, t⟩ == 0) = false := by simp [hce]
    clear hce
    generalize canE d ⟨k, a, q, s0, t⟩ = ce at *
    go_enter Try.func94, Try.ntmps94
    go_upto_region 1 with (fail)
    generalize World.alloc w _ = w1 at *
    generalize w.heap.size = px at *
    have k0 := HO1.out.b1.cell 0
    have k1 := HO1.out.b1.cell 1
    have k2 := HO1.out.b1.cell 2
    have k3 := HO1.out.b1.cell 3
    have g0 := HX1.out.cell 0
    have g1 := HX1.out.cell 1
    have g2 := HX1.out.cell 2
    have g3 := HX1.out.cell 3
    have g4 := HX1.out.cell 4
    unfold wcs at k0 k1 k2 k3
    simp at k0 k1 k2 k3 g0 g1 g2 g3 g4
    go_wp2_with fail
    refine HC.out.mono ?_
    rintro e w2 ⟨⟨B1, m1, e1, B2, m2, e2, B3, m3, e3⟩, rfl, _, hb2⟩
    have HO2 := Lib.hid (HO1.out.next hb2)
    have HX2 := Lib.hid (HX1.out.belowB hb2)
    clear hb2 k0 k1 k2 k3 g0 g1 g2 g3 g4 HO1 HX1 HC
    dsimp only
    generalize (doN d ⟨k, a, q, s0, t⟩).sl = sl2
    have hb3 : Below w2.heap.size w2 (w2.alloc (.cells #[.int .i64 sl2, .slice B1 m1 e1, .slice B2 m2 e2, .slice B3 m3 e3] 25)) := (Below.refl _ _).alloc (Nat.le_refl _) _
    have HO3 := Lib.hid (HO2.out.next hb3)
    clear hb3 HO2 HX2
    go_wp2_with fail
    go_end0
    exact HN.out _ HO3.out
end Go.Proofs.Ytnaiflokmihmeaa
