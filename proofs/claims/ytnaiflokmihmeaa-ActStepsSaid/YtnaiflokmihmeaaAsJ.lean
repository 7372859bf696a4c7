/- Walk: slices.Insert at steps, one element. -/
import Derived.Test.YtnaiflokmihmeaaAsI
namespace Go.Proofs.Ytnaiflokmihmeaa
open Go.RowKit Go.Lib
set_option linter.unusedVariables false
set_option linter.unusedSimpArgs false

set_option maxHeartbeats 4000000 in
set_option maxRecDepth 100000 in
/-- behind the last one -/
theorem insert_end (base : Nat) (l : List Stp) (n : Nat) (hn : l.length = n) (x : Stp) (v : Value) (pb : Nat) (w : World) (hR : w.ownsRow base 39 5 v n (cellsS l)) (hbw : base ≤ w.heap.size) (hX : Blk w pb 39 #[.int .i64 x.k, .int .i64 x.a, .int .i64 x.p, .int .i64 x.s, .int .i64 x.t]) (hsz : n ≤ 1000) :
    Calls Try.prog 95 #[v, .int .i64 n, .slice (some ⟨pb, 0, none⟩) 1 1] w fun e w' => ∃ v', e = .returned v' ∧ w'.ownsRow base 39 5 v' (n + 1) (cellsS (l ++ [x])) ∧ Below base w w' ∧ Keep v w w' := by
  have HX := Lib.hid hX
  have HR := Lib.hid hR
  have HE : Hid (cellsS (l ++ [x]) = cellsS l ++ (#[.int .i64 x.k, .int .i64 x.a, .int .i64 x.p, .int .i64 x.s, .int .i64 x.t] : Array Value).toList) := Lib.hid (by simp [cellsS, valS])
  clear hX
  rcases hR.2 with ⟨rfl, rfl⟩ | ⟨g, c, cur, rfl, hg, hh, hc, hm, hs, ht⟩
  · clear hR
    go_enter Try.func95, Try.ntmps95
    go_wp2_with (at_builtin; refine wpList_append_blk rfl _ _ _ rfl Try.underlying26 infoT rfl rfl HR.out hbw HX.out rfl rfl rfl (one_t x) (by omega) ?_; intro v' w6 hR6 hb6 hk6)
    go_ret
    exact ⟨_, rfl, by rw [HE.out]; exact hR6, hb6, hk6⟩
  · clear hR hh hs ht hg
    unfold maxLen at hm
    go_enter Try.func95, Try.ntmps95
    go_wp2_with (at_builtin; refine wpList_append_blk rfl _ _ _ rfl Try.underlying26 infoT rfl rfl HR.out hbw HX.out rfl rfl rfl (one_t x) (by omega) ?_; intro v' w6 hR6 hb6 hk6)
    all_goals go_ret
    all_goals exact ⟨_, rfl, by rw [HE.out]; exact hR6, hb6, hk6⟩
set_option maxHeartbeats 4000000 in
set_option maxRecDepth 100000 in
/-- in place -/
theorem insert_room (base : Nat) (l : List Stp) (n k g c : Nat) (hn : l.length = n) (hk : k < n) (x : Stp) (pb : Nat) (w : World) (hR : w.ownsRow base 39 5 (.slice (some ⟨g, 0, none⟩) n c) n (cellsS l)) (hbw : base ≤ w.heap.size) (hX : Blk w pb 39 #[.int .i64 x.k, .int .i64 x.a, .int .i64 x.p, .int .i64 x.s, .int .i64 x.t]) (hne : pb ≠ g) (hsz : n ≤ 1000) (hroom : n + 1 ≤ c) :
    Calls Try.prog 95 #[.slice (some ⟨g, 0, none⟩) n c, .int .i64 k, .slice (some ⟨pb, 0, none⟩) 1 1] w fun e w' => ∃ v', e = .returned v' ∧ w'.ownsRow base 39 5 v' (n + 1) (cellsS (l.take k ++ x :: l.drop k)) ∧ Below base w w' ∧ Keep (.slice (some ⟨g, 0, none⟩) n c) w w' := by
  rcases hR.2 with ⟨h9, _⟩ | ⟨g', c', cur, hv, hg, hh, hc, hm, hs, ht⟩
  · cases h9
  have hv2 := hv
  cases hv
  have hB : Blk w g 39 cur := hh
  have hov : ∀ o lb cb, (callFunc 110 #[.slice (some ⟨pb, 0, none⟩) 1 1, .slice (some ⟨g, o, none⟩) lb cb]).run Try.prog w = .ok (.value (.bool false)) w := fun o lb cb => overlaps_st w pb 1 1 g o lb cb _ _ _ _ hne hX hB (by rw [hs]; omega)
  have hdl : (cellsS (l.drop k)).length = (n - k) * 5 := by rw [cellsS_length, List.length_drop, hn]
  have hone : ∀ (ss : List Stp), ∀ v ∈ cellsS ss, v.oneCell' = true := by
    intro ss v hv
    unfold cellsS at hv
    obtain ⟨s, _, hs⟩ := List.mem_flatMap.1 hv
    simp [valS] at hs
    rcases hs with rfl | rfl | rfl | rfl | rfl <;> rfl
  have hcur : ∀ q, q < n * 5 → cur[q]? = (cellsS l)[q]? := fun q hq => by rw [← ht, List.getElem?_take_of_lt hq, Array.getElem?_toList]
  have hsome : ∀ q, q < c * 5 → (w.cell? ⟨g, q, none⟩).isSome = true := fun q hq => by rw [hB.cell, Array.getElem?_eq_getElem (by omega)]; rfl
  have hcpA : ∀ ty dc sc, (Builtin.copy_ #[26, 26] ty #[.slice (some ⟨g, (k + 1) * 5, none⟩) (n - k) dc, .slice (some ⟨g, k * 5, none⟩) (n + 1 - k) sc]).run Try.prog w.drew = .ok (goInt ((n - k : Nat) : Int)) (w.drew.setCells g ((k + 1) * 5) (cellsS (l.drop k))) := fun ty dc sc =>
    run_copy_st w.drew ty g ((k + 1) * 5) (n - k) dc ⟨g, k * 5, none⟩ (n + 1 - k) sc (n - k) (cellsS (l.drop k)) (by simp only [Nat.min_def]; split <;> omega) hdl
      (fun j v hj => by
        rw [Addr.add_lit]
        show w.cell? _ = _
        have hj' : j < (n - k) * 5 := by rw [← hdl]; exact (List.getElem?_eq_some_iff.1 hj).1
        rw [hB.cell, hcur _ (by omega), ← hj, ← cellsS_drop, List.getElem?_drop])
      (fun j hj => hsome _ (by rw [hdl] at hj; omega)) (fun j hj => hB.frozen _) (hone _)
  obtain ⟨cs1, hB1, hs1, hl1, hm1, hh1⟩ := blk_put (g := g) (t := 39) (cellsS (l.drop k)) ((k + 1) * 5) w.drew cur hB (by rw [hdl, hs]; omega)
  obtain ⟨cs2, hB2, hs2, hl2, hm2, hh2⟩ := blk_put (g := g) (t := 39) (valS x) (k * 5) _ cs1 hB1 (by rw [hs1, hs]; simp [valS]; omega)
  have hX1 : Blk (w.drew.setCells g ((k + 1) * 5) (cellsS (l.drop k))) pb 39 #[.int .i64 x.k, .int .i64 x.a, .int .i64 x.p, .int .i64 x.s, .int .i64 x.t] := far_setCells hne _ _ _ hX
  obtain ⟨W1, hW1⟩ : ∃ W1, W1 = w.drew.setCells g ((k + 1) * 5) (cellsS (l.drop k)) := ⟨_, rfl⟩
  rw [← hW1] at hcpA hB1 hB2 hX1
  have hcpB : ∀ ty dc, (Builtin.copy_ #[26, 26] ty #[.slice (some ⟨g, k * 5, none⟩) (n + 1 - k) dc, .slice (some ⟨pb, 0, none⟩) 1 1]).run Try.prog W1 = .ok (goInt 1) (W1.setCells g (k * 5) (valS x)) := fun ty dc =>
    run_copy_st W1 ty g (k * 5) (n + 1 - k) dc ⟨pb, 0, none⟩ 1 1 1 (valS x) (by simp only [Nat.min_def]; split <;> omega) rfl
      (fun j v hj => by
        rw [Addr.add_lit, hX1.cell, Nat.zero_add]
        rw [← hj, ← Array.getElem?_toList]; rfl)
      (fun j hj => by rw [hB1.cell, Array.getElem?_eq_getElem (by have h5 : (valS x).length = 5 := rfl; rw [hs1, hs]; omega)]; rfl) (fun j hj => hB1.frozen _) (by
        intro v hv
        have := hone [x] v
        simp [cellsS] at this
        exact this hv)
  have HO := Lib.hid (own_ins (base := base) (l := l) (x := x) (k := k) (n := n) hB2 hg hn (by omega) hroom hm (by rw [hs2, hs1, hs]) (fun q hq => by rw [hl2 q hq, hl1 q (by omega), hcur q (by omega)]) (fun j hj => hm2 j hj) (fun j hj => by
    have h5 : (valS x).length = 5 := rfl
    rw [hh2 _ (by omega), hm1 j (by omega)]))
  have HBl : Hid (Below base w (W1.setCells g (k * 5) (valS x))) := Lib.hid (by
    rw [hW1]
    have e1 : Below base w w.drew := (Below.refl base w).drew
    exact e1.trans ((below_setCells hg _ _ _).trans (below_setCells hg _ _ _)))
  have HKp : Hid (Keep (.slice (some ⟨g, 0, none⟩) n c) w (W1.setCells g (k * 5) (valS x))) := Lib.hid (by
    rw [hW1]
    have e0 : Keep (.slice (some ⟨g, 0, none⟩) n c) w w.drew := fun _ _ _ => rfl
    exact e0.cell.cell)
  have i1 : (0 : Int) ≤ (k : Int) := by omega
  have i2 : ¬ ((k : Int) = (n : Int)) := by omega
  have i5 : (0 : Int) ≤ (k : Int) + 1 := by omega
  have i6 : (k : Int) ≤ (n : Int) + 1 := by omega
  have mixed : Try.prog.follows Departure.mixedOrders = true := by kernel_rfl
  have i3 : (k : Int) ≤ (n : Int) := by omega
  have i4 : ¬ ((c : Int) < (n : Int) + 1) := by omega
  have w1 : IntKind.i64.wrap ((n : Int) + 1) = (n : Int) + 1 := i64_w _ (by omega) (by omega)
  have w2 : IntKind.i64.wrap ((k : Int) + 1) = (k : Int) + 1 := i64_w _ (by omega) (by omega)
  have t1 : ((n : Int) + 1).toNat = n + 1 := by omega
  have t2 : ((k : Int) + 1).toNat = k + 1 := by omega
  have c1 : ¬ (c = k) := by omega
  have c2 : ¬ (c = k + 1) := by omega
  unfold maxLen at hm
  clear hW1 hB hdl hone hcur hsome hl1 hm1 hh1 hl2 hm2 hh2 hB1 hB2 hX1 hs1 hs2 hs hh ht hg hR hX hv2
  go_enter Try.func95, Try.ntmps95
  go_wp2_with (simp only [hov])
  go_region_law_o (refine step_copy_runI rfl _ _ 26 26 rfl (.slice (some ⟨g, (k + 1) * 5, none⟩) (n - k) (c - (k + 1))) (.slice (some ⟨g, k * 5, none⟩) (n + 1 - k) (c - k)) (by simp [Act.eval, Act.put]) (by simp [Act.eval, Act.put]) (hcpA 3 (c - (k + 1)) (c - k)) ?_)
  go_wp2_with (at_builtin; refine wpList_copy_runI _ rfl _ _ 26 26 rfl _ _ rfl rfl (hcpB _ _) ?_)
  go_ret
  exact ⟨_, rfl, HO.out, HBl.out, HKp.out⟩
theorem blk_drew {w : World} {g : Nat} {t : TypeId} {cs : Array Value} (h : Blk w g t cs) : Blk w.drew g t cs := h
set_option maxHeartbeats 4000000 in
set_option maxRecDepth 100000 in
/-- into a new row -/
theorem insert_grow (base : Nat) (l : List Stp) (n k g c : Nat) (hn : l.length = n) (hk : k < n) (x : Stp) (pb : Nat) (w : World) (hR : w.ownsRow base 39 5 (.slice (some ⟨g, 0, none⟩) n c) n (cellsS l)) (hbw : base ≤ w.heap.size) (hX : Blk w pb 39 #[.int .i64 x.k, .int .i64 x.a, .int .i64 x.p, .int .i64 x.s, .int .i64 x.t]) (hsz : n ≤ 1000) (hroom : c < n + 1) :
    Calls Try.prog 95 #[.slice (some ⟨g, 0, none⟩) n c, .int .i64 k, .slice (some ⟨pb, 0, none⟩) 1 1] w fun e w' => ∃ v', e = .returned v' ∧ w'.ownsRow base 39 5 v' (n + 1) (cellsS (l.take k ++ x :: l.drop k)) ∧ Below base w w' ∧ Keep (.slice (some ⟨g, 0, none⟩) n c) w w' := by
  rcases hR.2 with ⟨h9, _⟩ | ⟨g', c', cur, hv, hg, hh, hc, hm, hs, ht⟩
  · cases h9
  have hv2 := hv
  cases hv
  have hB : Blk w g 39 cur := hh
  have hdl : (cellsS (l.drop k)).length = (n - k) * 5 := by rw [cellsS_length, List.length_drop, hn]
  have htl : (cellsS (l.take k)).length = k * 5 := by rw [cellsS_length, List.length_take]; omega
  have hone : ∀ (ss : List Stp), ∀ v ∈ cellsS ss, v.oneCell' = true := by
    intro ss v hv
    unfold cellsS at hv
    obtain ⟨s, _, hs⟩ := List.mem_flatMap.1 hv
    simp [valS] at hs
    rcases hs with rfl | rfl | rfl | rfl | rfl <;> rfl
  have hcur : ∀ q, q < n * 5 → cur[q]? = (cellsS l)[q]? := fun q hq => by rw [← ht, List.getElem?_take_of_lt hq, Array.getElem?_toList]
  obtain ⟨i0, hi0, hz0, hzs, hzb⟩ := info_parts infoT
  have hik : k + (n + 1 - k) = n + 1 := by omega
  have hkk : (n : Int) + 1 - (k : Int) = ((n + 1 - k : Nat) : Int) := by omega
  have hold : (Builtin.firstCells i0.size k (.slice (some ⟨g, 0, none⟩) k c)).run Try.prog w.drew = .ok (cellsS (l.take k)).toArray w.drew := by
    rw [hzs]
    exact run_firstCells_some w.drew 5 k ⟨g, 0, none⟩ k c (cellsS (l.take k)) htl (fun j v hj => by
      rw [Addr.add_lit]
      show w.cell? _ = _
      have hj' : j < k * 5 := by rw [← htl]; exact (List.getElem?_eq_some_iff.1 hj).1
      rw [hB.cell, Nat.zero_add, hcur _ (by omega), ← hj, ← cellsS_take, List.getElem?_take, if_pos hj'])
  have hrz : ∀ ty, (Builtin.append_ #[26, 3] ty #[.slice (some ⟨g, 0, none⟩) k c, .int .i64 ((n : Int) + 1 - (k : Int))]).run Try.prog w =
      .ok (.slice (some ⟨w.heap.size, 0, none⟩) (n + 1) (grownCap w (n + 1) c 39)) (w.drew.alloc (.cells ((cellsS (l.take k)).toArray ++ Builtin.zeroCells (Value.agg #[.int .i64 0, .int .i64 0, .int .i64 0, .int .i64 0, .int .i64 0]).cells (n + 1 - k) ++ Builtin.zeroCells (Value.agg #[.int .i64 0, .int .i64 0, .int .i64 0, .int .i64 0, .int .i64 0]).cells (grownCap w (n + 1) c 39 - (n + 1))) 39)) := fun ty => by
    have h := Lib.run_append_grow_zeros w 26 3 ty 39 i0 _ .i64 .i64 Try.underlying26 Try.underlying3 hi0 hz0 (some ⟨g, 0, none⟩) k c (cellsS (l.take k)) hold (n + 1 - k) (by omega) (by omega) (by omega) (by omega) (by rw [hzb]; omega) (by rw [hzb, hik]; exact growslice_fits hroom (by omega))
    rw [hik] at h
    rw [hkk]
    exact h
  obtain ⟨G, hG⟩ : ∃ G, G = grownCap w (n + 1) c 39 := ⟨_, rfl⟩
  have hGn : n + 1 ≤ G := by rw [hG]; exact grownCap_ge w _ _ _
  have hGm : G ≤ maxLen := by
    rw [hG]
    exact grownCap_le_maxLen w (n + 1) c 39 (by unfold maxLen; omega)
  obtain ⟨ROW, hROW⟩ : ∃ ROW : Array Value, ROW = (cellsS (l.take k)).toArray ++ Builtin.zeroCells (Value.agg #[.int .i64 0, .int .i64 0, .int .i64 0, .int .i64 0, .int .i64 0]).cells (n + 1 - k) ++ Builtin.zeroCells (Value.agg #[.int .i64 0, .int .i64 0, .int .i64 0, .int .i64 0, .int .i64 0]).cells (G - (n + 1)) := ⟨_, rfl⟩
  rw [← hG, ← hROW] at hrz
  have hRl : ROW.size = G * 5 := by
    rw [hROW]
    simp [Builtin.zeroCells, Value.cells, htl]
    omega
  have hRk : ∀ q, q < k * 5 → ROW[q]? = (cellsS l)[q]? := fun q hq => by
    rw [hROW, Array.append_assoc, Array.getElem?_append_left (by simp [htl]; omega)]
    rw [List.getElem?_toArray, ← cellsS_take, List.getElem?_take, if_pos hq]
  have hgw : g < w.heap.size := hB.lt
  have hpw : pb < w.heap.size := hX.lt
  have hN : Blk (w.alloc (.cells ROW 39)) w.heap.size 39 ROW := Blk.new w 39 ROW
  have hbA : Below w.heap.size w (w.alloc (.cells ROW 39)) := (Below.refl _ _).alloc (Nat.le_refl _) _
  have hB1 : Blk (w.alloc (.cells ROW 39)) g 39 cur := hB.belowB hbA
  have hX1 : Blk (w.alloc (.cells ROW 39)) pb 39 #[.int .i64 x.k, .int .i64 x.a, .int .i64 x.p, .int .i64 x.s, .int .i64 x.t] := hX.belowB hbA
  have h5 : (valS x).length = 5 := rfl
  have hcpA : ∀ ty dc, (Builtin.copy_ #[26, 26] ty #[.slice (some ⟨w.heap.size, k * 5, none⟩) (n + 1 - k) dc, .slice (some ⟨pb, 0, none⟩) 1 1]).run Try.prog (w.alloc (.cells ROW 39)).drew = .ok (goInt 1) ((w.alloc (.cells ROW 39)).drew.setCells w.heap.size (k * 5) (valS x)) := fun ty dc =>
    run_copy_st _ ty w.heap.size (k * 5) (n + 1 - k) dc ⟨pb, 0, none⟩ 1 1 1 (valS x) (by simp only [Nat.min_def]; split <;> omega) rfl
      (fun j v hj => by
        rw [Addr.add_lit, Nat.zero_add]
        show (w.alloc (.cells ROW 39)).cell? _ = _
        rw [hX1.cell, ← hj, ← Array.getElem?_toList]; rfl)
      (fun j hj => by
        show ((w.alloc (.cells ROW 39)).cell? _).isSome = true
        rw [hN.cell, Array.getElem?_eq_getElem (by rw [hRl]; omega)]; rfl) (fun j hj => hN.frozen _) (by
        intro v hv
        have := hone [x] v
        simp [cellsS] at this
        exact this hv)
  obtain ⟨cs1, hN1, hs1, hl1, hm1, hh1⟩ := blk_put (g := w.heap.size) (t := 39) (valS x) (k * 5) (w.alloc (.cells ROW 39)).drew ROW (blk_drew hN) (by rw [hRl]; omega)
  obtain ⟨cs2, hN2, hs2, hl2, hm2, hh2⟩ := blk_put (g := w.heap.size) (t := 39) (cellsS (l.drop k)) ((k + 1) * 5) ((w.alloc (.cells ROW 39)).drew.setCells w.heap.size (k * 5) (valS x)).drew cs1 (blk_drew hN1) (by rw [hs1, hRl, hdl]; omega)
  have hB2 : Blk ((w.alloc (.cells ROW 39)).drew.setCells w.heap.size (k * 5) (valS x)).drew g 39 cur := blk_drew (far_setCells (by omega) _ _ _ (blk_drew hB1))
  have hcpB : ∀ ty dc sc, (Builtin.copy_ #[26, 26] ty #[.slice (some ⟨w.heap.size, (k + 1) * 5, none⟩) (n - k) dc, .slice (some ⟨g, k * 5, none⟩) (n - k) sc]).run Try.prog ((w.alloc (.cells ROW 39)).drew.setCells w.heap.size (k * 5) (valS x)).drew = .ok (goInt ((n - k : Nat) : Int)) (((w.alloc (.cells ROW 39)).drew.setCells w.heap.size (k * 5) (valS x)).drew.setCells w.heap.size ((k + 1) * 5) (cellsS (l.drop k))) := fun ty dc sc =>
    run_copy_st _ ty w.heap.size ((k + 1) * 5) (n - k) dc ⟨g, k * 5, none⟩ (n - k) sc (n - k) (cellsS (l.drop k)) (by simp only [Nat.min_def]; split <;> omega) hdl
      (fun j v hj => by
        rw [Addr.add_lit]
        have hj' : j < (n - k) * 5 := by rw [← hdl]; exact (List.getElem?_eq_some_iff.1 hj).1
        rw [hB2.cell, hcur _ (by omega), ← hj, ← cellsS_drop, List.getElem?_drop])
      (fun j hj => by
        have hc1 : (((w.alloc (.cells ROW 39)).drew.setCells w.heap.size (k * 5) (valS x)).drew.cell? ⟨w.heap.size, (k + 1) * 5 + j, none⟩) = cs1[(k + 1) * 5 + j]? := Blk.cell (blk_drew hN1) _
        rw [hc1, Array.getElem?_eq_getElem (by rw [hs1, hRl]; omega)]; rfl) (fun j hj => Blk.frozen (blk_drew hN1) _) (hone _)
  have HO := Lib.hid (own_ins (base := base) (l := l) (x := x) (k := k) (n := n) (c := G) hN2 hbw hn (by omega) hGn hGm (by rw [hs2, hs1, hRl]) (fun q hq => by rw [hl2 q (by omega), hl1 q hq, hRk q hq]) (fun j hj => by rw [hl2 _ (by omega), hm1 j (by omega)]) (fun j hj => hm2 j (by omega)))
  have HBl : Hid (Below base w (((w.alloc (.cells ROW 39)).drew.setCells w.heap.size (k * 5) (valS x)).drew.setCells w.heap.size ((k + 1) * 5) (cellsS (l.drop k)))) := Lib.hid (by
    have e1 : Below base w (w.alloc (.cells ROW 39)).drew := ((Below.refl base w).alloc hbw _).drew
    exact (e1.trans (below_setCells hbw _ _ _)).drew.trans (below_setCells hbw _ _ _))
  have HKp : Hid (Keep (.slice (some ⟨g, 0, none⟩) n c) w (((w.alloc (.cells ROW 39)).drew.setCells w.heap.size (k * 5) (valS x)).drew.setCells w.heap.size ((k + 1) * 5) (cellsS (l.drop k)))) := Lib.hid (fun q hq hv => by
    rw [heap_setCells (by omega)]
    exact (heap_setCells (by omega) _ _ _).trans (hbA.block q hq))
  have i1 : (0 : Int) ≤ (k : Int) := by omega
  have i2 : ¬ ((k : Int) = (n : Int)) := by omega
  have i5 : (0 : Int) ≤ (k : Int) + 1 := by omega
  have mixed : Try.prog.follows Departure.mixedOrders = true := by kernel_rfl
  have i3 : (k : Int) ≤ (n : Int) := by omega
  have i4 : (c : Int) < (n : Int) + 1 := by omega
  have w1 : IntKind.i64.wrap ((n : Int) + 1) = (n : Int) + 1 := i64_w _ (by omega) (by omega)
  have w2 : IntKind.i64.wrap ((k : Int) + 1) = (k : Int) + 1 := i64_w _ (by omega) (by omega)
  have w3 : IntKind.i64.wrap ((n : Int) + 1 - (k : Int)) = (n : Int) + 1 - (k : Int) := i64_w _ (by omega) (by omega)
  have t1 : ((n : Int) + 1).toNat = n + 1 := by omega
  have t2 : ((k : Int) + 1).toNat = k + 1 := by omega
  have c1 : ¬ (c = k) := by omega
  have c3 : ¬ (G = k) := by omega
  have c2 : ¬ (G = k + 1) := by omega
  unfold maxLen at hm hGm
  clear hB hdl htl hone hcur hi0 hz0 hzs hzb hik hkk hold hG hROW hRl hRk hgw hpw hN hbA hB1 hX1 h5 hs1 hl1 hm1 hh1 hN2 hs2 hl2 hm2 hh2 hN1 hB2 hR hX hv2 hh hs ht hg
  go_enter Try.func95, Try.ntmps95
  go_wp2_with (first
    | (at_builtin; refine Lib.wpList_append_run _ rfl _ _ _ _ rfl _ _ rfl rfl _ _ (hrz _) ?_)
    | (at_builtin; refine wpList_copy_runI _ rfl _ _ 26 26 rfl _ _ rfl rfl (hcpA _ _) ?_))
  go_region_law_o (refine step_copy_runI rfl _ _ 26 26 rfl (.slice (some ⟨w.heap.size, (k + 1) * 5, none⟩) (n - k) (G - (k + 1))) (.slice (some ⟨g, k * 5, none⟩) (n - k) (c - k)) (by simp [Act.eval, Act.put]) (by simp [Act.eval, Act.put]) (hcpB 3 (G - (k + 1)) (c - k)) ?_)
  go_wp2_with fail
  go_ret
  exact ⟨_, rfl, HO.out, HBl.out, HKp.out⟩
theorem insert_any (base : Nat) (l : List Stp) (n k : Nat) (hn : l.length = n) (hk : k ≤ n) (x : Stp) (v : Value) (pb : Nat) (w : World) (hR : w.ownsRow base 39 5 v n (cellsS l)) (hbw : base ≤ w.heap.size) (hX : Blk w pb 39 #[.int .i64 x.k, .int .i64 x.a, .int .i64 x.p, .int .i64 x.s, .int .i64 x.t]) (hne : some pb ≠ v.ownBlock) (hsz : n ≤ 1000) :
    Calls Try.prog 95 #[v, .int .i64 k, .slice (some ⟨pb, 0, none⟩) 1 1] w fun e w' => ∃ v', e = .returned v' ∧ w'.ownsRow base 39 5 v' (n + 1) (cellsS (l.take k ++ x :: l.drop k)) ∧ Below base w w' ∧ Keep v w w' := by
  by_cases hkn : k = n
  · subst hkn
    rw [ins_end x hn]
    exact insert_end base l k hn x v pb w hR hbw hX hsz
  · rcases hR.2 with ⟨rfl, h0⟩ | ⟨g, c, cur, rfl, hg, hh, hc, hm, hs, ht⟩
    · omega
    · by_cases hroom : n + 1 ≤ c
      · exact insert_room base l n k g c hn (by omega) x pb w hR hbw hX (fun e => hne (by rw [e]; rfl)) hsz hroom
      · exact insert_grow base l n k g c hn (by omega) x pb w hR hbw hX hsz (by omega)
end Go.Proofs.Ytnaiflokmihmeaa
