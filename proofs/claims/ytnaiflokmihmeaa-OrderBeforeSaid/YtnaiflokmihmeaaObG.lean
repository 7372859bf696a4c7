/- Walk: ThingsOf (reference). -/
import Derived.Test.YtnaiflokmihmeaaObF
namespace Go.Proofs.Ytnaiflokmihmeaa
open Go.RowKit
set_option linter.unusedVariables false
set_option linter.unusedSimpArgs false

theorem wpList_th_next {P : Program} (w : World) {ops : Array Oper} {rest : List Oper} {o : Oper} {a : Act} {Q : Exit → Act → World → Prop} (hg : o.guard = none) (it : Operand) (hop : o.op = Op.next it false) {r b : Nat} {left : List (Int × Int)} (h : SIter encT w r b left) (hit : a.eval it = .pointer (some ⟨r, 0, none⟩))
    (hDone : left = [] → wpList P ops Q rest (a.put o.dst (.tuple #[.bool false])) w)
    (hMore : ∀ (x y : Int) (left' : List (Int × Int)) (w' : World), left.Perm ((x, y) :: left') → SIter encT w' r b left' → w.grownBy w' (some r) → w'.heap.size = w.heap.size →
      (Instr.entry (.pointer (some ⟨r, 0, none⟩))).run P w' = .ok (.tuple #[.agg #[.int .i64 x, .int .i64 y], .bool true]) w' → wpList P ops Q rest (a.put o.dst (.tuple #[.bool true, .agg #[.int .i64 x, .int .i64 y], .bool true])) w') : wpList P ops Q (o :: rest) a w :=
  wpList_set_next w hg it hop h hit hDone fun k left' w' h1 h2 h3 h4 h5 => hMore k.1 k.2 left' w' h1 h2 h3 h4 h5
theorem own_set_ne {w : World} {base size n b : Nat} {e : TypeId} {v : Value} {xs : List Value} {l : List (Int × Int)} (h : w.ownsRow base e size v n xs) (hM : SetN encT w b l) : some b ≠ v.ownBlock := by
  rcases h.2 with ⟨rfl, _⟩ | ⟨g, c, cur, rfl, _, hh, _⟩
  · simp [Value.ownBlock]
  · intro he
    have : b = g := by simpa [Value.ownBlock] using he
    subst this
    obtain ⟨es, clock, hb, _⟩ := hM
    rw [hb] at hh
    cases hh
theorem own_it_ne {w : World} {base size n r b : Nat} {e : TypeId} {v : Value} {xs : List Value} {l : List (Int × Int)} (h : w.ownsRow base e size v n xs) (hM : SIter encT w r b l) : some r ≠ v.ownBlock := by
  rcases h.2 with ⟨rfl, _⟩ | ⟨g, c, cur, rfl, _, hh, _⟩
  · simp [Value.ownBlock]
  · intro he
    have : r = g := by simpa [Value.ownBlock] using he
    subst this
    obtain ⟨es, clock, since, c0, seen, hb, _⟩ := hM
    rw [hb] at hh
    cases hh
theorem set_it_ne {w : World} {r b : Nat} {l left : List (Int × Int)} (h : SetN encT w b l) (hM : SIter encT w r b left) : b ≠ r := by
  intro e
  subst e
  obtain ⟨es, clock, h1, _⟩ := h
  obtain ⟨es2, clock2, since, c0, seen, h2, _⟩ := hM
  rw [h1] at h2
  cases h2
/-- while the codes are gathered -/
structure CdS (wq : World) (b r : Nat) (l left : List (Int × Int)) (v : Value) (cs : List Int) (wr : World) : Prop where
  bel : Below wq.heap.size wq wr
  row : wr.ownsRow wq.heap.size 3 1 v cs.length (cellsI cs)
  set : SetN encT wr b l
  it : SIter encT wr r b left
  b0 : wq.heap.size ≤ b
  r0 : wq.heap.size ≤ r
section
variable {wq wr w' : World} {b r : Nat} {l left left' : List (Int × Int)} {v v' : Value} {cs : List Int}
theorem CdS.next (h : CdS wq b r l left v cs wr) (hb : Below wr.heap.size wr w') : CdS wq b r l left v cs w' :=
  ⟨h.bel.trans (hb.mono h.bel.size), own_below h.row hb, h.set.next hb, h.it.next hb, h.b0, h.r0⟩
theorem CdS.step (h : CdS wq b r l left v cs wr) (hi : SIter encT w' r b left') (hg : wr.grownBy w' (some r)) : CdS wq b r l left' v cs w' :=
  ⟨h.bel.grown hg h.bel.size (fun k hk => by cases hk; exact h.r0), h.row.kept hg (.inr (Ne.symm (own_it_ne h.row h.it))), h.set.grown hg (fun e => set_it_ne h.set h.it (Option.some.inj e)), hi, h.b0, h.r0⟩
theorem CdS.app {y : Int} (h : CdS wq b r l left v cs wr) (a1 : w'.ownsRow wq.heap.size 3 1 v' (cs.length + 1) (cellsI cs ++ [.int .i64 y])) (a2 : wr.grownBy w' v.ownBlock) : CdS wq b r l left v' (cs ++ [y]) w' :=
  ⟨h.bel.grown a2 h.bel.size (fun k hk => (h.row.lt k hk).1), by rw [List.length_append, show cellsI (cs ++ [y]) = cellsI cs ++ [.int .i64 y] by simp [cellsI]]; exact a1, h.set.grown a2 (own_set_ne h.row h.set), h.it.grown a2 (own_it_ne h.row h.it) (own_set_ne h.row h.set), h.b0, h.r0⟩
theorem CdS.slc (h : CdS wq b r l left v cs wr) : ∃ A c, v = .slice A cs.length c := by
  obtain ⟨A, c, e, _⟩ := IntsAt.of_own h.row
  exact ⟨A, c, e⟩
end
theorem wp_append_cd {wq w : World} {b r : Nat} {l left : List (Int × Int)} {v : Value} {cs : List Int} {o : Oper} {a : Act} {K : Act → World → Prop} {Q : Exit → Act → World → Prop} (s x : Operand)
    (ho : o.op = .call { callee := .builtin .append, args := #[s, x], argTypes := #[22, 22] }) {g : Nat} {y : Int} (hO : CdS wq b r l left v cs w) (hg : Blk w g 3 #[.int .i64 y]) (hs : a.eval s = v) (hx : a.eval x = .slice (some ⟨g, 0, none⟩) 1 1) (hnm : cs.length ≤ 1000)
    (h : ∀ A c w', CdS wq b r l left (.slice A (cs.length + 1) c) (cs ++ [y]) w' → K (a.put o.dst (.slice A (cs.length + 1) c)) w') : o.wp Try.prog a w K Q := by
  obtain ⟨i0, hi0, hz0, hz1, hz2⟩ := info_parts infoI
  refine wp_append_any w s x _ ho wq.heap.size 3 i0 _ 1 8 Try.underlying22 hi0 hz0 hz1 hz2 rfl (by omega) v cs.length (cellsI cs) hs hO.row w.heap.size _ 1 1 [.int .i64 y] hx (hg.reads rfl (by simp)) (by simp; rfl) (by unfold maxLen; omega) (by omega) hO.bel.size fun v' w' a1 a2 a3 => ?_
  have h9 := hO.app a1 a2
  obtain ⟨A, c, e⟩ := h9.slc
  rw [List.length_append] at e
  subst e
  exact h A c w' h9
theorem wp_asg {P : Program} {K : Act → World → Prop} {Q : Exit → Act → World → Prop} {o : Oper} {a : Act} {w : World} {x : Operand} (ho : o.op = .assign x) (h : K (a.put o.dst (a.eval x)) w) : o.wp P a w K Q := by
  unfold Oper.wp execOp
  simp only [ho]
  exact h
theorem fill_three : Instr.fill (fun i => some (i * 1, 1)) (Array.map (fun x => (Value.int .i64 0).cells[x % (Value.int .i64 0).cells.size]!) (Array.range (3 * 1))) #[(0, .int .i64 0), (1, .int .i64 10), (2, .int .i64 20)].toList = some #[.int .i64 0, .int .i64 10, .int .i64 20] := by kernel_rfl
theorem run_three (w : World) : ((do pure (.value (← Instr.buildSlice 22 3 #[(0, .int .i64 0), (1, .int .i64 10), (2, .int .i64 20)])) : Sem Next)).run Try.prog w = .ok (.value (.slice (some ⟨w.heap.size, 0, none⟩) 3 3)) (w.alloc (.cells #[.int .i64 0, .int .i64 10, .int .i64 20] 3)) := by
  obtain ⟨i, hi, hz, hs, hb⟩ := info_parts infoI
  rw [Sem.run_bind, run_buildSlice w _ _ 3 #[(0, .int .i64 0), (1, .int .i64 10), (2, .int .i64 20)] #[.int .i64 0, .int .i64 10, .int .i64 20] i _ Try.underlying22 hi hz (by rw [hs]; decide) (by rw [hs]; decide) (by rw [hs]; exact fill_three)]
  rfl
def isT3 : Told := fun u w => ∃ g, u = .slice (some ⟨g, 0, none⟩) 3 3 ∧ Blk w g 3 #[.int .i64 0, .int .i64 10, .int .i64 20]
theorem isT3_st (v : Value) (w w' : World) (h : isT3 v w) (hb : Below w.heap.size w w') : isT3 v w' := by
  obtain ⟨g, e, h1⟩ := h
  exact ⟨g, e, h1.belowB hb⟩
def isP3 (k : Nat) : Told := fun u w => ∃ g, u = .pointer (some ⟨g, k, none⟩) ∧ Blk w g 3 #[.int .i64 0, .int .i64 10, .int .i64 20]
theorem isP3_st {k : Nat} (v : Value) (w w' : World) (h : isP3 k v w) (hb : Below w.heap.size w w') : isP3 k v w' := by
  obtain ⟨g, e, h1⟩ := h
  exact ⟨g, e, h1.belowB hb⟩
theorem run_idx3 (g : Nat) (k : Nat) (hk : k = 0 ∨ k = 1 ∨ k = 2) (w : World) : (Instr.indexAt 22 (.slice (some ⟨g, 0, none⟩) 3 3) (.int .i64 (k : Int))).run Try.prog w = .ok (.pointer (some ⟨g, k, none⟩)) w := by
  rcases hk with rfl | rfl | rfl
  · go_simp
  · go_simp
  · go_simp
theorem run_idxT0 (p : Nat) (w : World) : (Instr.indexAt 103 (.pointer (some ⟨p, 0, none⟩)) (.int .i64 0)).run Try.prog w = .ok (.pointer (some ⟨p, 0, none⟩)) w := by go_simp
theorem run_idxT1 (p : Nat) (w : World) : (Instr.indexAt 103 (.pointer (some ⟨p, 0, none⟩)) (.int .i64 1)).run Try.prog w = .ok (.pointer (some ⟨p, 1, none⟩)) w := by go_simp
theorem add_cd (x y : Operand) (h k : Int) (hh : 0 ≤ h ∧ h ≤ 20) (hk : 0 ≤ k ∧ k ≤ 100) (w : World) : ((do eqGuard .add 3 x y (.int .i64 h) (.int .i64 k); binOp .add 3 (.int .i64 h) (.int .i64 k) : Sem Value)).run Try.prog w = .ok (.int .i64 (h + k)) w := by
  have hw := i64_w (h + k) (by omega) (by omega)
  go_simp
/-- with the pair in its box -/
structure CpQ (wq : World) (b r p : Nat) (l left : List (Int × Int)) (x y : Int) (v : Value) (cs : List Int) (wr : World) : Prop where
  c : CdS wq b r l left v cs wr
  q : Blk wr p 103 #[.int .i64 x, .int .i64 y]
theorem CpQ.next {wq wr w' : World} {b r p : Nat} {l left : List (Int × Int)} {x y : Int} {v : Value} {cs : List Int} (h : CpQ wq b r p l left x y v cs wr) (hb : Below wr.heap.size wr w') : CpQ wq b r p l left x y v cs w' := ⟨h.c.next hb, h.q.belowB hb⟩
theorem to_rec {d : Wd} {s : Stp} {w w' : World} {e : Ending} (h : ToPost d s w e w') : ∃ b l, e = .returned (.map (some b)) ∧ SetN encT w' b l ∧ l.Nodup ∧ (∀ q, q ∈ l ↔ kyC d s q) ∧ Below w.heap.size w w' ∧ w.heap.size ≤ b := h
theorem cd_start {wq w5 w6 : World} {b : Nat} {l : List (Int × Int)} (h1 : SetN encT w5 b l) (h2 : Below wq.heap.size wq w5) (h3 : wq.heap.size ≤ b) (h4 : SIter encT w6 w5.heap.size b l) (h5 : Below w5.heap.size w5 w6) : CdS wq b w5.heap.size l l (.slice none 0 0) [] w6 :=
  ⟨h2.trans (h5.mono h2.size), ⟨by simp [cellsI], .inl ⟨rfl, rfl⟩⟩, h1.next h5, h4, h3, h2.size⟩
theorem cd_sort {wq wr : World} {b r : Nat} {l left : List (Int × Int)} {A : Option Addr} {n c : Nat} {cs : List Int} (h : CdS wq b r l left (.slice A n c) cs wr) (hn : cs.length = n) (h0 : 0 < n) (h6 : n ≤ 1000) {xs : List Int} (hx : (cs.mergeSort fun x y => decide (x ≤ y)) = xs) :
    ∃ g, A = some ⟨g, 0, none⟩ ∧ xs.length = n ∧ Calls Try.prog 75 #[.slice (some ⟨g, 0, none⟩) n c] wr fun e w' => e = .returned (.tuple #[]) ∧ IntsAt w' w'.heap.size (some ⟨g, 0, none⟩) xs ∧ Below wq.heap.size wq w' ∧ ∀ ad, (some ⟨g, 0, none⟩ : Option Addr) = some ad → wq.heap.size ≤ ad.block := by
  have hr := h.row
  rw [hn] at hr
  have hlen : xs.length = n := by rw [← hx, List.length_mergeSort, hn]
  rcases hr.2 with ⟨_, h9⟩ | ⟨g, c', cur, hv, hg, _⟩
  · omega
  · cases hv
    refine ⟨g, rfl, hlen, (sortR_any _ g n c cs wr hn hr (by omega)).mono ?_⟩
    rintro e w' ⟨rfl, h1, h2⟩
    rw [hx, ← hlen] at h1
    obtain ⟨A9, c9, e9, _, _, h7⟩ := IntsAt.of_own h1
    cases e9
    exact ⟨rfl, h7, h.bel.grown h2 h.bel.size (fun k hk => by cases hk; exact hg), fun ad ha => by cases ha; exact hg⟩
set_option maxHeartbeats 4000000 in
set_option maxRecDepth 20000 in
theorem thingsOf_any (d : Wd) (r : Raw) (ss : List Stp) (A : Option Addr) (n c : Nat) (w : World) (hn : n = ss.length) (hm : n * 40 ≤ 140737488351232) (hc : n ≤ c) (h : WOk w r d) (hs : StepsAt w w.heap.size A ss) (hlo : ∀ x ∈ d.pl, -9223372036854775808 ≤ x) :
    Calls Try.prog 37 #[wv d.sl r, .slice A n c] w (ThPost d ss w) := by
  have HN := Lib.hid hn
  have HSS := Lib.hid hs
  have e1 : Below w.heap.size w (w.alloc (.cells (wcs d.sl r) 25)) := (Below.refl _ _).alloc (Nat.le_refl _) _
  have HB1 := Lib.hid e1
  have HBX := Lib.hid (Blk.new w 25 (wcs d.sl r))
  have HRU := Lib.hid (runOf_any d r ss A n c (w.alloc (.cells (wcs d.sl r) 25)) hn hm hc (h.next e1) (hs.next e1) hlo)
  have HST := Lib.hid (fun w2 (hb : Below (w.alloc (.cells (wcs d.sl r) 25)).heap.size (w.alloc (.cells (wcs d.sl r) 25)) w2) => ThS.start w (hb.mono e1.size) h hb)
  have HTB := Lib.hid (fun c W hb h0 h1 => th_bad (d := d) (ss := ss) (w := w) (W := W) (c := c) h1 h0 hb)
  have HDO := Lib.hid (fun D (R : Raw) s W (h9 : WOk W R D) hl9 => stepOf_any D R s W h9 hl9)
  have HTU := Lib.hid (fun D (R : Raw) s W (h9 : WOk W R D) hc9 => thingsof_any D R s W h9 hc9)
  clear e1 h hs hn hlo
  by_cases h40 : 40 < n
  · have HE : Hid (thE d ss = 2) := Lib.hid (by unfold thE; rw [if_pos (by rw [← HN.out]; exact h40)])
    obtain ⟨A1, n1, c1, A2, n2, c2, A3, n3, c3⟩ := r
    unfold wv wcs
    unfold wcs at HB1
    dsimp only at HB1 ⊢
    have q1 : (40 : Int) < (n : Int) := by omega
    go_enter Try.func37, Try.ntmps37
    go_wp2_with fail
    go_ret2
    exact HTB.out 2 _ HB1.out (by omega) HE.out
  · have q1 : ¬ ((40 : Int) < (n : Int)) := by omega
    have HE : Hid (thE d ss = (runE d ss).2.2) := Lib.hid (by unfold thE; rw [if_neg (by rw [← HN.out]; exact h40)])
    unfold RunPost at HRU
    generalize hre : (runE d ss).2.2 = ec at *
    generalize (runE d ss).2.1 = jr at *
    generalize (runE d ss).1 = DR at *
    have HRE := Lib.hid hre
    clear hre
    obtain ⟨A1, n1, c1, A2, n2, c2, A3, n3, c3⟩ := r
    unfold wv wcs
    unfold wv wcs at HRU HDO
    unfold wcs at HB1 HBX HST
    unfold sv at HDO
    dsimp only at HRU HB1 HBX HST ⊢
    generalize hsl : d.sl = sl at *
    go_enter Try.func37, Try.ntmps37
    go_upto_region 3 with (fail)
    generalize World.alloc w _ = w1 at *
    have k0 := HBX.out.cell 0
    have k1 := HBX.out.cell 1
    have k2 := HBX.out.cell 2
    have k3 := HBX.out.cell 3
    simp at k0 k1 k2 k3
    go_wp2_with fail
    refine HRU.out.mono ?_
    rintro e w2 ⟨⟨B1, m1, e1, B2, m2, e2, B3, m3, e3⟩, rfl, _, hb2⟩
    have hbx : Below w2.heap.size w2 (w2.alloc (.cells #[.int .i64 DR.sl, .slice B1 m1 e1, .slice B2 m2 e2, .slice B3 m3 e3] 25)) := (Below.refl _ _).alloc (Nat.le_refl _) _
    have HB3 := Lib.hid (hb2.trans (hbx.mono hb2.size))
    have HB4 := Lib.hid (HB1.out.trans (HB3.out.mono HB1.out.size))
    clear hbx hb2 k0 k1 k2 k3 HRU
    dsimp only
    by_cases hec : ec = 0
    · subst hec
      have HW0 : Hid (Thj d ss 0 d) := Lib.hid (Thj.start (run_ok HRE.out) HRE.out)
      go_upto_region 7 with (fail)
      have HF := Lib.hid (HST.out _ HB3.out)
      clear HST HB3 HB4 HB1 HBX
      generalize World.alloc w2 _ = w3 at *
      go_wp2_with fail
      go_loopg [9, 29] n (fun kx o i wr => ∃ (j : Nat) (dj : Wd) (rj : Raw) (VA : Option Addr) (vc vn : Nat) (rows : List Row), kx = n - j ∧ j ≤ n ∧ i = .int .i64 (j : Int) ∧ o = .slice VA vn vc ∧ Hid (ThS w dj rj (.slice VA vn vc) rows wr) ∧ Hid (Thj d ss j dj) ∧ Hid (Od.ll rows = (thL d ss).take j) ∧ Hid (vn = rows.length ∧ rows.length = j))
      case atStart => exact ⟨0, d, _, none, 0, 0, [], by omega, Nat.zero_le _, rfl, rfl, HF, HW0, Lib.hid (by simp [Od.ll]), Lib.hid ⟨rfl, rfl⟩⟩
      case round =>
        clear HF HW0
        obtain ⟨j, dj, rj, VA, vc, vn, rows, hgk, hj, rfl, rfl, HF, HT, HR, HL⟩ := hrel
        have HGK := Lib.hid hgk; clear hgk
        by_cases hlt : j < n
        · obtain ⟨s, hsj⟩ := get_of_lt HN.out hlt
          have HSJ := Lib.hid hsj
          obtain ⟨b, off, rfl, hb, c0, c1', c2', c3', c4⟩ := (HSS.out.next HF.out.bel).five hsj
          have HCA := Lib.hid (HT.out.can hsj)
          have HNX := Lib.hid (HT.out.next hsj)
          clear hsj hb
          obtain ⟨sk, sa, sp, sq, st⟩ := s
          dsimp only at c0 c1' c2' c3' c4
          have i1 : (0 : Int) ≤ (j : Int) := by omega
          have i2 : (j : Int) < (n : Int) := by omega
          go_upto_region 11 with (fail)
          have hbs : Below wr.heap.size wr (wr.alloc (.cells #[.int .i64 sk, .int .i64 sa, .int .i64 sp, .int .i64 sq, .int .i64 st] 39)) := (Below.refl _ _).alloc (Nat.le_refl _) _
          have HX1 := Lib.hid (Blk.new wr 39 #[.int .i64 sk, .int .i64 sa, .int .i64 sp, .int .i64 sq, .int .i64 st])
          have HF1 := Lib.hid (HF.out.next hbs)
          clear hbs c0 c1' c2' c3' c4 HF
          generalize World.alloc wr _ = w4 at *
          generalize wr.heap.size = px at *
          have HTU2 := Lib.hid (HTU.out dj rj ⟨sk, sa, sp, sq, st⟩ w4 HF1.out.ok HCA.out)
          have HDO2 := Lib.hid (fun W (h9 : WOk W rj dj) => HDO.out dj rj ⟨sk, sa, sp, sq, st⟩ W h9 (fun x hx => by
            obtain ⟨i, hi⟩ := List.mem_iff_getElem?.1 hx
            have h1 := (okd_of HCA.out).v.plo i x hi
            have h2 := (okd_of HCA.out).v.s4
            omega))
          obtain ⟨D1, p1, f1, D2, p2, f2, D3, p3, f3⟩ := rj
          unfold wv sv wcs at HTU2
          unfold DoPost wv wcs at HDO2
          dsimp only at HTU2 HDO2
          obtain ⟨k0, k1, k2, k3⟩ := HF1.out.four
          dsimp only at k0 k1 k2 k3
          have g0 := HX1.out.cell 0
          have g1 := HX1.out.cell 1
          have g2 := HX1.out.cell 2
          have g3 := HX1.out.cell 3
          have g4 := HX1.out.cell 4
          simp at g0 g1 g2 g3 g4
          go_wp2_with fail
          refine HTU2.out.mono ?_
          intro e w5 ht5
          obtain ⟨b, l, rfl, hset5, hnd5, hmem5, hbel5, hbb5⟩ := to_rec ht5
          have HST5 := Lib.hid hset5
          have HND := Lib.hid hnd5
          have HMM := Lib.hid hmem5
          have HBE5 := Lib.hid hbel5
          have HBB5 := Lib.hid hbb5
          clear ht5 hset5 hnd5 hmem5 hbel5 hbb5 HTU2 k0 k1 k2 k3 g0 g1 g2 g3 g4
          have HOK := Lib.hid (okd_of HCA.out)
          go_wp2_with (at_range; refine wpList_set_range _ rfl _ 101 rfl Try.underlying101 HST5.out rfl ?_; intro w6 hi6 hb6 hz6)
          have HCD := Lib.hid (cd_start HST5.out HBE5.out HBB5.out hi6 hb6)
          clear hi6 hb6 hz6 HST5 HBE5 HBB5
          generalize w5.heap.size = r at *
          go_frame
          go_loopg [12] l.length (fun kx o wr => ∃ (left done : List (Int × Int)) (VA : Option Addr) (vn vc : Nat) (cs : List Int), kx = left.length ∧ o = .slice VA vn vc ∧ Hid (l.Perm (done ++ left)) ∧ Hid (CdS w4 b r l left (.slice VA vn vc) cs wr) ∧ Hid (cs = done.map cdI ∧ cs.length = vn))
          case atStart => exact ⟨l, [], none, 0, 0, [], rfl, rfl, Lib.hid (List.Perm.refl _), HCD, Lib.hid ⟨rfl, rfl⟩⟩
          case round =>
            clear HCD
            obtain ⟨left, done, VA', vn', vc', cs, hgk, rfl, HPM, HCD, HCS⟩ := hrel
            have HGL := Lib.hid hgk; clear hgk
            go_wp2_with (at_next; refine wpList_th_next _ rfl _ rfl HCD.out.it rfl ?_ ?_)
            · intro hl0
              have hpm : l.Perm done := by have h9 := HPM.out; rw [hl0, List.append_nil] at h9; exact h9
              have hcd : (cs.mergeSort fun x y => decide (x ≤ y)) = cL dj ⟨sk, sa, sp, sq, st⟩ := codes_eq HOK.out HND.out HMM.out (by rw [HCS.out.1]; exact (hpm.map cdI).symm)
              have hne0 : 0 < vn' := by
                have h1 : ((0 : Int), sa) ∈ l := (HMM.out _).2 (.inl (.inl (.inl rfl)))
                have h2 := hpm.mem_iff.1 h1
                have h3 := List.length_pos_of_mem h2
                have h4 := HCS.out.2
                rw [HCS.out.1, List.length_map] at h4
                omega
              have hle : vn' ≤ 1000 := by
                have h1 := congrArg List.length hcd
                rw [List.length_mergeSort, HCS.out.2] at h1
                have h2 := cL_len dj ⟨sk, sa, sp, sq, st⟩
                omega
              obtain ⟨g, rfl, hxn, hso⟩ := cd_sort HCD.out HCS.out.2 hne0 hle hcd
              have HSO := Lib.hid hso
              have HXN := Lib.hid hxn
              clear hl0 hpm hcd hne0 hle hso hxn
              go_wp2_with fail
              refine HSO.out.mono ?_
              rintro e w7 ⟨rfl, hi7, hb7, hf7'⟩
              have HF5 := Lib.hid (HF1.out.next hb7)
              have HX5 := Lib.hid (HX1.out.belowB hb7)
              have HI5 := Lib.hid (ints_o HF1.out hi7 hf7')
              clear hi7 hb7 hf7' HSO HF1 HX1 HCD HPM HGL HCS
              have HLE : Hid ((cL dj ⟨sk, sa, sp, sq, st⟩).length ≤ 64) := Lib.hid (cL_len _ _)
              have HLR : Hid (vn = rows.length ∧ rows.length ≤ 1000) := Lib.hid ⟨HL.out.1, by have h1 := HL.out.2; omega⟩
              have hvn := HL.out.1
              subst hvn
              generalize hcl : cL dj ⟨sk, sa, sp, sq, st⟩ = xs at *
              have hn5 := HXN.out
              subst hn5
              go_upto_region 17 with (at_builtin; refine wpList_append_rows (r0 := ⟨some ⟨g, 0, none⟩, vc', xs⟩) rfl _ _ rfl HF5.out HI5.out HLE.out rfl rfl HLR.out.2 ?_; intro A6 c6 w6 hF6 hK6)
              have HF6 := Lib.hid hF6
              have HX6 := Lib.hid (hK6 HX5.out (by decide))
              clear hF6 hK6 HF5 HX5 HI5
              obtain ⟨k0, k1, k2, k3⟩ := HF6.out.four
              dsimp only at k0 k1 k2 k3
              have g0 := HX6.out.cell 0
              have g1 := HX6.out.cell 1
              have g2 := HX6.out.cell 2
              have g3 := HX6.out.cell 3
              have g4 := HX6.out.cell 4
              simp at g0 g1 g2 g3 g4
              go_wp2_with fail
              refine (HDO2.out _ HF6.out.ok).mono ?_
              rintro e w7 ⟨⟨B1', q1', e1', B2', q2', e2', B3', q3', e3'⟩, rfl, ⟨ho7, hf7⟩, hb7⟩
              have hdn : doN dj ⟨sk, sa, sp, sq, st⟩ = stepN dj ⟨sk, sa, sp, sq, st⟩ := by unfold doN; rw [if_pos HCA.out]
              rw [hdn] at ho7 ⊢
              have HF7 := Lib.hid (HF6.out.next hb7)
              have hw6 : w.heap.size < w6.heap.size := HF6.out.one.lt
              have HM := Lib.hid (HF7.out.move ho7 hf7 hw6 (fun k hk => (HF6.out.row.lt k hk).2))
              unfold put4 at HM
              clear ho7 hf7 hb7 hw6 hdn k0 k1 k2 k3 g0 g1 g2 g3 g4 HDO2
              obtain ⟨k0, k1, k2, k3⟩ := HF7.out.four
              obtain ⟨z0, z1, z2, z3⟩ := HF7.out.froz
              dsimp only at k0 k1 k2 k3 HM ⊢
              go_wp2_with fail
              clear k0 k1 k2 k3 z0 z1 z2 z3
              go_roundg (n - (j + 1))
              case measure => rw [HGK.out]; omega
              case rel => exact ⟨j + 1, _, _, _, _, _, _, rfl, by omega, by go_num, rfl, HM, Lib.hid HNX.out.1, Lib.hid (by rw [HNX.out.2, ← HR.out]; simp [Od.ll]), Lib.hid ⟨by simp, by rw [List.length_append, HL.out.2]; rfl⟩⟩
            · intro x y left' w7 hp7 hi7 hg7 hz7 hen
              have HC7 := Lib.hid (HCD.out.step hi7 hg7)
              have HXL : Hid (kyC dj ⟨sk, sa, sp, sq, st⟩ (x, y)) := Lib.hid ((HMM.out _).1 (HPM.out.mem_iff.2 (List.mem_append.2 (.inr (hp7.mem_iff.2 (by simp))))))
              have HP7 := Lib.hid hp7
              clear hp7 hi7 hg7 hz7 HCD
              have hrg := kyC_rng HOK.out HXL.out
              dsimp only at hrg
              obtain ⟨kx0, hkx⟩ := Int.eq_ofNat_of_zero_le (show 0 ≤ x by omega)
              have HKX : Hid (x = (kx0 : Int) ∧ (kx0 = 0 ∨ kx0 = 1 ∨ kx0 = 2)) := Lib.hid ⟨hkx, by omega⟩
              obtain ⟨cx, hcx⟩ : ∃ cx : Int, cx = if x = 0 then 0 else if x = 1 then 10 else 20 := ⟨_, rfl⟩
              have HCX : Hid ((#[.int .i64 0, .int .i64 10, .int .i64 20] : Array Value)[kx0]? = some (.int .i64 cx)) := Lib.hid (by
                rw [hcx]
                rcases HKX.out.2 with h9 | h9 | h9 <;> subst h9 <;> rw [HKX.out.1] <;> rfl)
              have HCB : Hid ((0 ≤ cx ∧ cx ≤ 20) ∧ (0 ≤ y ∧ y ≤ 100)) := Lib.hid ⟨by rw [hcx]; split <;> (try split) <;> omega, by omega⟩
              have HCI : Hid (cdI (x, y) = cx + y) := Lib.hid (by unfold cdI; rw [hcx])
              have HLC : Hid (cs.length ≤ 64) := Lib.hid (by
                have h1 : (l.map cdI).length = (cL dj ⟨sk, sa, sp, sq, st⟩).length := by rw [← codes_eq HOK.out HND.out HMM.out (List.Perm.refl (l.map cdI)), List.length_mergeSort]
                have h2 := HPM.out.length_eq
                have h3 := cL_len dj ⟨sk, sa, sp, sq, st⟩
                rw [List.length_map] at h1
                rw [List.length_append] at h2
                rw [HCS.out.1, List.length_map]
                omega)
              clear hrg hkx hcx
              go_upto_region 14 with (fail)
              clear hen
              have hbt : Below w7.heap.size w7 (w7.alloc (.cells #[.int .i64 x, .int .i64 y] 103)) := (Below.refl _ _).alloc (Nat.le_refl _) _
              have HP : Hid (CpQ w4 b r w7.heap.size l left' x y (.slice VA' vn' vc') cs (w7.alloc (.cells #[.int .i64 x, .int .i64 y] 103))) := Lib.hid ⟨HC7.out.next hbt, Blk.new _ _ _⟩
              clear hbt HC7
              generalize World.alloc w7 _ = w8 at *
              generalize w7.heap.size = p13 at *
              refine wp_inv_chainJ (S := (CpQ w4 b r p13 l left' x y (.slice VA' vn' vc') cs)) 10 [isV (.slice VA' vn' vc'), isT3, isV (.pointer (some ⟨p13, 0, none⟩)), isV (.int .i64 x), isP3 kx0, isV (.int .i64 cx), isV (.pointer (some ⟨p13, 1, none⟩)), isV (.int .i64 y), isV (.int .i64 (cx + y)), isOneY (cx + y)] rfl (by kernel_rfl) (by kernel_rfl) (by kernel_rfl) (by kernel_rfl) (fun _ _ h9 hb9 => h9.next hb9) HP.out ?plan ?last
              case plan =>
                refine PlanJ.cons (OpJ.mkV fun a wx hs hf hp => ?_) ?_
                · exact StepI.mov rfl (wants_none rfl) (hf.keep 12 (by kernel_rfl))
                refine PlanJ.cons (OpJ.mk isT3_st fun a wx hs hf hp => ?_) ?_
                · exact StepI.new (wants_none rfl) (by unfold execOp; simp only [List.map_toArray, List.map_cons, List.map_nil]; exact run_three wx) ((Below.refl _ _).alloc (Nat.le_refl _) _) ⟨_, rfl, Blk.new _ _ _⟩
                refine PlanJ.cons (OpJ.mkV fun a wx hs hf hp => ?_) ?_
                · exact StepI.idx rfl (wants_none rfl) (hf.keep 13 (by kernel_rfl)) rfl (run_idxT0 p13 wx) rfl
                refine PlanJ.cons (OpJ.mkV fun a wx hs hf hp => ?_) ?_
                · exact StepI.load rfl (wants_none rfl) (hp 2 43 (by kernel_rfl) rfl) (run_load_cell hs.q (f := 0) rfl (by kernel_rfl) rfl) rfl
                refine PlanJ.cons (OpJ.mk isP3_st fun a wx hs hf hp => ?_) ?_
                · obtain ⟨g9, e9, h9⟩ := (show isT3 (a.eval (.tmp 42)) wx from (hp 1 42 (by kernel_rfl) rfl))
                  have e8 : a.eval (.tmp 44) = .int .i64 (kx0 : Int) := by rw [← HKX.out.1]; exact (hp 3 44 (by kernel_rfl) rfl)
                  exact StepI.idx rfl (wants_none rfl) e9 e8 (run_idx3 g9 kx0 HKX.out.2 wx) ⟨g9, rfl, h9⟩
                refine PlanJ.cons (OpJ.mkV fun a wx hs hf hp => ?_) ?_
                · obtain ⟨g9, e9, h9⟩ := (show isP3 kx0 (a.eval (.tmp 45)) wx from (hp 4 45 (by kernel_rfl) rfl))
                  exact StepI.load rfl (wants_none rfl) e9 (run_load_cell h9 (f := kx0) HCX.out (by kernel_rfl) rfl) rfl
                refine PlanJ.cons (OpJ.mkV fun a wx hs hf hp => ?_) ?_
                · exact StepI.idx rfl (wants_none rfl) (hf.keep 13 (by kernel_rfl)) rfl (run_idxT1 p13 wx) rfl
                refine PlanJ.cons (OpJ.mkV fun a wx hs hf hp => ?_) ?_
                · exact StepI.load rfl (wants_none rfl) (hp 6 47 (by kernel_rfl) rfl) (run_load_cell hs.q (f := 1) rfl (by kernel_rfl) rfl) rfl
                refine PlanJ.cons (OpJ.mkV fun a wx hs hf hp => ?_) ?_
                · exact StepI.bin rfl (wants_none rfl) (hp 5 46 (by kernel_rfl) rfl) (hp 7 48 (by kernel_rfl) rfl) (add_cd _ _ cx y HCB.out.1 HCB.out.2 wx) rfl
                refine PlanJ.cons (OpJ.mk isOneY_st fun a wx hs hf hp => ?_) ?_
                · have e9 : a.eval (.tmp 49) = .int .i64 (cx + y) := (hp 8 49 (by kernel_rfl) rfl)
                  exact StepI.new (wants_none rfl) (by unfold execOp; simp only [List.map_toArray, List.map_cons, List.map_nil, e9]; exact run_oneY _ wx) ((Below.refl _ _).alloc (Nat.le_refl _) _) ⟨_, rfl, Blk.new _ _ _⟩
                exact PlanJ.nil
              case last =>
                intro a wx hs hf hv
                obtain ⟨g8, e42, hb8⟩ := (show isT3 (a.tmps.getD 42 undef) wx from hv 1 42 (by decide) rfl)
                obtain ⟨g7, e45, hb7⟩ := (show isP3 kx0 (a.tmps.getD 45 undef) wx from hv 4 45 (by decide) rfl)
                obtain ⟨g9, e50, hb9⟩ := (show isOneY (cx + y) (a.tmps.getD 50 undef) wx from hv 9 50 (by decide) rfl)
                have hput := hf.puts [(41, .slice VA' vn' vc'), (42, .slice (some ⟨g8, 0, none⟩) 3 3), (43, .pointer (some ⟨p13, 0, none⟩)), (44, .int .i64 x), (45, .pointer (some ⟨g7, kx0, none⟩)), (46, .int .i64 cx), (47, .pointer (some ⟨p13, 1, none⟩)), (48, .int .i64 y), (49, .int .i64 (cx + y)), (50, .slice (some ⟨g9, 0, none⟩) 1 1)] (by kernel_rfl) (List.forall_mem_cons.2 ⟨hv 0 41 (by decide) rfl, (List.forall_mem_cons.2 ⟨e42, (List.forall_mem_cons.2 ⟨hv 2 43 (by decide) rfl, (List.forall_mem_cons.2 ⟨hv 3 44 (by decide) rfl, (List.forall_mem_cons.2 ⟨e45, (List.forall_mem_cons.2 ⟨hv 5 46 (by decide) rfl, (List.forall_mem_cons.2 ⟨hv 6 47 (by decide) rfl, (List.forall_mem_cons.2 ⟨hv 7 48 (by decide) rfl, (List.forall_mem_cons.2 ⟨hv 8 49 (by decide) rfl, (List.forall_mem_cons.2 ⟨e50, (by intro p hp; cases hp)⟩)⟩)⟩)⟩)⟩)⟩)⟩)⟩)⟩)⟩)
                have HO9 := Lib.hid hs.c
                have HB9 := Lib.hid hb9
                clear hf hv e42 e45 e50 hs hb7 hb8 hb9
                subst hput
                simp only [puts, Act.put, List.setIfInBounds_toArray, List.set_cons_zero, List.set_cons_succ]
                refine ⟨wants_none rfl, ?_⟩
                refine wp_append_cd _ _ rfl HO9.out HB9.out rfl rfl (by have h1 := HLC.out; omega) ?_
                intro A6 c6 w6 hO6
                simp only [Act.put, List.setIfInBounds_toArray, List.set_cons_zero, List.set_cons_succ]
                refine ⟨wants_none rfl, ?_⟩
                refine wp_asg rfl ?_
                unfold chainW
                simp only [Act.eval, Act.put, List.setIfInBounds_toArray, List.set_cons_zero, List.set_cons_succ]
                have HO6 := Lib.hid hO6
                clear hO6 HO9 HB9 HP
                have hvn8 := HCS.out.2
                subst hvn8
                go_wp2_with fail
                go_roundg left'.length
                case measure => rw [HGL.out, HP7.out.length_eq]; simp
                case rel => exact ⟨left', done ++ [(x, y)], _, _, _, cs ++ [cx + y], rfl, rfl, Lib.hid (by rw [List.append_assoc]; exact HPM.out.trans (List.Perm.append_left done HP7.out)), HO6, Lib.hid ⟨by rw [HCS.out.1, List.map_append, ← HCI.out]; rfl, by simp⟩⟩
        · obtain rfl : j = n := by omega
          have HFIN := Lib.hid (th_ok (by rw [HE.out]) HF.out (by rw [HR.out, HN.out]))
          go_wp2_with fail
          go_ret2
          exact HFIN.out
    · have hne : (ec != 0) = true := by simp [hec]
      go_wp2_with fail
      go_ret2
      exact HTB.out ec _ HB4.out hec HE.out
end Go.Proofs.Ytnaiflokmihmeaa
