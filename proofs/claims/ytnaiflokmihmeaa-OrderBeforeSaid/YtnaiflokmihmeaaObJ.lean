/- Walk: Before (package order). -/
import Derived.Test.YtnaiflokmihmeaaObH
import Derived.Deep.RegionLaw
namespace Go.Proofs.Ytnaiflokmihmeaa
open Go.RowKit
set_option linter.unusedVariables false
set_option linter.unusedSimpArgs false

theorem befK_eq2 {ts : List (List Int)} {k i : Nat} {xk xi : List Int} (hk : ts[k]? = some xk) (hi : ts[i]? = some xi) : befK ts k i = xi.any fun x => decide (x ∈ xk) := by
  unfold befK
  rw [hk, hi]
  rfl
theorem befT_k2 {ts : List (List Int)} {n k m : Nat} (h : k < n) : (befT ts n k m)[k]? = some (befR ts k m) := by
  rw [befT_get h, if_neg (by omega), if_pos rfl]
theorem th_recs2 {d : Wd} {ss : List Stp} {w w' : World} {e : Ending} (h : ThPost d ss w e w') : ∃ A n c rows, e = .returned (.tuple #[.slice A n c, .int .i64 (thE d ss)]) ∧ Od.ll rows = thR d ss ∧ n = rows.length ∧ Od.RowsAt w' w'.heap.size A rows ∧ Below w.heap.size w w' := by
  obtain ⟨A, n, c, rows, h1, h2, h3, _, _, h4, _, h5⟩ := h
  exact ⟨A, n, c, rows, h1, h2, h3, h4, h5⟩
/-- the rows and the variable k -/
structure BpS (wq : World) (vs : List Value) (B : List (List Int)) (p9 k : Nat) (wr : World) : Prop where
  f : BfS wq vs B wr
  q : Blk wr p9 3 #[.int .i64 (k : Int)]
  nk : ∀ v, vs[k]? = some v → some p9 ≠ v.ownBlock
  ge : wq.heap.size < p9
section
variable {wq w wr w' : World} {vs : List Value} {B : List (List Int)} {p9 k : Nat}
theorem BpS.next (h : BpS wq vs B p9 k wr) (hb : Below wr.heap.size wr w') : BpS wq vs B p9 k w' := ⟨h.f.next hb, h.q.belowB hb, h.nk, h.ge⟩
theorem BpS.start (h : BfS wq vs B wr) (hk : k < B.length) : BpS wq vs B wr.heap.size k (wr.alloc (.cells #[.int .i64 (k : Int)] 3)) := by
  refine ⟨h.next ((Below.refl _ _).alloc (Nat.le_refl _) _), Blk.new _ _ _, fun v hv e => ?_, by have := h.size; omega⟩
  obtain ⟨ys, hy⟩ := get_of_lt rfl hk
  have ho := h.rows.own _ (List.mem_of_getElem? (Od.rowsB_get hv hy))
  have := (ho.lt _ e.symm).2
  omega
theorem wp_append_bp {o : Oper} {a : Act} {K : Act → World → Prop} {Q : Exit → Act → World → Prop} (s x : Operand)
    (ho : o.op = .call { callee := .builtin .append, args := #[s, x], argTypes := #[22, 22] }) {g : Nat} {y : Int} {ys : List Int} {A : Option Addr} {c : Nat} (hO : BpS wq vs B p9 k w) (hk : vs[k]? = some (.slice A ys.length c)) (hy : B[k]? = some ys) (hg : Blk w g 3 #[.int .i64 y]) (hs : a.eval s = .slice A ys.length c) (hx : a.eval x = .slice (some ⟨g, 0, none⟩) 1 1) (hnm : ys.length ≤ 1000)
    (h : ∀ A' c' w', w'.cell? ⟨wq.heap.size, k, none⟩ = some (.slice A ys.length c) → w'.frozen? ⟨wq.heap.size, k, none⟩ = false → w'.cell? ⟨p9, 0, none⟩ = some (.int .i64 (k : Int)) →
      BpS wq (vs.set k (.slice A' (ys.length + 1) c')) (B.set k (ys ++ [y])) p9 k (w'.setCell ⟨wq.heap.size, k, none⟩ (.slice A' (ys.length + 1) c')) → K (a.put o.dst (.slice A' (ys.length + 1) c')) w') : o.wp Try.prog a w K Q := by
  refine wp_append_bf s x ho hO.f hk hy hg hs hx hnm fun A' c' w' h1 h2 h3 h4 h5 h6 => ?_
  have hq : Blk w' p9 3 #[.int .i64 (k : Int)] := hO.q.grown h3 (hO.nk _ hk)
  refine h A' c' w' h1 h2 (hq.cell 0) ⟨h6, hq.far (p := ⟨wq.heap.size, k, none⟩) (by have := hO.ge; dsimp only; omega) _, fun v hv e => ?_, hO.ge⟩
  have hkl := (List.getElem?_eq_some_iff.1 hk).1
  rw [List.getElem?_set, if_pos rfl, if_pos hkl] at hv
  have hv2 := Option.some.inj hv
  subst hv2
  rcases h5 with h5 | h5
  · rw [h5] at e; exact hO.nk _ hk e
  · rw [h5] at e
    have := hO.q.lt
    have := Option.some.inj e
    omega
theorem step_append_bp {ops : Array Oper} {o : Oper} {a : Act} {K : Act → World → Prop} {Q : Exit → Act → World → Prop} {E : Prop} (hgd : o.guard = none) (s x : Operand)
    (ho : o.op = .call { callee := .builtin .append, args := #[s, x], argTypes := #[22, 22] }) {g : Nat} {y : Int} {ys : List Int} {A : Option Addr} {c : Nat} (hO : BpS wq vs B p9 k w) (hk : vs[k]? = some (.slice A ys.length c)) (hy : B[k]? = some ys) (hg : Blk w g 3 #[.int .i64 y]) (hs : a.eval s = .slice A ys.length c) (hx : a.eval x = .slice (some ⟨g, 0, none⟩) 1 1) (hnm : ys.length ≤ 1000)
    (h : ∀ A' c' w', w'.cell? ⟨wq.heap.size, k, none⟩ = some (.slice A ys.length c) → w'.frozen? ⟨wq.heap.size, k, none⟩ = false → w'.cell? ⟨p9, 0, none⟩ = some (.int .i64 (k : Int)) →
      BpS wq (vs.set k (.slice A' (ys.length + 1) c')) (B.set k (ys ++ [y])) p9 k (w'.setCell ⟨wq.heap.size, k, none⟩ (.slice A' (ys.length + 1) c')) → K (a.put o.dst (.slice A' (ys.length + 1) c')) w') :
    if Region.wanted o (yielded ops a.tmps) = true then Oper.wp Try.prog o a w K Q else E := by
  have hw : Region.wanted o (yielded ops a.tmps) = true := by simp [Region.wanted, hgd]
  rw [if_pos hw]
  exact wp_append_bp s x ho hO hk hy hg hs hx hnm h
end
set_option maxHeartbeats 8000000 in
set_option maxRecDepth 20000 in
theorem before_any (d : Wd) (r : Raw) (ss : List Stp) (A : Option Addr) (n c : Nat) (w : World) (hn : n = ss.length) (hm : n * 40 ≤ 140737488351232) (hc : n ≤ c) (h : WOk w r d) (hs : StepsAt w w.heap.size A ss) :
    Calls Try.prog 38 #[wv d.sl r, .slice A n c] w (BePost d ss w) := by
  have HN := Lib.hid hn
  have e1 : Below w.heap.size w (w.alloc (.cells (wcs d.sl r) 25)) := (Below.refl _ _).alloc (Nat.le_refl _) _
  have HB1 := Lib.hid e1
  have HBX := Lib.hid (Blk.new w 25 (wcs d.sl r))
  have HTH := Lib.hid (things_any d r ss A n c (w.alloc (.cells (wcs d.sl r) 25)) hn hm hc (h.next e1) (hs.next e1))
  have HBB := Lib.hid (fun c W hb h0 h1 => be_bad (d := d) (ss := ss) (w := w) (W := W) (c := c) h1 h0 hb)
  have H40 : Hid (thE d ss = 0 → n ≤ 40) := Lib.hid (fun h9 => by
    unfold thE at h9
    split at h9
    · cases h9
    · omega)
  clear e1 h hs hn
  obtain ⟨A1, n1, c1, A2, n2, c2, A3, n3, c3⟩ := r
  unfold wv wcs
  unfold wv wcs at HTH
  unfold wcs at HB1 HBX
  dsimp only at HTH HB1 HBX ⊢
  generalize hsl : d.sl = sl at *
  go_enter Try.func38, Try.ntmps38
  go_upto_region 1 with (fail)
  generalize World.alloc w _ = w1 at *
  have k0 := HBX.out.cell 0
  have k1 := HBX.out.cell 1
  have k2 := HBX.out.cell 2
  have k3 := HBX.out.cell 3
  simp at k0 k1 k2 k3
  go_wp2_with fail
  refine HTH.out.mono ?_
  intro e w2 ht2
  obtain ⟨VA, vn, vc, rows, rfl, hll, hvn, hra, hb2⟩ := th_recs2 ht2
  have hal : Below w2.heap.size w2 (w2.alloc (.cells #[.slice VA vn vc] 57)) := (Below.refl _ _).alloc (Nat.le_refl _) _
  have HB2 := Lib.hid ((HB1.out.trans (hb2.mono HB1.out.size)).trans (hal.mono (HB1.out.trans (hb2.mono HB1.out.size)).size))
  have HRA := Lib.hid (hra.next hal)
  have HB6 := Lib.hid (Blk.new w2 57 #[.slice VA vn vc])
  clear ht2 hra hb2 hal k0 k1 k2 k3 HTH HB1 HBX
  by_cases hec : thE d ss = 0
  · have hll2 : Od.ll rows = thL d ss := by rw [hll]; unfold thR; rw [if_pos hec]
    have HLL := Lib.hid hll2
    have hvn2 : vn = n := by rw [hvn, ← Od.ll_len, hll2, thL_len, HN.out]
    have HVN : Hid (n = rows.length) := Lib.hid (by rw [← hvn2]; exact hvn)
    have h40 := H40.out hec
    have HEC := Lib.hid hec
    rw [hec]
    clear hll hvn hll2 hec HBB
    subst hvn2
    go_upto_region 4 with (fail)
    generalize World.alloc w2 _ = wq at *
    generalize w2.heap.size = p6 at *
    have hmk := Od.make_s vn (by omega) wq
    have HF0 := Lib.hid (bfs_start wq vn)
    go_wp2_with fail
    clear hmk
    generalize World.alloc wq _ = w3 at *
    go_loopg [25] vn (fun kx i wr => ∃ (k : Nat) (vs : List Value), kx = vn - k ∧ k ≤ vn ∧ i = .int .i64 (k : Int) ∧ Hid (BfS wq vs (befT (thL d ss) vn k 0) wr))
    case atStart => exact ⟨0, _, by omega, Nat.zero_le _, rfl, by rw [befT_zero]; exact HF0⟩
    case round =>
      clear HF0
      obtain ⟨k, vs, hgk, hk, rfl, HF⟩ := hrel
      have HGK := Lib.hid hgk; clear hgk
      by_cases hlt : k < vn
      · obtain ⟨⟨RA, rc, rxs⟩, hrk⟩ := get_of_lt HVN.out hlt
        have HTK : Hid ((thL d ss)[k]? = some rxs) := Lib.hid (by rw [← HLL.out]; exact Od.ll_get hrk)
        obtain ⟨b, off, hVA, hbb, hcell, hxl, hxi⟩ := HRA.out k _ hrk
        subst hVA
        dsimp only at hcell hxl hxi
        have HVB : Hid (∀ W, Below wq.heap.size wq W → ∀ p9, W.cell? ⟨p9, 0, none⟩ = some (.int .i64 (k : Int)) → VarB W p6 p9 rxs) := Lib.hid (fun W hb p9 h9 => ⟨b, off, vn, vc, k, RA, rc, (hb.cell (p := ⟨p6, 0, none⟩) HB6.out.lt).trans (HB6.out.cell 0), h9, hlt, (hb.cell (p := ⟨b, off + k, none⟩) hbb).trans hcell, hxl, hxi.next hb⟩)
        clear hrk hcell hxi hbb
        have i1 : (0 : Int) ≤ (k : Int) := by omega
        have i2 : (k : Int) < (vn : Int) := by omega
        have HP := Lib.hid (BpS.start (k := k) HF.out (by rw [befT_len]; exact hlt))
        clear HF
        go_upto_region 8 with (fail)
        generalize World.alloc wr _ = w4 at *
        generalize wr.heap.size = p9 at *
        have c9 := HP.out.q.cell 0
        simp at c9
        go_wp2_with fail
        clear c9
        go_loopg [29] k (fun kx i wr => ∃ (z : Nat) (vs : List Value), kx = k - z ∧ z ≤ k ∧ i = .int .i64 (z : Int) ∧ Hid (BpS wq vs (befT (thL d ss) vn k z) p9 k wr))
        case atStart => exact ⟨0, vs, by omega, Nat.zero_le _, rfl, HP⟩
        case round =>
          clear HP
          obtain ⟨z, vs, hgz, hz, rfl, HP⟩ := hrel
          have HGZ := Lib.hid hgz; clear hgz
          by_cases hltz : z < k
          · obtain ⟨⟨RB, rd, ris⟩, hri⟩ := get_of_lt HVN.out (show z < vn by omega)
            have HTI : Hid ((thL d ss)[z]? = some ris) := Lib.hid (by rw [← HLL.out]; exact Od.ll_get hri)
            obtain ⟨b', off', hVA', hbb', hcell', hxl', hxi'⟩ := HRA.out z _ hri
            cases hVA'
            dsimp only at hcell' hxl' hxi'
            have s0 := (HP.out.f.bel.cell (p := ⟨b, off + z, none⟩) hbb').trans hcell'
            have s6 : wr.cell? ⟨p6, 0, none⟩ = some (.slice (some ⟨b, off, none⟩) vn vc) := (HP.out.f.bel.cell (p := ⟨p6, 0, none⟩) HB6.out.lt).trans (HB6.out.cell 0)
            have HXJ := Lib.hid (hxi'.next HP.out.f.bel)
            have HBK := Lib.hid (befK_eq2 HTK.out HTI.out)
            generalize hbk : befK (thL d ss) k z = bk at *
            have HCO := Lib.hid (containsB_any ris rxs RB ris.length rd p6 p9 wr rfl hxl' HXJ.out (HVB.out _ HP.out.f.bel p9 (HP.out.q.cell 0)) HBK.out.symm)
            have HBK2 := Lib.hid hbk
            clear hri hcell' hxi' hbb' hxl' hbk HBK
            have j1 : (0 : Int) ≤ (z : Int) := by omega
            have j2 : (z : Int) < (vn : Int) := by omega
            have j3 : (z : Int) < (k : Int) := by omega
            generalize hxn : ris.length = mi at *
            clear hxn
            cases bk with
            | true =>
              have hyk : (befT (thL d ss) vn k z)[k]? = some (befR (thL d ss) k z) := befT_k2 hlt
              obtain ⟨AK, cK, hvk, hck, hok⟩ := HP.out.f.at_ hyk
              have HLK : Hid ((befR (thL d ss) k z).length ≤ 1000) := Lib.hid (by have := befR_len (thL d ss) k z; omega)
              have HBT : Hid (befT (thL d ss) vn k (z + 1) = (befT (thL d ss) vn k z).set k (befR (thL d ss) k z ++ [(z : Int)])) := Lib.hid (by rw [befT_step hlt, befR_yes HBK2.out])
              have HVK := Lib.hid hvk
              have HYK := Lib.hid hyk
              clear hvk hyk hok
              go_wp2_with fail
              refine HCO.out.mono ?_
              rintro e w5 ⟨rfl, rfl⟩
              have c9 := HP.out.q.cell 0
              simp at c9
              have hpl := HP.out.q.lt
              have hGl := HP.out.f.blk.lt
              go_wp2_with fail
              go_region_law (first
                | (refine step_append_bp rfl (.tmp 43) (.tmp 45) rfl (by first | exact (HP.out.next ((Below.refl _ _).alloc (Nat.le_refl _) _)).next (Below.refl _ _).drew | exact (HP.out.next (Below.refl _ _).drew).next ((Below.refl _ _).alloc (Nat.le_refl _) _)) HVK.out HYK.out (by first | exact Blk.new _ _ _ | exact (Blk.new _ _ _).drew) rfl rfl HLK.out ?_
                   intro A5 c5 w5 q5 f5 z5 hB5
                   have HB5 := Lib.hid hB5
                   clear hB5)
                | fail)
              all_goals
                go_wp2_with fail
                go_roundg (k - (z + 1))
                case measure => rw [HGZ.out]; omega
                case rel => exact ⟨z + 1, _, rfl, by omega, by go_num, by rw [HBT.out]; exact HB5⟩
            | false =>
              have HP9 : Hid (BpS wq vs (befT (thL d ss) vn k (z + 1)) p9 k wr) := Lib.hid (by rw [befT_stay HBK2.out]; exact HP.out)
              go_wp2_with fail
              refine HCO.out.mono ?_
              rintro e w5 ⟨rfl, rfl⟩
              go_wp2_with fail
              go_roundg (k - (z + 1))
              case measure => rw [HGZ.out]; omega
              case rel => exact ⟨z + 1, _, rfl, by omega, by go_num, HP9⟩
          · obtain rfl : z = k := by omega
            have HF9 : Hid (BfS wq vs (befT (thL d ss) vn (z + 1) 0) wr) := Lib.hid (by rw [befT_row]; exact HP.out.f)
            go_wp2_with fail
            go_roundg (vn - (z + 1))
            case measure => rw [HGK.out]; omega
            case rel => exact ⟨z + 1, _, rfl, by omega, by go_num, HF9⟩
      · obtain rfl : k = vn := by omega
        have HFIN := Lib.hid (be_ok HN.out h40 HEC.out HB2.out HF.out)
        go_wp2_with fail
        go_ret2
        exact HFIN.out
  · have hne : (thE d ss != 0) = true := by simp [hec]
    have HE := Lib.hid hec
    clear hvn hll
    go_wp2_with fail
    go_ret2
    exact HBB.out (thE d ss) _ HB2.out HE.out rfl
end Go.Proofs.Ytnaiflokmihmeaa
