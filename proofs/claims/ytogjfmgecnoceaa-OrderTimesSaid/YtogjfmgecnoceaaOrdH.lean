/- Walks: LatestOf (reference), the walk. -/
import Derived.Test.YtogjfmgecnoceaaOrdG
namespace Go.Proofs.Ytogjfmgecnoceaa
open Go.RowKit
set_option linter.unusedVariables false
set_option linter.unusedSimpArgs false

def LateOfPost (rs : List (List Int)) (ts : List Int) (n : Nat) (L : Nat → Int) (w : World) (e : Ending) (w' : World) : Prop := ∃ v, e = .returned v ∧ IntsV w' v (lateOf rs.length ts (endB rs ts rs.length) L) ∧ Below w.heap.size w w'
theorem rw_add (v : Value) (ys : List Int) (x : Int) : (⟨v, 3, 1, ys.length + 1, cellsI ys ++ (#[.int .i64 x] : Array Value).toList⟩ : Rw) = ⟨v, 3, 1, (ys ++ [x]).length, cellsI (ys ++ [x])⟩ := by
  have e : cellsI (ys ++ [x]) = cellsI ys ++ [.int .i64 x] := by simp [cellsI]
  rw [e, List.length_append]
  rfl
theorem BkS.pushed {w w3 wr w4 : World} {G g2 y yl : Nat} {vs : List Value} {B : List (List Int)} {own ys : List Int} {v v4 : Value} {z : Int} (h : BkS w w3 G g2 vs B own wr) (hne : G ≠ g2) (hG : G < w3.heap.size) (h2 : g2 < w3.heap.size) (hw : w.heap.size ≤ G) (hw3 : w.heap.size ≤ w3.heap.size) (hv : vs[y]? = some v) (hys : B[y]? = some ys) (hyl : ys.length = yl)
    (hR : RwsB w3.heap.size ((rowsB vs B).set y ⟨v4, 3, 1, yl + 1, cellsI ys ++ (#[.int .i64 z] : Array Value).toList⟩) w4) (hk : ∀ k, k < w3.heap.size → w4.heap[k]? = wr.heap[k]?) (hb : Below w3.heap.size wr w4) :
    ∃ A c, v4 = .slice A (yl + 1) c ∧ w4.cell? ⟨G, y, none⟩ = some v ∧ w4.frozen? ⟨G, y, none⟩ = false ∧ BkS w w3 G g2 (vs.set y (.slice A (yl + 1) c)) (B.set y (ys ++ [z])) own (w4.setCell ⟨G, y, none⟩ (.slice A (yl + 1) c)) := by
  subst hyl
  rw [rw_add] at hR
  have hlt : y < (rowsB vs B).length := by
    have := rowsB_get hv hys
    exact (List.getElem?_eq_some_iff.1 this).1
  have ho := hR.own _ (List.mem_of_getElem? (List.getElem?_set_self hlt))
  obtain ⟨A, c, rfl, _⟩ := IntsAt.of_own ho
  have hb4 : Blk w4 G 23 vs.toArray := (hk G hG).trans h.blk
  have e : (ys ++ [z]).length = ys.length + 1 := by simp
  refine ⟨A, c, by rw [e], ?_, hb4.frozen y, ?_⟩
  · rw [hb4.cell]; simp [hv]
  · have := h.setRow hne hG h2 hw hw3 hR hk hb
    rw [e] at this
    exact this
theorem lateOf_take {n : Nat} {ts : List Int} {E : Int} {L : Nat → Int} {k : Nat} (hk : k < n) : (lateOf n ts E L).take (k+1) = (lateOf n ts E L).take k ++ [E - nth ts (k : Int) - L k] := by
  rw [List.take_add_one]
  congr 1
  simp [lateOf, hk]

set_option maxHeartbeats 4000000 in
set_option maxRecDepth 20000 in
theorem lateof_any (rs : List Row) (A : Option Addr) (n c : Nat) (ts : List Int) (A1 : Option Addr) (n1 c1 : Nat) (w : World) (hn : n = rs.length) (hv : Vld (ll rs)) (h : RowsAt w w.heap.size A rs) (hn1 : n1 = ts.length) (hnn : n1 = n) (ht : ∀ t ∈ ts, 0 ≤ t ∧ t ≤ 2000) (hs : IntsAt w w.heap.size A1 ts) (L : Nat → Int) (hL : Back (ll rs) ts L) :
    Calls Try.prog 25 #[.slice A n c, .slice A1 n1 c1] w (LateOfPost (ll rs) ts n L w) := by
  subst hnn
  have HN := Lib.hid hn
  have HNL := Lib.hid (show n1 = (ll rs).length by rw [ll_len]; exact hn); clear hn
  have HN1 := Lib.hid hn1; clear hn1
  have H := Lib.hid h; clear h
  have HTB := Lib.hid ht; clear ht
  have H1 := Lib.hid hs; clear hs
  have HBK := Lib.hid hL; clear hL
  have h40 : n1 ≤ 40 := by rw [HNL.out]; exact hv.le
  have HV := Lib.hid hv; clear hv
  have hmk1 := make_s n1 (by omega)
  have hmk2 := make_i n1 (by omega)
  go_enter Try.func25, Try.ntmps25
  go_wp2_with fail
  clear hmk1 hmk2
  have HB0 : Hid (BkS w ((w.alloc (.cells (Array.replicate n1 (.slice none 0 0)) 23)).alloc (.cells (Array.replicate n1 (.int .i64 0)) 3)) w.heap.size (w.heap.size + 1) (List.replicate n1 (.slice none 0 0)) (List.replicate n1 []) (List.replicate n1 0) ((w.alloc (.cells (Array.replicate n1 (.slice none 0 0)) 23)).alloc (.cells (Array.replicate n1 (.int .i64 0)) 3))) := Lib.hid (by
    have e1 : (w.alloc (.cells (Array.replicate n1 (.slice none 0 0)) 23)).heap.size = w.heap.size + 1 := by simp
    refine ⟨?_, ?_, by simp, ⟨fun r hr => ?_, ?_⟩, Nat.le_refl _, ((Below.refl _ _).alloc (Nat.le_refl _) _).alloc (by simp) _⟩
    · have := (Blk.new w 23 (Array.replicate n1 (.slice none 0 0))).alloc (.cells (Array.replicate n1 (.int .i64 0)) 3)
      rw [show (List.replicate n1 (Value.slice none 0 0)).toArray = Array.replicate n1 (.slice none 0 0) by simp]
      exact this
    · have := IBlk.made (w.alloc (.cells (Array.replicate n1 (.slice none 0 0)) 23)) n1
      rw [e1] at this
      exact this
    · unfold rowsB at hr
      obtain ⟨p, hp, rfl⟩ := List.mem_map.1 hr
      obtain ⟨h1, h2⟩ := List.of_mem_zip hp
      rw [(List.mem_replicate.1 h1).2, (List.mem_replicate.1 h2).2]
      exact ⟨by simp [cellsI], .inl ⟨rfl, by simp [cellsI]⟩⟩
    · rw [List.pairwise_iff_forall_sublist]
      intro a b hab
      refine .inl ?_
      have ha := hab.subset (List.mem_cons_self)
      unfold rowsB at ha
      obtain ⟨p, hp, rfl⟩ := List.mem_map.1 ha
      obtain ⟨h1, _⟩ := List.of_mem_zip hp
      rw [(List.mem_replicate.1 h1).2]
      rfl)
  have hw3 : w.heap.size + 2 = ((w.alloc (.cells (Array.replicate n1 (.slice none 0 0)) 23)).alloc (.cells (Array.replicate n1 (.int .i64 0)) 3)).heap.size := by simp
  generalize ((w.alloc (.cells (Array.replicate n1 (.slice none 0 0)) 23)).alloc (.cells (Array.replicate n1 (.int .i64 0)) 3)) = w3 at *
  have HW3 := Lib.hid hw3; clear hw3
  have hG : w.heap.size < w3.heap.size := by rw [← HW3.out]; omega
  have hg2 : w.heap.size + 1 < w3.heap.size := by rw [← HW3.out]; omega
  obtain ⟨g2, hg2e⟩ : ∃ g2, g2 = w.heap.size + 1 := ⟨_, rfl⟩
  rw [← hg2e] at HB0 hg2 ⊢
  have hne : w.heap.size ≠ g2 := by omega
  have hwg : w.heap.size ≤ g2 := by omega
  clear hg2e
  obtain ⟨N, hN⟩ : ∃ N, N = n1 - 1 := ⟨_, rfl⟩
  have HNN := Lib.hid hN; clear hN
  go_loopg [24] n1 (fun k i wr => ∃ (j : Nat) (vs : List Value) (B : List (List Int)) (own : List Int), k = n1 - j ∧ j ≤ n1 ∧ i = .int .i64 j ∧ Hid (BkS w w3 w.heap.size g2 vs B own wr) ∧ Hid (Bld n1 (ll rs) ts j 0 j B own))
  case atStart => exact ⟨0, _, _, _, by omega, Nat.zero_le _, rfl, HB0.out, Bld.zero _ _ _⟩
  case round =>
    clear HB0
    obtain ⟨j, vs, B, own, hgk, hj, rfl, hbs, hbd⟩ := hrel
    have HGK := Lib.hid hgk; clear hgk
    by_cases hlt : j < n1
    · obtain ⟨r, hr⟩ := get_of_lt HN.out hlt
      obtain ⟨t, ht⟩ := get_of_lt HN1.out hlt
      obtain ⟨b, off, rfl, hb, h0, hxm, hx⟩ := H.out j r hr
      obtain ⟨b1, off1, rfl, hb1, h1⟩ := H1.out j t ht
      have HR := Lib.hid (ll_get hr); clear hr
      have HX := Lib.hid hx; clear hx
      have HTN := Lib.hid (nth_get ht); clear ht
      have HLOW := Lib.hid (HV.out.lt j r.xs HR.out)
      have HRL := Lib.hid (row_len HV.out HR.out)
      obtain ⟨tA, tc, txs⟩ := r
      dsimp only at h0 hxm HX HR HLOW HRL
      generalize hm2 : txs.length = m at *
      have HM := Lib.hid hm2; clear hm2
      have g0 := (hbs.out.bel.cell (p := ⟨b, off + j, none⟩) hb).trans h0
      have g1 := (hbs.out.bel.cell (p := ⟨b1, off1 + j, none⟩) hb1).trans h1
      clear h0 h1
      obtain ⟨z, hz⟩ : ∃ z, z = n1 - 1 - j := ⟨_, rfl⟩
      have HZ := Lib.hid hz
      obtain ⟨o, ho⟩ := get_of_lt hbd.out.own.1.symm (show z < n1 by omega)
      have g2' := hbs.out.own.cell ho
      have g3' := hbs.out.own.frozen z
      clear ho
      have e1 : (n1 : Int) - 1 = (N : Int) := by have := HNN.out; omega
      have e2 : (N : Int) - (j : Int) = (z : Int) := by have := HNN.out; omega
      have hzn : z < n1 := by omega
      have hnj : n1 ≠ 0 := by omega
      clear hz
      have HB1 := Lib.hid (hbs.out.setOwn hne hg2 hwg z t)
      have HD1 := Lib.hid (hbd.out.setOwn hlt HTN.out)
      rw [← HZ.out] at HD1
      go_wp2_with fail
      clear g0 g1 g2' g3' e2
      generalize wr.setCell ⟨g2, z, none⟩ (.int .i64 t) = w5 at *
      generalize own.set z t = own' at *
      clear hbs hbd
      go_loopg [41] m (fun kk i wi => ∃ (q : Nat) (vs : List Value) (B : List (List Int)), kk = m - q ∧ q ≤ m ∧ i = .int .i64 q ∧ Hid (BkS w w3 w.heap.size g2 vs B own' wi) ∧ Hid (Bld n1 (ll rs) ts j q (j+1) B own'))
      case atStart => exact ⟨0, vs, B, by omega, Nat.zero_le _, rfl, HB1.out, HD1.out⟩
      case round =>
        clear HB1 HD1
        obtain ⟨q, vs, B, hgk2, hq, rfl, hbs, hbd⟩ := hrel
        have HGK2 := Lib.hid hgk2; clear hgk2
        by_cases hlt2 : q < m
        · obtain ⟨x, hx⟩ := get_of_lt HM.out.symm hlt2
          obtain ⟨x1, x2⟩ := HLOW.out x (List.mem_of_getElem? hx)
          obtain ⟨x, rfl⟩ := Int.eq_ofNat_of_zero_le x1
          have hxj : x < j := by omega
          obtain ⟨b', off', rfl, hb', c0⟩ := HX.out q x hx
          have c1 := (hbs.out.bel.cell (p := ⟨b', off' + q, none⟩) hb').trans c0
          clear c0 x1 x2
          obtain ⟨y, hy⟩ : ∃ y, y = n1 - 1 - x := ⟨_, rfl⟩
          have HY := Lib.hid hy
          obtain ⟨ys, hys⟩ := get_of_lt hbd.out.bi.len.symm (show y < n1 by omega)
          have HPU := Lib.hid (hbd.out.push HR.out hx (by omega) (by rw [← HY.out]; exact hys))
          rw [← HY.out, ← HZ.out] at HPU
          clear hx
          obtain ⟨v, hv, hcell, hrow, A6, c6, rfl⟩ := hbs.out.at_ hys
          have hsh := hbd.out.short ys (List.mem_of_getElem? hys)
          have hrl := HRL.out
          have hnm : ys.length + 1 ≤ 4294967296 := by omega
          clear hrl
          have HROW := Lib.hid hrow
          have HVS := Lib.hid (And.intro hv hys)
          clear hv hys hrow
          generalize hyl : ys.length = yl at *
          have HYL := Lib.hid hyl; clear hyl
          have e1 : (n1 : Int) - 1 = (N : Int) := by have := HNN.out; omega
          have e2 : (N : Int) - (j : Int) = (z : Int) := by have := HNN.out; have := HZ.out; omega
          have e3 : (N : Int) - (x : Int) = (y : Int) := by have := HNN.out; omega
          have hyn : y < n1 := by omega
          clear hy
          have hsz := hbs.out.size
          go_wp2_with (
            at_builtin
            refine wpList_append_at rfl (.tmp 56) (.tmp 61) _ rfl Try.underlying23 infoI rfl rfl hbs.out.rows hsz HROW.out rfl rfl rfl (one_i _) hnm ?_
            intro v4 w4 hR4 hk4 hb4 h14
            obtain ⟨A7, c7, rfl, g5, g6, hB4⟩ := hbs.out.pushed hne hG hg2 (Nat.le_refl _) (by omega) HVS.out.1 HVS.out.2 HYL.out hR4 hk4 hb4
            have HB4 := Lib.hid hB4
            clear hR4 hk4 hb4 h14 hB4)
          go_roundg (m - (q + 1))
          case measure => rw [HGK2.out]; omega
          case rel => exact ⟨q+1, _, _, rfl, by omega, by go_num, HB4.out, HPU.out⟩
        · obtain rfl : q = m := by omega
          have hrl := HRL.out
          have HD2 := Lib.hid (hbd.out.next HR.out HM.out (by omega))
          go_wp2_with fail
          go_roundg (n1 - (j + 1))
          case measure => rw [HGK.out]; omega
          case rel => exact ⟨j+1, vs, B, own', rfl, by omega, by go_num, hbs.out, HD2.out⟩
    · obtain rfl : j = n1 := by omega
      obtain ⟨rsB, hll, hlen, hrd⟩ := hbs.out.read
      have HBI : Hid (BI (ll rs).length (Edge (ll rs)) B) := Lib.hid (by
        have h1 := hbd.out.bi.congr (Q' := Edge (ll rs)) fun k x => Up.last HNL.out
        rw [← HNL.out]
        exact h1)
      have HOWN := Lib.hid hbd.out.own
      have HON : Hid (∀ k, k < (ll rs).length → nth own (((ll rs).length - 1 - k : Nat) : Int) = nth ts k) := Lib.hid (by
        intro k hk
        rw [← HNL.out] at hk ⊢
        exact nth_get (HOWN.out.2 k hk hk))
      have HLOWB : Hid (Low (ll rsB)) := Lib.hid (by rw [hll]; exact HBI.out.low HV.out.low)
      have HOB : Hid (∀ t ∈ own, 0 ≤ t ∧ t ≤ 2000) := Lib.hid (by
        intro t ht
        obtain ⟨i, hi⟩ := List.mem_iff_getElem?.1 ht
        have hil : i < j := by rw [← HOWN.out.1]; exact (List.getElem?_eq_some_iff.1 hi).1
        have h1 := HOWN.out.2 (j - 1 - i) (by omega) (by omega)
        rw [show j - 1 - (j - 1 - i) = i by omega, hi] at h1
        rw [Option.some.inj h1]
        exact nth_bd HTB.out _)
      have HE : Hid (endB (ll rsB) own j = endB (ll rs) ts (ll rs).length) := Lib.hid (by
        rw [hll]
        conv => lhs; arg 3; rw [HNL.out]
        exact HBI.out.end_ HV.out.low HON.out HTB.out)
      have HSL : Hid (∀ k, k < j → S (ll rsB) own (j - 1 - k) = L k) := Lib.hid (by
        intro k hk
        have h1 := (HBI.out.back HV.out.low HON.out).uniq HV.out.low HBK.out (ll rs).length k (by rw [← HNL.out]; exact hk) (by omega)
        rw [hll]
        rw [← HNL.out] at h1
        exact h1)
      have HC := Lib.hid (starts_any rsB (some ⟨w.heap.size, 0, none⟩) j j own (some ⟨g2, 0, none⟩) j j wr (by rw [hlen, HBI.out.len]; exact HNL.out) HLOWB.out h40 hrd HOWN.out.1.symm rfl HOB.out hbs.out.own.ints)
      clear hll hlen hrd
      go_wp2_with fail
      refine HC.out.mono ?_
      rintro e w6 ⟨v12, rfl, ⟨A12, c12, rfl, hl12, hm12, hi12⟩, hb6⟩
      rw [HE.out]
      have hsl := startsOf_len (ll rsB) own j
      rw [hsl] at hl12 ⊢
      clear hsl
      have HI12 := Lib.hid hi12; clear hi12
      unfold maxLen at hm12
      have hbw6 := Lib.hid (hbs.out.bel.trans (hb6.mono hbs.out.bel.size))
      have hend := endB_bd HV.out.low HTB.out (ll rs).length
      have HLB : Hid (∀ k, k < j → 0 ≤ L k ∧ nth ts k + L k ≤ endB (ll rs) ts (ll rs).length) := Lib.hid (fun k hk => HBK.out.bd HV.out.low HTB.out (by rw [← HNL.out]; exact hk))
      obtain ⟨E, hE⟩ : ∃ E, endB (ll rs) ts (ll rs).length = E := ⟨_, rfl⟩
      have HEE := Lib.hid hE
      rw [hE] at HLB hend ⊢
      rw [← HNL.out] at hend
      clear hE
      obtain ⟨en0, en1⟩ := hend
      have HLL := Lib.hid (show (ll rs).length = j from HNL.out.symm)
      clear HBI HOWN HON HLOWB HOB HE hbs hbd HC
      go_wp2_with fail
      go_loopg [14, 74] j (fun kk o i wi => ∃ q : Nat, kk = j - q ∧ q ≤ j ∧ i = .int .i64 q ∧ Hid (IRow w6 o ((lateOf (ll rs).length ts E L).take q) wi))
      case atStart => exact ⟨0, by omega, Nat.zero_le _, rfl, IRow.nil (Below.refl _ _)⟩
      case round =>
        obtain ⟨q, hgk2, hq, rfl, hrow⟩ := hrel
        have HGK2 := Lib.hid hgk2; clear hgk2
        by_cases hlt2 : q < j
        · obtain ⟨z, hz⟩ : ∃ z, z = j - 1 - q := ⟨_, rfl⟩
          have hzj : z < j := by omega
          obtain ⟨sv, hsv⟩ := get_of_lt (startsOf_len (ll rsB) own j).symm hzj
          have hsl : sv = L q := by
            have h1 := nth_get hsv
            rw [nth_startsOf hzj, hz, HSL.out q hlt2] at h1
            exact h1.symm
          obtain ⟨b12, off12, rfl, hb12, h12⟩ := HI12.out z sv hsv
          obtain ⟨t, ht⟩ := get_of_lt HN1.out hlt2
          obtain ⟨b1, off1, rfl, hb1, h1⟩ := H1.out q t ht
          obtain ⟨l0, l1⟩ := HLB.out q hlt2
          rw [nth_get ht, ← hsl] at l1
          rw [← hsl] at l0
          obtain ⟨t1, t2⟩ := HTB.out t (List.mem_of_getElem? ht)
          have HTK : Hid ((lateOf (ll rs).length ts E L).take (q+1) = (lateOf (ll rs).length ts E L).take q ++ [E - sv - t]) := Lib.hid (by
            rw [lateOf_take (by rw [HLL.out]; exact hlt2), nth_get ht, hsl]
            congr 2
            omega)
          have HLEN : Hid (((lateOf (ll rs).length ts E L).take q).length = q) := Lib.hid (by
            rw [List.length_take]; simp [lateOf]; rw [HLL.out]; omega)
          clear hsv hsl ht
          have H12 := Lib.hid h12; clear h12
          have H11 := Lib.hid ((hbw6.out.cell (p := ⟨b1, off1 + q, none⟩) hb1).trans h1); clear h1
          have hb1' : b1 < w6.heap.size := Nat.lt_of_lt_of_le hb1 hbw6.out.size
          have c12 := (hrow.out.bel.cell (p := ⟨b12, off12 + z, none⟩) hb12).trans H12.out
          have c11 := (hrow.out.bel.cell (p := ⟨b1, off1 + q, none⟩) hb1').trans H11.out
          have e1 : (j : Int) - 1 = (N : Int) := by have := HNN.out; omega
          have e2 : (N : Int) - (q : Int) = (z : Int) := by have := HNN.out; omega
          have w1' : IntKind.i64.wrap ((j : Int) - 1) = (N : Int) := by rw [i64_w _ (by omega) (by omega)]; exact e1
          have w2' : IntKind.i64.wrap ((N : Int) - (q : Int)) = (z : Int) := by rw [i64_w _ (by omega) (by omega)]; exact e2
          have w3' := i64_w (E - sv) (by omega) (by omega)
          have w4' := i64_w (E - sv - t) (by omega) (by omega)
          have hnm : q + 1 ≤ 4294967296 := by omega
          have i1 : (0 : Int) ≤ (z : Int) := by omega
          have i2 : (z : Int) < (j : Int) := by omega
          have i3 : (0 : Int) ≤ (q : Int) := by omega
          have i4 : (q : Int) < (j : Int) := by omega
          clear hz e1 e2
          go_wp2_with fail
          go_region_held3 (fun w' => w'.cell? ⟨b12, off12 + z, none⟩ = some (.int .i64 sv) ∧ w'.cell? ⟨b1, off1 + q, none⟩ = some (.int .i64 t))
            (go_keep)
            (first
              | (refine step_append_box rfl (.tmp 77) (.tmp 92) _ rfl Try.underlying23 infoI rfl rfl (by first | exact Rws.drew (Rws.alloc (hrow.out.row HLEN.out) _) | exact Rws.alloc (Rws.drew (hrow.out.row HLEN.out)) _) (by first | exact (Blk.new _ _ _).drew | exact Blk.new _ _ _) rfl rfl rfl (one_i _) hnm ?_
                 intro v6 w7 hR7 hb7
                 have r1 := (hb7.cell (p := ⟨b12, off12 + z, none⟩) hb12).trans H12.out
                 have r2 := (hb7.cell (p := ⟨b1, off1 + q, none⟩) hb1').trans H11.out)
              | fail)
          all_goals
            have HR7 := Lib.hid (IRow.add HLEN.out hR7)
            clear hR7 hb7 r1 r2 w1' w2' w3' w4'
            go_wp2_with fail
            go_roundg (j - (q + 1))
            case measure => rw [HGK2.out]; omega
            case rel => exact ⟨q+1, rfl, by omega, by go_num, HR7.out.re HTK.out⟩
        · obtain rfl : q = j := by omega
          have HTK : Hid ((lateOf (ll rs).length ts E L).take q = lateOf (ll rs).length ts (endB (ll rs) ts (ll rs).length) L) := Lib.hid (by
            rw [HEE.out, List.take_of_length_le]
            simp [lateOf]; rw [HLL.out]; exact Nat.le_refl _)
          go_wp2_with fail
          go_ret
          exact ⟨_, rfl, by rw [← HTK.out]; exact hrow.out.intsV, hbw6.out.trans (hrow.out.bel.mono hbw6.out.size)⟩
end Go.Proofs.Ytogjfmgecnoceaa
