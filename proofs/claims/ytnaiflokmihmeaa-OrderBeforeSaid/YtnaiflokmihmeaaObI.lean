/- Walk: BeforeOf (reference). -/
import Derived.Test.YtnaiflokmihmeaaObH
namespace Go.Proofs.Ytnaiflokmihmeaa
open Go.RowKit
set_option linter.unusedVariables false
set_option linter.unusedSimpArgs false

abbrev eI (x : Int) : Value := .int .i64 x
theorem kEI : KLaw Try.prog 3 eI := klaw_int Try.underlying3
theorem zBo2 (w : World) : (zeroValue 4).run Try.prog w = .ok (.bool false) w := by kernel_rfl
theorem own_setI_ne {w : World} {base size n b : Nat} {e : TypeId} {v : Value} {xs : List Value} {l : List Int} (h : w.ownsRow base e size v n xs) (hM : SetN eI w b l) : some b ≠ v.ownBlock := by
  rcases h.2 with ⟨rfl, _⟩ | ⟨g, c, cur, rfl, _, hh, _⟩
  · simp [Value.ownBlock]
  · intro he
    have : b = g := by simpa [Value.ownBlock] using he
    subst this
    obtain ⟨es, clock, hb, _⟩ := hM
    rw [hb] at hh
    cases hh
/-- the rows and the set -/
structure BgS (wq : World) (vs : List Value) (B : List (List Int)) (mb : Nat) (l : List Int) (wr : World) : Prop where
  f : BfS wq vs B wr
  s : SetN eI wr mb l
  ge : wq.heap.size < mb
section
variable {wq wr w' : World} {vs : List Value} {B : List (List Int)} {mb : Nat} {l : List Int}
theorem BgS.next (h : BgS wq vs B mb l wr) (hb : Below wr.heap.size wr w') : BgS wq vs B mb l w' := ⟨h.f.next hb, h.s.next hb, h.ge⟩
theorem BgS.put (h : BgS wq vs B mb l wr) {x : Int} (hs : SetN eI w' mb (sput l x)) (hg : wr.grownBy w' (some mb)) : BgS wq vs B mb (sput l x) w' := by
  obtain ⟨es, clock, hm, _⟩ := h.s
  exact ⟨h.f.turn hm (by have := h.ge; omega) hg, hs, h.ge⟩
theorem BgS.start (h : BfS wq vs B wr) : BgS wq vs B wr.heap.size [] (wr.alloc (.map #[] 0)) :=
  ⟨h.next ((Below.refl _ _).alloc (Nat.le_refl _) _), SetN.made wr, by have := h.size; omega⟩
end
theorem befK_eq {ts : List (List Int)} {k i : Nat} {xk xi : List Int} (hk : ts[k]? = some xk) (hi : ts[i]? = some xi) : befK ts k i = xi.any fun x => decide (x ∈ xk) := by
  unfold befK
  rw [hk, hi]
  rfl
theorem take_succ_mem {xs : List Int} {q : Nat} {x : Int} (h : xs[q]? = some x) (c : Int) : c ∈ xs.take (q + 1) ↔ c ∈ xs.take q ∨ c = x := by
  rw [List.take_add_one, h]
  simp
theorem befT_k {ts : List (List Int)} {n k m : Nat} (h : k < n) : (befT ts n k m)[k]? = some (befR ts k m) := by
  rw [befT_get h, if_neg (by omega), if_pos rfl]
theorem th_recs {d : Wd} {ss : List Stp} {w w' : World} {e : Ending} (h : ThPost d ss w e w') : ∃ A n c rows, e = .returned (.tuple #[.slice A n c, .int .i64 (thE d ss)]) ∧ Od.ll rows = thR d ss ∧ n = rows.length ∧ Od.RowsAt w' w'.heap.size A rows ∧ Below w.heap.size w w' := by
  obtain ⟨A, n, c, rows, h1, h2, h3, _, _, h4, _, h5⟩ := h
  exact ⟨A, n, c, rows, h1, h2, h3, h4, h5⟩
set_option maxHeartbeats 4000000 in
set_option maxRecDepth 20000 in
theorem beforeOf_any (d : Wd) (r : Raw) (ss : List Stp) (A : Option Addr) (n c : Nat) (w : World) (hn : n = ss.length) (hm : n * 40 ≤ 140737488351232) (hc : n ≤ c) (h : WOk w r d) (hs : StepsAt w w.heap.size A ss) (hlo : ∀ x ∈ d.pl, -9223372036854775808 ≤ x) :
    Calls Try.prog 39 #[wv d.sl r, .slice A n c] w (BePost d ss w) := by
  have HN := Lib.hid hn
  have e1 : Below w.heap.size w (w.alloc (.cells (wcs d.sl r) 25)) := (Below.refl _ _).alloc (Nat.le_refl _) _
  have HB1 := Lib.hid e1
  have HBX := Lib.hid (Blk.new w 25 (wcs d.sl r))
  have HTH := Lib.hid (thingsOf_any d r ss A n c (w.alloc (.cells (wcs d.sl r) 25)) hn hm hc (h.next e1) (hs.next e1) hlo)
  have HBB := Lib.hid (fun c W hb h0 h1 => be_bad (d := d) (ss := ss) (w := w) (W := W) (c := c) h1 h0 hb)
  have H40 : Hid (thE d ss = 0 → n ≤ 40) := Lib.hid (fun h9 => by
    unfold thE at h9
    split at h9
    · cases h9
    · omega)
  clear e1 h hs hn hlo
  obtain ⟨A1, n1, c1, A2, n2, c2, A3, n3, c3⟩ := r
  unfold wv wcs
  unfold wv wcs at HTH
  unfold wcs at HB1 HBX
  dsimp only at HTH HB1 HBX ⊢
  generalize hsl : d.sl = sl at *
  go_enter Try.func39, Try.ntmps39
  go_upto_region 1 with (fail)
  generalize World.alloc w _ = w1 at *
  have k0 := HBX.out.cell 0
  have k1 := HBX.out.cell 1
  have k2 := HBX.out.cell 2
  have k3 := HBX.out.cell 3
  simp at k0 k1 k2 k3
  go_wp2_with fail
  refine HTH.out.mono ?_
  intro e w2 ht2
  obtain ⟨VA, vn, vc, rows, rfl, hll, hvn, hra, hb2⟩ := th_recs ht2
  have HB2 := Lib.hid (HB1.out.trans (hb2.mono HB1.out.size))
  have HRA := Lib.hid hra
  clear ht2 hra hb2 k0 k1 k2 k3 HTH HB1 HBX
  by_cases hec : thE d ss = 0
  · have hll2 : Od.ll rows = thL d ss := by rw [hll]; unfold thR; rw [if_pos hec]
    have HLL := Lib.hid hll2
    have hvn2 : vn = n := by rw [hvn, ← Od.ll_len, hll2, thL_len, HN.out]
    have HVN : Hid (n = rows.length) := Lib.hid (by rw [← hvn2]; exact hvn)
    have h40 := H40.out hec
    have HEC := Lib.hid hec
    rw [hec]
    clear hll hvn hll2 hec HBB
    subst hvn2
    have hmk := Od.make_s vn (by omega) w2
    have HF0 := Lib.hid (bfs_start w2 vn)
    go_wp2_with fail
    clear hmk
    generalize World.alloc w2 _ = w3 at *
    go_loopg [30] vn (fun kx i wr => ∃ (k : Nat) (vs : List Value), kx = vn - k ∧ k ≤ vn ∧ i = .int .i64 (k : Int) ∧ Hid (BfS w2 vs (befT (thL d ss) vn k 0) wr))
    case atStart => exact ⟨0, _, by omega, Nat.zero_le _, rfl, by rw [befT_zero]; exact HF0⟩
    case round =>
      clear HF0
      obtain ⟨k, vs, hgk, hk, rfl, HF⟩ := hrel
      have HGK := Lib.hid hgk; clear hgk
      by_cases hlt : k < vn
      · obtain ⟨⟨RA, rc, rxs⟩, hrk⟩ := get_of_lt HVN.out hlt
        have HTK : Hid ((thL d ss)[k]? = some rxs) := Lib.hid (by rw [← HLL.out]; exact Od.ll_get hrk)
        obtain ⟨b, off, hVA, hbb, hcell, hxl, hxi⟩ := HRA.out k _ hrk
        subst hVA
        dsimp only at hcell hxl hxi
        have s0 := (HF.out.bel.cell (p := ⟨b, off + k, none⟩) hbb).trans hcell
        have HXI := Lib.hid (fun W (hb : Below w2.heap.size w2 W) => hxi.next hb)
        have HBC := Lib.hid (And.intro hbb trivial)
        clear hrk hcell hxi hbb
        have i1 : (0 : Int) ≤ (k : Int) := by omega
        have i2 : (k : Int) < (vn : Int) := by omega
        have hmm := @run_makeMap Try.prog
        have HG0 := Lib.hid (BgS.start HF.out)
        have s1 : (wr.alloc (.map #[] 0)).cell? ⟨b, off + k, none⟩ = some (.slice RA rxs.length rc) := by
          have hbr : b < wr.heap.size := Nat.lt_of_lt_of_le HBC.out.1 HF.out.bel.size
          exact (((Below.refl wr.heap.size wr).alloc (Nat.le_refl _) (.map #[] 0)).cell (p := ⟨b, off + k, none⟩) hbr).trans s0
        generalize hxn : rxs.length = m at *
        have HXN := Lib.hid hxn
        clear hxn
        go_wp2_with fail
        clear hmm s0 s1 HF
        generalize World.alloc wr _ = w4 at *
        generalize wr.heap.size = mb at *
        go_loopg [39] m (fun kx i wr => ∃ (q : Nat) (l : List Int), kx = m - q ∧ q ≤ m ∧ i = .int .i64 (q : Int) ∧ Hid (BgS w2 vs (befT (thL d ss) vn k 0) mb l wr) ∧ Hid (∀ c, c ∈ l ↔ c ∈ rxs.take q))
        case atStart => exact ⟨0, [], by omega, Nat.zero_le _, rfl, HG0, Lib.hid (fun c => by simp)⟩
        case round =>
          clear HG0
          obtain ⟨q, l, hgq, hq, rfl, HG, HM⟩ := hrel
          have HGQ := Lib.hid hgq; clear hgq
          by_cases hltq : q < m
          · obtain ⟨x, hx⟩ := get_of_lt HXN.out.symm hltq
            obtain ⟨b3, off3, hA3, hb3, hc3⟩ := HXI.out _ HG.out.f.bel q x hx
            have HM2 : Hid (∀ c, c ∈ sput l x ↔ c ∈ rxs.take (q + 1)) := Lib.hid (fun c => by rw [sput_mem, take_succ_mem hx, HM.out])
            clear hx hb3
            subst hA3
            have j1 : (0 : Int) ≤ (q : Int) := by omega
            have j2 : (q : Int) < (m : Int) := by omega
            go_wp2_with (at_mapUpdate; refine wpList_set_put _ rfl _ _ _ 90 rfl kEI Try.underlying90 HG.out.s x rfl rfl rfl ?_; intro w5 hs5 hg5 hz5)
            have HG5 := Lib.hid (HG.out.put hs5 hg5)
            clear hs5 hg5 hz5 hc3 HG
            go_wp2_with fail
            go_roundg (m - (q + 1))
            case measure => rw [HGQ.out]; omega
            case rel => exact ⟨q + 1, _, rfl, by omega, by go_num, HG5, HM2⟩
          · obtain rfl : q = m := by omega
            have HSET : Hid (∀ c, c ∈ l ↔ c ∈ rxs) := Lib.hid (fun c => by rw [HM.out, List.take_of_length_le (by rw [HXN.out]; exact Nat.le_refl _)])
            clear HM hltq
            go_wp2_with fail
            go_loopg [13] k (fun kx i wr => ∃ (z : Nat) (vs : List Value), kx = k - z ∧ z ≤ k ∧ i = .int .i64 (z : Int) ∧ Hid (BgS w2 vs (befT (thL d ss) vn k z) mb l wr))
            case atStart => exact ⟨0, vs, by omega, Nat.zero_le _, rfl, HG⟩
            case round =>
              clear HG
              obtain ⟨z, vs, hgz, hz, rfl, HG⟩ := hrel
              have HGZ := Lib.hid hgz; clear hgz
              by_cases hltz : z < k
              · obtain ⟨⟨RB, rd, ris⟩, hri⟩ := get_of_lt HVN.out (show z < vn by omega)
                have HTI : Hid ((thL d ss)[z]? = some ris) := Lib.hid (by rw [← HLL.out]; exact Od.ll_get hri)
                obtain ⟨b', off', hVA', hbb', hcell', hxl', hxi'⟩ := HRA.out z _ hri
                have HBK : Hid (befK (thL d ss) k z = ris.any fun x => decide (x ∈ rxs)) := Lib.hid (befK_eq HTK.out HTI.out)
                cases hVA'
                dsimp only at hcell' hxl' hxi'
                have s0 := (HG.out.f.bel.cell (p := ⟨b, off + z, none⟩) hbb').trans hcell'
                have HXJ := Lib.hid (hxi'.next HG.out.f.bel)
                clear hri hcell' hxi' hbb'
                have j1 : (0 : Int) ≤ (z : Int) := by omega
                have j2 : (z : Int) < (vn : Int) := by omega
                have j3 : (z : Int) < (k : Int) := by omega
                generalize hxn : ris.length = mi at *
                have HXM := Lib.hid hxn
                clear hxn
                go_wp2_with fail
                clear s0
                go_loopg [56] mi (fun kx i w9 => ∃ (y : Nat), kx = mi - y ∧ y ≤ mi ∧ i = .int .i64 (y : Int) ∧ w9 = wr ∧ Hid (∀ c ∈ ris.take y, c ∉ l))
                case atStart => exact ⟨0, by omega, Nat.zero_le _, rfl, rfl, Lib.hid (fun c hc => by simp at hc)⟩
                case round =>
                  obtain ⟨y, hgy, hy, rfl, rfl, HNO⟩ := hrel
                  have HGY := Lib.hid hgy; clear hgy
                  by_cases hlty : y < mi
                  · obtain ⟨x, hx⟩ := get_of_lt HXM.out.symm hlty
                    obtain ⟨b3, off3, hA3, hb3, hc3⟩ := HXJ.out y x hx
                    subst hA3
                    have l1 : (0 : Int) ≤ (y : Int) := by omega
                    have l2 : (y : Int) < (mi : Int) := by omega
                    by_cases hxl : x ∈ l
                    · have HKT : Hid (befK (thL d ss) k z = true) := Lib.hid (by
                        rw [HBK.out, List.any_eq_true]
                        exact ⟨x, List.mem_of_getElem? hx, decide_eq_true ((HSET.out x).1 hxl)⟩)
                      have hyk : (befT (thL d ss) vn k z)[k]? = some (befR (thL d ss) k z) := befT_k hlt
                      obtain ⟨AK, cK, hvk, hck, hok⟩ := HG.out.f.at_ hyk
                      have HLK : Hid ((befR (thL d ss) k z).length ≤ 1000) := Lib.hid (by have := befR_len (thL d ss) k z; omega)
                      have HBT : Hid (befT (thL d ss) vn k (z + 1) = (befT (thL d ss) vn k z).set k (befR (thL d ss) k z ++ [(z : Int)])) := Lib.hid (by rw [befT_step hlt, befR_yes HKT.out])
                      have HVK := Lib.hid hvk
                      have HYK := Lib.hid hyk
                      have hdx : decide (x ∈ l) = true := decide_eq_true hxl
                      clear hx hb3 hxl hvk hyk hok
                      have hal : Below wr.heap.size wr (wr.alloc (.cells #[.int .i64 (z : Int)] 3)) := (Below.refl _ _).alloc (Nat.le_refl _) _
                      have HG8 := Lib.hid (HG.out.next hal)
                      have HB8 := Lib.hid (Blk.new wr 3 #[.int .i64 (z : Int)])
                      have i3 : (k : Int) < (vn : Int) := i2
                      go_wp2_with (first
                        | (at_lookup; refine wpList_set_get _ rfl _ _ 90 rfl kEI Try.underlying90 (zBo2 _) HG.out.s x hdx rfl rfl ?_)
                        | (at_builtin; refine wpList_plain rfl fun _ hK => wp_append_bf _ _ rfl HG8.out.f HVK.out HYK.out HB8.out rfl rfl HLK.out ?_; intro A5 c5 w5 q5 f5 hg5 ho5 _ hB5; refine hK _ _ ?_))
                      have HG9 : Hid (BgS w2 (vs.set k (.slice A5 ((befR (thL d ss) k z).length + 1) c5)) (befT (thL d ss) vn k (z + 1)) mb l (w5.setCell ⟨w2.heap.size, k, none⟩ (.slice A5 ((befR (thL d ss) k z).length + 1) c5))) := Lib.hid ⟨by rw [HBT.out]; exact hB5, (HG8.out.s.grown hg5 (own_setI_ne ho5 HG8.out.s)).setCell (p := ⟨w2.heap.size, k, none⟩) (by have := HG8.out.ge; dsimp only; omega) _, HG8.out.ge⟩
                      go_roundg (k - (z + 1))
                      case measure => rw [HGZ.out]; omega
                      case rel => exact ⟨z + 1, _, rfl, by omega, by go_num, HG9⟩
                    · have HNO2 : Hid (∀ c ∈ ris.take (y + 1), c ∉ l) := Lib.hid (fun c hc => by
                        rcases (take_succ_mem hx c).1 hc with h9 | h9
                        · exact HNO.out c h9
                        · rw [h9]; exact hxl)
                      have hdx : decide (x ∈ l) = false := decide_eq_false hxl
                      clear hx hb3 hxl
                      go_wp2_with (at_lookup; refine wpList_set_get _ rfl _ _ 90 rfl kEI Try.underlying90 (zBo2 _) HG.out.s x hdx rfl rfl ?_)
                      go_roundg (mi - (y + 1))
                      case measure => rw [HGY.out]; omega
                      case rel => exact ⟨y + 1, rfl, by omega, by go_num, rfl, HNO2⟩
                  · obtain rfl : y = mi := by omega
                    have HKF : Hid (befK (thL d ss) k z = false) := Lib.hid (by
                      rw [HBK.out, List.any_eq_false]
                      intro x hx
                      simp only [decide_eq_true_eq]
                      intro h9
                      exact HNO.out x (by rw [List.take_of_length_le (by rw [HXM.out]; exact Nat.le_refl _)]; exact hx) ((HSET.out x).2 h9))
                    have HG9 : Hid (BgS w2 vs (befT (thL d ss) vn k (z + 1)) mb l wr) := Lib.hid (by rw [befT_stay HKF.out]; exact HG.out)
                    go_wp2_with fail
                    go_roundg (k - (z + 1))
                    case measure => rw [HGZ.out]; omega
                    case rel => exact ⟨z + 1, _, rfl, by omega, by go_num, HG9⟩
              · obtain rfl : z = k := by omega
                have HF9 : Hid (BfS w2 vs (befT (thL d ss) vn (z + 1) 0) wr) := Lib.hid (by rw [befT_row]; exact HG.out.f)
                go_wp2_with fail
                go_roundg (vn - (z + 1))
                case measure => rw [HGK.out]; omega
                case rel => exact ⟨z + 1, _, rfl, by omega, by go_num, HF9⟩
      · obtain rfl : k = vn := by omega
        have HFIN := Lib.hid (be_ok HN.out h40 HEC.out HB2.out HF.out)
        go_wp2_with fail
        go_ret2
        exact HFIN.out
  · have hne : (thE d ss != 0) = true := by simp [hec]
    have HE := Lib.hid hec
    go_wp2_with fail
    go_ret2
    exact HBB.out (thE d ss) _ HB2.out HE.out rfl
end Go.Proofs.Ytnaiflokmihmeaa
