/- Walks: Latest (package order). -/
import Derived.Test.YtogjfmgecnoceaaOrdC
import Derived.Test.YtogjfmgecnoceaaOrdQ
import Derived.Test.YtogjfmgecnoceaaBlkI
import Derived.RegionTactic
import Derived.ChangeAlike
namespace Go.Proofs.Ytogjfmgecnoceaa
open Go.RowKit
set_option linter.unusedVariables false
set_option linter.unusedSimpArgs false

def lateL (rs : List (List Int)) (ts : List Int) (L : Nat → Int) : List Int := if tmErr rs ts = 0 then lateOf rs.length ts (endB rs ts rs.length) L else []
def LatePost (rs : List (List Int)) (ts : List Int) (L : Nat → Int) (w : World) (e : Ending) (w' : World) : Prop := ∃ v, e = .returned (.tuple #[v, .int .i64 (tmErr rs ts)]) ∧ IntsV w' v (lateL rs ts L) ∧ Below w.heap.size w w'
theorem latePost_bad {rs : List (List Int)} {ts : List Int} {L : Nat → Int} {w w' : World} {e : Int} (he : tmErr rs ts = e) (h : e ≠ 0) (hb : Below w.heap.size w w') : LatePost rs ts L w (.returned (.tuple #[.slice none 0 0, .int .i64 e])) w' :=
  ⟨.slice none 0 0, by rw [he], by unfold lateL; rw [if_neg (by rw [he]; exact h)]; exact IntsV.nil _, hb⟩
theorem latePost_ok {rs : List (List Int)} {ts : List Int} {L : Nat → Int} {w w' : World} {g n : Nat} {out : List Int} (he : tmErr rs ts = 0) (hn : n = out.length) (hm : n ≤ 40) (h : IBlk w' g out) (ho : out = lateOf rs.length ts (endB rs ts rs.length) L) (hb : Below w.heap.size w w') : LatePost rs ts L w (.returned (.tuple #[.slice (some ⟨g, 0, none⟩) n n, .int .i64 0])) w' :=
  ⟨.slice (some ⟨g, 0, none⟩) n n, by rw [he], by unfold lateL; rw [if_pos he, ← ho]; exact h.intsV hn (by unfold maxLen; omega), hb⟩
/-- the edges that have been looked at, behind k rows from the end and q of the next one -/
def Done (rs : List (List Int)) (k q : Nat) (k' x : Nat) : Prop := (k + 1 ≤ k' ∧ Edge rs k' x) ∨ (k' = k ∧ ∃ xs, rs[k]? = some xs ∧ (x : Int) ∈ xs.take q)
theorem Done.edge {rs : List (List Int)} {k q k' x : Nat} (h : Done rs k q k' x) : Edge rs k' x := by
  rcases h with ⟨_, h⟩ | ⟨rfl, xs, h1, h2⟩
  · exact h
  · exact ⟨xs, h1, List.mem_of_mem_take h2⟩
theorem Done.zero {rs : List (List Int)} {k k' x : Nat} : Done rs k 0 k' x ↔ (k + 1 ≤ k' ∧ Edge rs k' x) := by
  unfold Done
  constructor
  · rintro (h | ⟨_, xs, _, h⟩)
    · exact h
    · simp at h
  · exact .inl
theorem Done.all {rs : List (List Int)} {k k' x : Nat} {xs : List Int} (h : rs[k]? = some xs) {m : Nat} (hm : xs.length = m) : (k ≤ k' ∧ Edge rs k' x) ↔ Done rs k m k' x := by
  unfold Done
  constructor
  · rintro ⟨h1, h2⟩
    by_cases e : k' = k
    · subst e
      obtain ⟨ys, h3, h4⟩ := h2
      rw [h] at h3; injection h3 with h3; subst h3
      exact .inr ⟨rfl, xs, h, by rw [← hm, List.take_length]; exact h4⟩
    · exact .inl ⟨by omega, h2⟩
  · rintro (⟨h1, h2⟩ | ⟨rfl, ys, h1, h2⟩)
    · exact ⟨by omega, h2⟩
    · exact ⟨Nat.le_refl _, ys, h1, List.mem_of_mem_take h2⟩
theorem Done.step {rs : List (List Int)} {k q : Nat} {xs : List Int} (h : rs[k]? = some xs) {x : Nat} (hx : xs[q]? = some (x : Int)) (k' x' : Nat) : Done rs k (q+1) k' x' ↔ Done rs k q k' x' ∨ (k' = k ∧ x' = x) := by
  unfold Done
  constructor
  · rintro (h1 | ⟨rfl, ys, h1, h2⟩)
    · exact .inl (.inl h1)
    · rw [h] at h1; injection h1 with h1; subst h1
      rw [List.take_add_one, hx] at h2
      simp only [Option.toList_some, List.mem_append, List.mem_singleton] at h2
      rcases h2 with h2 | h2
      · exact .inl (.inr ⟨rfl, xs, h, h2⟩)
      · exact .inr ⟨rfl, by omega⟩
  · rintro ((h1 | ⟨rfl, ys, h1, h2⟩) | ⟨rfl, rfl⟩)
    · exact .inl h1
    · rw [h] at h1; injection h1 with h1; subst h1
      refine .inr ⟨rfl, xs, h, ?_⟩
      rw [List.take_add_one]; exact List.mem_append_left _ h2
    · refine .inr ⟨rfl, xs, h, ?_⟩
      rw [List.take_add_one, hx]; simp
theorem Done.at_k {rs : List (List Int)} (hl : Low rs) {k q k' : Nat} : Done rs k q k' k ↔ Edge rs k' k := by
  refine ⟨Done.edge, fun h => ?_⟩
  obtain ⟨xs, h1, h2⟩ := h
  have := hl k' xs h1 _ h2
  exact .inl ⟨by omega, xs, h1, h2⟩
theorem LI.fill {n : Nat} {ts : List Int} {E : Int} {L : Nat → Int} {out : List Int} (hl : out.length = n) (h : ∀ x, x < n → out[x]? = some (E - nth ts x)) {Q : Nat → Nat → Prop} (hQ : ∀ k x, x < n → ¬ Q k x) : LI n ts E L Q out :=
  ⟨hl, fun x hx => ⟨0, IsMax.none_ fun v ⟨k, h1, _⟩ => hQ k x hx h1, by rw [h x hx]; congr 1; omega⟩⟩

set_option maxHeartbeats 4000000 in
set_option maxRecDepth 20000 in
theorem latest_any (rs : List Row) (A : Option Addr) (n c : Nat) (ts : List Int) (A1 : Option Addr) (n1 c1 : Nat) (w : World) (hn : n = rs.length) (hm : n ≤ 9223372036854775807) (h : RowsAt w w.heap.size A rs) (hn1 : n1 = ts.length) (hm1 : n1 ≤ 9223372036854775807) (hs : IntsAt w w.heap.size A1 ts) (L : Nat → Int) (hL : tmErr (ll rs) ts = 0 → Back (ll rs) ts L) :
    Calls Try.prog 20 #[.slice A n c, .slice A1 n1 c1] w (LatePost (ll rs) ts L w) := by
  have HC := Lib.hid (times_any rs A n c ts A1 n1 c1 w hn hm h hn1 hm1 hs)
  have HN := Lib.hid hn
  have HNL := Lib.hid (show n = (ll rs).length by rw [ll_len]; exact hn); clear hn
  have HN1 := Lib.hid hn1; clear hn1
  have H := Lib.hid h; clear h
  have H1 := Lib.hid hs; clear hs
  by_cases he : tmErr (ll rs) ts = 0
  · obtain ⟨hv, hl, ht⟩ := tmErr_zero he
    have HB := Lib.hid (hL he); clear hL
    obtain rfl : n1 = n := by rw [HN1.out, hl, HNL.out]
    have h40 : n1 ≤ 40 := by rw [HNL.out]; exact hv.le
    have HV := Lib.hid hv; clear hv
    have HTB := Lib.hid ht; clear ht hl
    have HE := Lib.hid he; clear he
    have hend := endB_bd HV.out.low HTB.out n1
    have HEN : Hid (endL (ll rs) ts = endB (ll rs) ts n1) := Lib.hid (by unfold endL; rw [if_pos HE.out, HNL.out])
    have HMK := Lib.hid (make_i n1 (by omega))
    obtain ⟨E, hE⟩ : ∃ E, endB (ll rs) ts n1 = E := ⟨_, rfl⟩
    rw [hE] at HEN hend
    have HEE := Lib.hid (show endB (ll rs) ts (ll rs).length = E by rw [← HNL.out]; exact hE); clear hE
    obtain ⟨en0, en1⟩ := hend
    go_enter Try.func20, Try.ntmps20
    go_wp2_with fail
    refine HC.out.mono ?_
    rintro e w1 ⟨v6, rfl, hv6, hb1⟩
    rw [HE.out, HEN.out]
    clear hv6
    have hmk := HMK.out
    go_wp2_with fail
    clear hmk
    have HI0 := Lib.hid (IBlk.made w1 n1)
    have hbw := Lib.hid ((hb1.alloc hb1.size (.cells (Array.replicate n1 (.int .i64 0)) 3)))
    have hgw : w.heap.size ≤ w1.heap.size := hb1.size
    generalize hg : w1.heap.size = g at *
    have HG := Lib.hid hg; clear hg
    generalize w1.alloc (.cells (Array.replicate n1 (.int .i64 0)) 3) = w2 at *
    go_loopg [29] n1 (fun k i wr => ∃ (j : Nat) (out : List Int), k = n1 - j ∧ j ≤ n1 ∧ i = .int .i64 j ∧ Hid (out.length = n1 ∧ ∀ x, x < j → out[x]? = some (E - nth ts x)) ∧ Hid (IBlk wr g out) ∧ Hid (Below w.heap.size w wr))
    case atStart => exact ⟨0, _, by omega, Nat.zero_le _, rfl, ⟨by simp, forall_lt_zero⟩, HI0.out, hbw.out⟩
    case round =>
      obtain ⟨j, out, hgk, hj, rfl, hout, hblk, hbel⟩ := hrel
      have HGK := Lib.hid hgk; clear hgk
      by_cases hlt : j < n1
      · obtain ⟨t, ht⟩ := get_of_lt HN1.out hlt
        obtain ⟨o, ho⟩ := get_of_lt hout.out.1.symm hlt
        obtain ⟨b1, off1, rfl, hb1', h1⟩ := H1.out j t ht
        obtain ⟨t1, t2⟩ := HTB.out t (List.mem_of_getElem? ht)
        have HTN := Lib.hid (nth_get ht); clear ht
        have g1 := (hbel.out.cell (p := ⟨b1, off1 + j, none⟩) hb1').trans h1
        clear h1
        have g2 := hblk.out.cell ho
        clear ho
        have g3 := hblk.out.frozen j
        go_wp2_with fail
        go_roundg (n1 - (j + 1))
        case measure => rw [HGK.out]; omega
        case rel => exact ⟨j+1, _, rfl, by omega, by go_num, ⟨by rw [List.length_set]; exact hout.out.1, forall_lt_succ (fun x hx => by rw [List.getElem?_set_ne (by omega)]; exact hout.out.2 x hx) (by rw [List.getElem?_set_self (by rw [hout.out.1]; exact hlt), HTN.out])⟩, hblk.out.set_ j _, hbel.out.setCell hgw _⟩
      · obtain rfl : j = n1 := by omega
        have HLI : Hid (LI (ll rs).length ts E L (fun k x => j ≤ k ∧ Edge (ll rs) k x) out) := Lib.hid (LI.fill (by rw [hout.out.1, HNL.out]) (by rw [← HNL.out]; exact hout.out.2) (fun k x hx => by
          rintro ⟨h1, xs, h2, h3⟩
          have := (List.getElem?_eq_some_iff.1 h2).1
          rw [← HNL.out] at this
          omega))
        clear hout
        go_wp2_with fail
        go_loopg [11] j (fun kk s11 wi => ∃ (k : Nat) (z : Int) (out : List Int), kk = k ∧ z = k - 1 ∧ k ≤ j ∧ s11 = .int .i64 z ∧ Hid (LI (ll rs).length ts E L (fun k' x => k ≤ k' ∧ Edge (ll rs) k' x) out) ∧ Hid (IBlk wi g out) ∧ Hid (Below w.heap.size w wi))
        case atStart => exact ⟨j, (j : Int) - 1, out, rfl, rfl, Nat.le_refl _, rfl, HLI.out, hblk.out, hbel.out⟩
        case round =>
          clear HLI hblk hbel
          obtain ⟨k, z, out, hgk2, hz, hk, rfl, hli, hblk, hbel⟩ := hrel
          have HGK2 := Lib.hid hgk2; clear hgk2
          rcases Nat.eq_zero_or_pos k with hk0 | hk0
          · have hzn : z < 0 := by omega
            have HOUT : Hid (out = lateOf (ll rs).length ts (endB (ll rs) ts (ll rs).length) L) := Lib.hid (by
              rw [HEE.out]
              exact (hli.out.congr (Q' := Edge (ll rs)) fun k' x => ⟨fun h => ⟨by omega, h⟩, fun h => h.2⟩).eq HB.out)
            have HLEN : Hid (j = out.length) := Lib.hid (by rw [hli.out.len]; exact HNL.out)
            clear hz hk0
            go_wp2_with fail
            go_ret2
            exact latePost_ok HE.out HLEN.out h40 hblk.out HOUT.out hbel.out
          · obtain ⟨k, rfl⟩ : ∃ k', k = k' + 1 := ⟨k - 1, by omega⟩
            obtain rfl : z = (k : Int) := by omega
            obtain ⟨r, hr⟩ := get_of_lt HN.out (show k < j by omega)
            obtain ⟨b, off, rfl, hb, h0, hxm, hx⟩ := H.out k r hr
            have HR := Lib.hid (ll_get hr); clear hr
            have HX := Lib.hid hx; clear hx
            have HLOW := Lib.hid (HV.out.lt k r.xs HR.out)
            obtain ⟨tA, tc, txs⟩ := r
            dsimp only at h0 hxm HX HR HLOW
            generalize hm2 : txs.length = m at *
            have HM := Lib.hid hm2; clear hm2
            have g0 := (hbel.out.cell (p := ⟨b, off + k, none⟩) hb).trans h0
            clear h0 hz hk0
            have HL1 : Hid (LI (ll rs).length ts E L (Done (ll rs) k 0) out) := Lib.hid (hli.out.congr fun k' x => Done.zero)
            have kk0 : (0 : Int) ≤ (k : Int) := by omega
            go_wp2_with fail
            clear g0
            go_loopg [54] m (fun kk i wi => ∃ (q : Nat) (out : List Int), kk = m - q ∧ q ≤ m ∧ i = .int .i64 q ∧ Hid (LI (ll rs).length ts E L (Done (ll rs) k q) out) ∧ Hid (IBlk wi g out) ∧ Hid (Below w.heap.size w wi))
            case atStart => exact ⟨0, out, by omega, Nat.zero_le _, rfl, HL1.out, hblk.out, hbel.out⟩
            case round =>
              clear HL1 hli hblk hbel
              obtain ⟨q, out, hgk3, hq, rfl, hli, hblk, hbel⟩ := hrel
              have HGK3 := Lib.hid hgk3; clear hgk3
              by_cases hlt3 : q < m
              · obtain ⟨x, hx⟩ := get_of_lt HM.out.symm hlt3
                obtain ⟨x1, x2⟩ := HLOW.out x (List.mem_of_getElem? hx)
                obtain ⟨x, rfl⟩ := Int.eq_ofNat_of_zero_le x1
                have hxk : x < k := by omega
                obtain ⟨b', off', rfl, hb', c0⟩ := HX.out q x hx
                have c1 := (hbel.out.cell (p := ⟨b', off' + q, none⟩) hb').trans c0
                clear c0 x1 x2
                have HST := Lib.hid (Done.step HR.out hx); clear hx
                obtain ⟨a, ha⟩ := get_of_lt (hli.out.len.trans HNL.out.symm).symm (show x < j by omega)
                have hbk := hli.out.done HB.out (x := k) (by rw [← HNL.out]; omega) (fun k' => Done.at_k HV.out.low)
                obtain ⟨t, ht⟩ := get_of_lt HN1.out (show x < j by omega)
                obtain ⟨b1, off1, rfl, hb1', h1⟩ := H1.out x t ht
                obtain ⟨t1, t2⟩ := HTB.out t (List.mem_of_getElem? ht)
                have HTN := Lib.hid (nth_get ht); clear ht
                have g1 := (hbel.out.cell (p := ⟨b1, off1 + x, none⟩) hb1').trans h1
                clear h1
                have HBD : Hid (∀ (y : Nat) (v : Int), y < j → out[y]? = some v → 0 ≤ v ∧ v ≤ E) := Lib.hid (fun y v hy hv => by
                  have := LI.bd (rs := ll rs) (by rw [HEE.out]; exact hli.out) HB.out HV.out.low HTB.out (fun k x h => Done.edge h) (x := y) (by rw [← HNL.out]; exact hy) hv
                  rw [HEE.out] at this
                  exact this)
                obtain ⟨a1, a2⟩ := HBD.out x a (show x < j by omega) ha
                obtain ⟨d1, d2⟩ := HBD.out k _ (show k < j by omega) hbk
                obtain ⟨bv, hbv⟩ : ∃ bv, bv = E - nth ts k - L k := ⟨_, rfl⟩
                rw [← hbv] at hbk d1 d2
                have HSTEP := Lib.hid (hli.out.step (Q' := Done (ll rs) k (q+1)) (x := x) (by rw [← HNL.out]; omega) ha hbv HST.out)
                rw [HTN.out] at HSTEP
                clear hbv
                have g2 := hblk.out.cell ha
                have g4 := hblk.out.cell hbk
                have g3 := hblk.out.frozen x
                clear ha hbk
                have hglt := hblk.out.lt
                have hw := i64_w (bv - t) (by omega) (by omega)
                have i1 : (0 : Int) ≤ (x : Int) := by omega
                have i2 : (x : Int) < (j : Int) := by omega
                have i3 : (k : Int) < (j : Int) := by omega
                go_wp2_with fail
                go_region
                have hmin : (if bv - t < a then bv - t else a) = min a (bv - t) := by split <;> omega
                rw [hmin]
                clear hmin hw
                go_wp2_with fail
                go_roundg (m - (q + 1))
                case measure => rw [HGK3.out]; omega
                case rel => exact ⟨q+1, _, rfl, by omega, by go_num, HSTEP.out, (hblk.out.set_ x _).drew, (hbel.out.setCell hgw _).drew⟩
              · obtain rfl : q = m := by omega
                have HL2 : Hid (LI (ll rs).length ts E L (fun k' x => k ≤ k' ∧ Edge (ll rs) k' x) out) := Lib.hid (hli.out.congr fun k' x => Done.all HR.out HM.out)
                go_wp2_with fail
                go_roundg k
                case measure => rw [HGK2.out]; omega
                case rel => exact ⟨k, (k : Int) - 1, out, rfl, rfl, by omega, rfl, HL2.out, hblk.out, hbel.out⟩
  · have hne : (tmErr (ll rs) ts != 0) = true := by simpa using he
    obtain ⟨eb, heb⟩ : ∃ eb, tmErr (ll rs) ts = eb := ⟨_, rfl⟩
    have HEN : Hid (endL (ll rs) ts = 0) := Lib.hid (by unfold endL; rw [if_neg he])
    rw [heb] at hne he
    have HE := Lib.hid heb; clear heb
    have HNE := Lib.hid he; clear he
    go_enter Try.func20, Try.ntmps20
    go_wp2_with fail
    refine HC.out.mono ?_
    rintro e w' ⟨v6, rfl, hv6, hb1⟩
    rw [HE.out, HEN.out]
    clear hv6
    go_wp2_with fail
    go_ret2
    exact latePost_bad HE.out HNE.out hb1
end Go.Proofs.Ytogjfmgecnoceaa
