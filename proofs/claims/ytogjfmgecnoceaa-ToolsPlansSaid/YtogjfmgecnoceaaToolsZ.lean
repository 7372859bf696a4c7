/- Walks: End (package tools); tasks that came in. -/
import Derived.Test.YtogjfmgecnoceaaToolsY
import Derived.Test.YtogjfmgecnoceaaEqI
import Derived.Test.YtogjfmgecnoceaaToolsOpen
namespace Go.Proofs.Ytogjfmgecnoceaa
open Go.RowKit Go.ChangeShapes Go.WideShapes Go.Deep
set_option linter.unusedVariables false
set_option linter.unusedSimpArgs false

def endV (ts : List Tk) (ss : List Int) : Int := if fits ts ss = true then endK ts ss ts.length else 0
def endE (ts : List Tk) (ss : List Int) : Int := if fits ts ss = true then 0 else 1
set_option maxHeartbeats 2000000 in
set_option maxRecDepth 20000 in
theorem end_any (ts : List Tk) (A : Option Addr) (n c : Nat) (ss : List Int) (A1 : Option Addr) (n1 c1 : Nat) (w : World) (hn : n = ts.length) (hm : n ≤ 9223372036854775807) (h : TasksAt w w.heap.size A ts) (hn1 : n1 = ss.length) (hm1 : n1 ≤ 9223372036854775807) (hs : IntsAt w w.heap.size A1 ss) (hb : ∀ x ∈ ss, -9223372036854775808 ≤ x ∧ x ≤ 9223372036854775807) :
    Calls Try.prog 17 #[.slice A n c, .slice A1 n1 c1] w fun e w' => e = .returned (.tuple #[.int .i64 (endV ts ss), .int .i64 (endE ts ss)]) ∧ Below w.heap.size w w' := by
  have HC := Lib.hid (right_any ts A n c ss A1 n1 c1 w hn hm h hn1 hm1 hs hb)
  have HN := Lib.hid hn; clear hn
  have H := Lib.hid h; clear h
  have HN1 := Lib.hid hn1; clear hn1
  have H1 := Lib.hid hs; clear hs
  clear hb
  cases hf : fits ts ss with
  | false =>
    have HV := Lib.hid (show endV ts ss = 0 ∧ endE ts ss = 1 by simp [endV, endE, hf])
    have HF := Lib.hid hf; clear hf
    go_enter Try.func17, Try.ntmps17
    go_wp2_with fail
    refine HC.out.mono ?_
    rw [HF.out]
    rintro e w1 ⟨rfl, hb1⟩
    go_wp2_with fail
    go_ret2
    exact ⟨by rw [HV.out.1, HV.out.2]; rfl, hb1⟩
  | true =>
    have HV := Lib.hid (show endV ts ss = endK ts ss n ∧ endE ts ss = 0 by rw [HN.out]; simp [endV, endE, hf])
    obtain ⟨hE, hL, hK⟩ := fits_inv hf
    have HBD := Lib.hid (fun k (hk : k ≤ n) => endK_bd hf (by rw [← HN.out]; exact hk))
    have HI := Lib.hid (And.intro hE (And.intro hL hK)); clear hE hL hK
    have HF := Lib.hid hf; clear hf
    obtain rfl : n1 = n := by rw [HN.out, HN1.out]; exact HI.out.2.1
    go_enter Try.func17, Try.ntmps17
    go_wp2_with fail
    refine HC.out.mono ?_
    rw [HF.out]
    rintro e w1 ⟨rfl, hb1⟩
    go_wp2_with fail
    go_loopg [6, 15] n1 (fun k s i wr => ∃ j : Nat, k = n1 - j ∧ j ≤ n1 ∧ i = .int .i64 j ∧ s = .int .i64 (endK ts ss j) ∧ Hid (Below w.heap.size w wr))
    case atStart => exact ⟨0, by omega, Nat.zero_le _, rfl, rfl, hb1⟩
    case round =>
      obtain ⟨j, hgk, hj, rfl, rfl, hbel⟩ := hrel
      have HGK := Lib.hid hgk; clear hgk
      by_cases hlt : j < n1
      · obtain ⟨t, ht⟩ := get_of_lt HN.out hlt
        obtain ⟨s, hs⟩ := get_of_lt HN1.out hlt
        obtain ⟨b, off, rfl, hb, h0, h1, h2, hxm, hx⟩ := H.out j t ht
        obtain ⟨bs, offs, rfl, hbs, hs0⟩ := H1.out j s hs
        have HS := Lib.hid (show endK ts ss (j+1) = max (endK ts ss j) (s + t.l) by simp [endK, st, lo, hs, ht])
        obtain ⟨z1, z2⟩ := fitK_inv ht hs (HI.out.2.2 j (by rw [← HN.out]; exact hlt))
        obtain ⟨-, -, q3, q4⟩ := okT_iff.1 (tkAt_inv ht ((tErr_zero HI.out.1).2 j (by rw [← HN.out]; exact hlt))).1
        obtain ⟨v1, v2⟩ := HBD.out j hj
        clear ht hs hx
        have g0 := (hbel.out.cell (p := ⟨b, off + j*3, none⟩) hb).trans h0
        have g1 := (hbel.out.cell (p := ⟨b, off + j*3+1, none⟩) hb).trans h1
        have g2 := (hbel.out.cell (p := ⟨b, off + j*3+2, none⟩) hb).trans h2
        have HS0 := Lib.hid hs0
        clear h0 h1 h2 hs0
        have hz := hbel.out.size
        obtain ⟨tt, tl, tA, tc, txs⟩ := t
        dsimp only at g0 g1 g2 hxm z2 q3 q4 HS
        generalize endK ts ss j = ev at *
        generalize hmm : txs.length = m at *
        go_wp2_with fail
        clear g0 g1 g2
        have hb0 := Lib.hid (hbel.out.alloc hz (.cells #[.int .i64 tt, .int .i64 tl, .slice tA m tc] 34))
        have HB0 := Lib.hid (Blk.new wr 34 #[.int .i64 tt, .int .i64 tl, .slice tA m tc])
        clear hbel hz
        generalize hg : wr.heap.size = g at *
        have HG := Lib.hid hg; clear hg
        generalize wr.alloc (.cells #[.int .i64 tt, .int .i64 tl, .slice tA m tc] 34) = wo at *
        have gs := (hb0.out.cell (p := ⟨bs, offs + j, none⟩) hbs).trans HS0.out
        have e1 := HB0.out.cell 1
        simp only [List.getElem?_toArray, List.getElem?_cons_zero, List.getElem?_cons_succ] at e1
        have i1 : (0 : Int) ≤ (j : Int) := by omega
        have i2 : (j : Int) < (n1 : Int) := by omega
        have hw := i64_p (s + tl) (by omega) (by omega)
        go_quiet (fail)
        clear hw
        go_wp2_with fail
        all_goals
          go_roundg (n1 - (j + 1))
          case measure => rw [HGK.out]; omega
          case rel => exact ⟨j+1, rfl, by omega, by go_num, by rw [HS.out]; first | rw [Int.max_eq_left (by omega)] | rw [Int.max_eq_right (by omega)], below_drewN hb0.out _⟩
      · obtain rfl : j = n1 := by omega
        go_wp2_with fail
        go_ret2
        exact ⟨by rw [HV.out.1, HV.out.2]; rfl, hbel.out⟩

set_option maxRecDepth 20000 in
/-- tasks that came in -/
theorem open_tasks {H : Type} {enc : TypeId × Value → H} {w : World} {base b0 : Nat} {held : Bool} {v : Value} {d : DataW H} {p : List MemPlace} {r : Reach}
    (h : DataW.Trod enc Try.prog w base (fun _ => true) held 22 v d p) (o : Value.okWide Try.prog w r b0 22 v) (hl : Light Try.prog 22 d) :
    ∃ A c ts, v = .slice A (List.length ts) c ∧ ts.length ≤ 9223372036854775807 ∧ TasksAt w w.heap.size A ts := by
  obtain ⟨A, len, cap, rfl⟩ := okWide_slice Try.underlying22 o
  obtain ⟨fuel, hf⟩ := h
  obtain ⟨A', len', cap', hcs, hlc, hm, hr, hi⟩ := open_elems_w (C := 3) Try.underlying22 (by kernel_rfl) (by omega) hf hl
  simp [Value.cells] at hcs
  obtain ⟨rfl, rfl, rfl⟩ := hcs
  obtain ⟨ts, hts, hr⟩ := list_of (n := len) (R := fun k (t : Tk) => ∃ b off, A = some ⟨b, off, none⟩ ∧ b < w.heap.size ∧ w.cell? ⟨b, off + k*3, none⟩ = some (.int .i64 t.t) ∧ w.cell? ⟨b, off + k*3+1, none⟩ = some (.int .i64 t.l) ∧ w.cell? ⟨b, off + k*3+2, none⟩ = some (.slice t.A t.xs.length t.c) ∧ t.xs.length ≤ 9223372036854775807 ∧ IntsAt w w.heap.size t.A t.xs) (by
    intro i hlt
    obtain ⟨b, off, cs', n', y, hA, hb, hlen, hc, ht, hly⟩ := hi i hlt
    obtain ⟨n, hfs⟩ := open_fields_w Try.underlying34 (by kernel_rfl) hlen ht hly
    obtain ⟨x0, y0, hx0, ht0, _⟩ := hfs 0 _ rfl
    obtain ⟨x1, y1, hx1, ht1, _⟩ := hfs 1 _ rfl
    obtain ⟨x2, y2, hx2, ht2, hl2⟩ := hfs 2 _ rfl
    obtain ⟨i0, rfl, _⟩ := open_i64 Try.underlying3 ht0
    obtain ⟨i1, rfl, _⟩ := open_i64 Try.underlying3 ht1
    obtain ⟨A2, c2, xs, rfl, h2, h3, _, h4, _⟩ := open_ints_at Try.underlying23 Try.underlying3 (by kernel_rfl) ht2 hl2
    exact ⟨⟨i0, i1, A2, c2, xs⟩, b, off, hA, hb, hc 0 _ hx0, hc 1 _ hx1, hc 2 _ hx2, by unfold maxLen at h3; show xs.length ≤ _; omega, h4⟩)
  exact ⟨A, cap, ts, by rw [hts], by unfold maxLen at hm; omega, fun k t ht => hr k t ht⟩
end Go.Proofs.Ytogjfmgecnoceaa
