/- Facts: Of (package fact). -/
import Derived.Test.YtnaiflokmihmeaaFacP
import Derived.OwnWalk
namespace Go.Proofs.Ytnaiflokmihmeaa
open Go.RowKit
set_option linter.unusedVariables false
set_option linter.unusedSimpArgs false

theorem filt_yes {l : List Ft} {j : Nat} {f : Ft} (h : l[j]? = some f) (ho : okF f = true) : (l.take (j+1)).filter okF = (l.take j).filter okF ++ [f] := by
  rw [List.take_add_one, h, List.filter_append]; simp [ho]
theorem filt_no {l : List Ft} {j : Nat} {f : Ft} (h : l[j]? = some f) (ho : okF f = false) : (l.take (j+1)).filter okF = (l.take j).filter okF := by
  rw [List.take_add_one, h, List.filter_append]; simp [ho]
def OfPost (l : List Ft) (w : World) (e : Ending) (w' : World) : Prop :=
  ∃ A c, e = .returned (.slice A (ofL l).length c) ∧ (ofL l).length ≤ c ∧ c ≤ maxLen ∧ FactsAt w' w'.heap.size A (ofL l) ∧ Below w.heap.size w w'
theorem compactF_nil (p : Option Addr) (c : Nat) (w : World) : Calls Try.prog 69 #[.slice p 0 c] w fun e w' => e = .returned (.slice p 0 c) ∧ w' = w := by
  go_enter Try.func69, Try.ntmps69
  go_wp2_with fail
  go_ret
  exact ⟨rfl, rfl⟩
theorem ofL_nil {l : List Ft} (h : l.filter okF = []) : ofL l = [] := by
  unfold ofL
  rw [h]
  simp [Go.Lib.compact, Go.Lib.compactUpTo]

set_option maxHeartbeats 2000000 in
set_option maxRecDepth 20000 in
theorem of_any (l : List Ft) (A : Option Addr) (n c : Nat) (w : World) (hn : n = l.length) (hm : n * 24 ≤ 140737488351232) (h : FactsAt w w.heap.size A l) :
    Calls Try.prog 26 #[.slice A n c] w (OfPost l w) := by
  have HN := Lib.hid hn; clear hn
  have H := Lib.hid h; clear h
  have hm0 : n ≤ 9223372036854775807 := by omega
  go_enter Try.func26, Try.ntmps26
  go_wp2_with fail
  go_loopg [3, 8] n (fun kx o i wr => ∃ j : Nat, kx = n - j ∧ j ≤ n ∧ i = .int .i64 j ∧ Hid (FRow w o ((l.take j).filter okF) wr))
  case atStart => exact ⟨0, by omega, Nat.zero_le _, rfl, FRow.nil (Below.refl _ _)⟩
  case round =>
    obtain ⟨j, hgk, hj, rfl, hrow⟩ := hrel
    have HGK := Lib.hid hgk; clear hgk
    have hlen : ((l.take j).filter okF).length ≤ j := Nat.le_trans (List.length_filter_le _ _) (by rw [List.length_take]; omega)
    by_cases hlt : j < n
    · obtain ⟨⟨fk, fa, fb⟩, hf⟩ := get_of_lt HN.out hlt
      obtain ⟨b, off, rfl, hb, h0, h1, h2⟩ := H.out.three hf
      have g0 := (hrow.out.bel.cell (p := ⟨b, off + j*3, none⟩) hb).trans h0
      have g1 := (hrow.out.bel.cell (p := ⟨b, off + j*3+1, none⟩) hb).trans h1
      have g2 := (hrow.out.bel.cell (p := ⟨b, off + j*3+2, none⟩) hb).trans h2
      dsimp only at g0 g1 g2
      have HF := Lib.hid hf; clear hf h0 h1 h2
      obtain ⟨A5, c5, rfl, hl5, hm5, hI5⟩ := hrow.out.facts
      clear hI5
      unfold maxLen at hm5
      generalize hxs : (l.take j).filter okF = xs at *
      have HXS := Lib.hid hxs; clear hxs
      generalize hn5 : xs.length = n5 at *
      have HN5 := Lib.hid hn5; clear hn5
      have HV := Lib.hid (fun W => validF_any ⟨fk, fa, fb⟩ W)
      unfold valF at HV
      dsimp only at HV
      go_wp2_with fail
      clear g0 g1 g2
      have HR1 := Lib.hid (hrow.out.next ((Below.refl _ _).alloc (Nat.le_refl _) (.cells #[.int .i64 fk, .int .i64 fa, .int .i64 fb] 45)))
      have HB1 := Lib.hid (Blk.new wr 45 #[.int .i64 fk, .int .i64 fa, .int .i64 fb])
      generalize wr.heap.size = p at *
      generalize World.alloc wr _ = w1 at *
      clear hrow
      have k0 := HB1.out.cell 0
      have k1 := HB1.out.cell 1
      have k2 := HB1.out.cell 2
      simp at k0 k1 k2
      cases hok : okF ⟨fk, fa, fb⟩ with
      | false =>
        have HT := Lib.hid (filt_no HF.out hok)
        rw [hok] at HV
        clear hok
        go_wp2_with fail
        refine (HV.out _).mono ?_
        rintro e w2 ⟨rfl, hb2⟩
        have HR2 := Lib.hid (HR1.out.next hb2); clear hb2
        go_wp2_with fail
        go_roundg (n - (j + 1))
        case measure => rw [HGK.out]; omega
        case rel => exact ⟨j+1, rfl, hlt, by go_num, by rw [HT.out, HXS.out]; exact HR2.out⟩
      | true =>
        have HT := Lib.hid (filt_yes HF.out hok)
        rw [hok] at HV
        clear hok
        go_wp2_with fail
        refine (HV.out _).mono ?_
        rintro e w2 ⟨rfl, hb2⟩
        have HR2 := Lib.hid (HR1.out.next hb2)
        have HB2 := Lib.hid (HB1.out.belowB hb2); clear hb2 k0 k1 k2
        have k0 := HB2.out.cell 0
        have k1 := HB2.out.cell 1
        have k2 := HB2.out.cell 2
        simp at k0 k1 k2
        have hnm : n5 + 1 ≤ maxLen := by unfold maxLen; omega
        have hby : (n5 + 1) * 24 ≤ 140737488355328 := by omega
        go_wp2_with (
          at_builtin
          refine wpList_append_oneL rfl (.tmp 14) (.tmp 16) _ rfl Try.underlying43 infoFt rfl rfl (HR2.out.row HN5.out) rfl rfl rfl (one_ft ⟨_, _, _⟩) hnm hby ?_
          intro v' w3 hR3 hb3)
        have HR3 := Lib.hid (FRow.add (x := ⟨fk, fa, fb⟩) HN5.out hR3)
        go_roundg (n - (j + 1))
        case measure => rw [HGK.out]; omega
        case rel => exact ⟨j+1, rfl, hlt, by go_num, by rw [HT.out, HXS.out]; exact HR3.out⟩
    · obtain rfl : j = n := by omega
      have HT : Hid ((l.take j).filter okF = l.filter okF) := Lib.hid (by rw [HN.out, List.take_length])
      rw [HT.out] at hrow
      obtain ⟨h1, h2⟩ := Rws.head hrow.out
      rcases h2 with ⟨hv, hx⟩ | ⟨g, cap, cur, hv, hg, hh, hnc, hmx, hs, hc⟩
      · dsimp only at hv hx
        obtain rfl := hv
        have HNL : Hid (ofL l = []) := Lib.hid (ofL_nil (List.eq_nil_of_length_eq_zero hx))
        clear hx h1
        go_wp2_with (first | (go_at_call 68; refine (sortF_none _ _ _ _).mono ?_; rintro e w2 ⟨rfl, rfl⟩) | (go_at_call 69; refine (compactF_nil _ _ _).mono ?_; rintro e w3 ⟨rfl, rfl⟩))
        go_ret
        exact ⟨none, 0, by rw [HNL.out]; rfl, by rw [HNL.out]; exact Nat.le_refl _, by unfold maxLen; omega, by rw [HNL.out]; exact FactsAt.nil, hrow.out.bel⟩
      · dsimp only at hv hg hh hnc hmx hs hc
        obtain rfl := hv
        have hown := FBlk.of_own (w := wr) (base := w.heap.size) (g := g) (c := cap) (l := l.filter okF) ⟨h1, .inr ⟨g, cap, cur, rfl, hg, hh, hnc, hmx, hs, hc⟩⟩ rfl
        have hll : (l.filter okF).length ≤ j := by have := HN.out; have h5 := List.length_filter_le okF l; omega
        have HO := Lib.hid hown
        have HBE := Lib.hid hrow.out.bel
        have HOF : Hid (Go.Lib.compactUpTo ((l.filter okF).mergeSort fun x y => !(Go.Proofs.ltOf cmpF y x)).toArray ((l.filter okF).mergeSort fun x y => !(Go.Proofs.ltOf cmpF y x)).toArray.size = ofL l) := Lib.hid (by unfold ofL Go.Lib.compact; simp)
        have HLS : Hid (((l.filter okF).mergeSort fun x y => !(Go.Proofs.ltOf cmpF y x)).toArray.size = (l.filter okF).length) := Lib.hid (by simp [List.length_mergeSort])
        clear hown h1 hh hs hc hrow
        have HSO := Lib.hid (sortF_any g cap cap (l.filter okF).toArray wr w.heap.size hg HO.out.1 (by simp; omega))
        have hsz5 : (l.filter okF).toArray.size = (l.filter okF).length := by simp
        rw [hsz5] at HSO
        generalize hd1 : ((l.filter okF).mergeSort fun x y => !(Go.Proofs.ltOf cmpF y x)).toArray = d1 at *
        generalize (l.filter okF).length = n5 at *
        clear hd1 hsz5
        have HO2 : Hid (∀ W, FBlk W g cap d1 → Calls Try.prog 69 #[.slice (some ⟨g, 0, none⟩) n5 cap] W (CompPost g cap d1 W)) := Lib.hid (fun W hW => by have := compactF_any g cap d1 W hW (by rw [HLS.out]; omega); rwa [HLS.out] at this)
        unfold maxLen at hmx
        go_wp2_with fail
        refine HSO.out.mono ?_
        rintro e w2 ⟨rfl, hf2, hb2⟩
        have HB2 := Lib.hid (HBE.out.trans hb2)
        have HF2 := Lib.hid hf2
        clear hf2 hb2
        go_wp2_with fail
        refine (HO2.out _ HF2.out).mono ?_
        rintro e w3 ⟨rfl, hf3, hb3⟩
        rw [HOF.out] at hf3 ⊢
        have HF3 := Lib.hid hf3
        have HB3 := Lib.hid (HB2.out.trans (hb3.mono hg))
        have HLE : Hid ((ofL l).length ≤ cap) := Lib.hid (by
          have h5 : (Go.Lib.compactUpTo d1 d1.size).length ≤ d1.size := by
            unfold Go.Lib.compactUpTo
            rw [List.length_map]
            exact Nat.le_trans (List.length_filter_le _ _) (by simp)
          rw [HOF.out, HLS.out] at h5; omega)
        clear hf3 hb3
        generalize hll2 : (ofL l).length = n6 at *
        have HL6 := Lib.hid hll2; clear hll2
        go_wp2_with fail
        go_ret
        exact ⟨_, _, by rw [HL6.out]; rfl, by rw [HL6.out]; exact HLE.out, by unfold maxLen; omega, HF3.out, HB3.out⟩
end Go.Proofs.Ytnaiflokmihmeaa
