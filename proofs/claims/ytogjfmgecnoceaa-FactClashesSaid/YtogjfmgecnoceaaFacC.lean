/- Facts: Clash (package fact). -/
import Derived.Test.YtogjfmgecnoceaaFacA
import Derived.Deep.DeepCutAuto
namespace Go.Proofs.Ytogjfmgecnoceaa
open Go.RowKit
set_option linter.unusedVariables false
set_option linter.unusedSimpArgs false

/-- two valid facts, the first of no greater kind -/
def clashO (f g : Ft) : Bool :=
  if (f.k = 1 ∧ g.k = 1) ∨ (f.k = 2 ∧ g.k = 2) ∨ (f.k = 6 ∧ g.k = 6) then decide (f.a = g.a ∨ f.b = g.b)
  else if f.k = 1 ∧ g.k = 2 then decide (f.a = g.b)
  else if f.k = 1 ∧ g.k = 4 then decide (f.b = g.a)
  else if f.k = 2 ∧ g.k = 3 then decide (f.a = g.a)
  else false
def clashF (f g : Ft) : Bool := if okF f = false ∨ okF g = false ∨ f = g then false else if f.k > g.k then clashO g f else clashO f g

abbrev celF (f : Ft) : Array Value := #[.int .i64 f.k, .int .i64 f.a, .int .i64 f.b]
theorem two_boxes (w : World) (f g : Ft) : Below w.heap.size w ((w.alloc (.cells (celF f) 62)).alloc (.cells (celF g) 62)) ∧ Blk ((w.alloc (.cells (celF f) 62)).alloc (.cells (celF g) 62)) w.heap.size 62 (celF f) ∧ Blk ((w.alloc (.cells (celF f) 62)).alloc (.cells (celF g) 62)) (w.heap.size + 1) 62 (celF g) := by
  refine ⟨((Below.refl _ _).alloc (Nat.le_refl _) _).alloc (by simp) _, (Blk.new _ _ _).alloc _, Blk.at_ (by simp)⟩
theorem beq_pos {x y : Int} (h : (x == y) = true) : x = y := by simpa using h
/-- the two variables -/
structure Two2 (w : World) (f g : Ft) (wr : World) : Prop where
  bel : Below w.heap.size w wr
  one : Blk wr w.heap.size 62 (celF f)
  two : Blk wr (w.heap.size + 1) 62 (celF g)
theorem Two2.next {w wr w' : World} {f g : Ft} (h : Two2 w f g wr) (hb : Below wr.heap.size wr w') : Two2 w f g w' := ⟨h.bel.trans (hb.mono h.bel.size), h.one.belowB hb, h.two.belowB hb⟩
theorem Two2.swap {w wr : World} {f g : Ft} (h : Two2 w f g wr) : Two2 w g f ((((((wr.setCell ⟨w.heap.size, 0, none⟩ (.int .i64 g.k)).setCell ⟨w.heap.size, 1, none⟩ (.int .i64 g.a)).setCell ⟨w.heap.size, 2, none⟩ (.int .i64 g.b)).setCell ⟨w.heap.size + 1, 0, none⟩ (.int .i64 f.k)).setCell ⟨w.heap.size + 1, 1, none⟩ (.int .i64 f.a)).setCell ⟨w.heap.size + 1, 2, none⟩ (.int .i64 f.b)) := by
  have hn : w.heap.size ≠ w.heap.size + 1 := by omega
  refine ⟨?_, ?_, ?_⟩
  · refine (((((h.bel.setCell ?_ _).setCell ?_ _).setCell ?_ _).setCell ?_ _).setCell ?_ _).setCell ?_ _ <;> (dsimp only; omega)
  · have h1 := (((h.one.set_ 0 (.int .i64 g.k)).set_ 1 (.int .i64 g.a)).set_ 2 (.int .i64 g.b))
    exact ((h1.far (p := ⟨w.heap.size + 1, 0, none⟩) hn _).far (p := ⟨w.heap.size + 1, 1, none⟩) hn _).far (p := ⟨w.heap.size + 1, 2, none⟩) hn _
  · have h1 := ((h.two.far (p := ⟨w.heap.size, 0, none⟩) (Ne.symm hn) (.int .i64 g.k)).far (p := ⟨w.heap.size, 1, none⟩) (Ne.symm hn) (.int .i64 g.a)).far (p := ⟨w.heap.size, 2, none⟩) (Ne.symm hn) (.int .i64 g.b)
    exact ((h1.set_ 0 (.int .i64 f.k)).set_ 1 (.int .i64 f.a)).set_ 2 (.int .i64 f.b)

set_option maxHeartbeats 8000000 in
set_option maxRecDepth 20000 in
theorem clashF_any (f g : Ft) (w : World) : Calls Try.prog 38 #[valF f, valF g] w fun e w' => e = .returned (.bool (clashF f g)) ∧ Below w.heap.size w w' := by
  have HF := Lib.hid (fun W => validF_any f W)
  have HG := Lib.hid (fun W => validF_any g W)
  have HT := Lib.hid (show Two2 w f g _ from ⟨(two_boxes w f g).1, (two_boxes w f g).2.1, (two_boxes w f g).2.2⟩)
  obtain ⟨k, a, b⟩ := f
  obtain ⟨kk, aa, bb⟩ := g
  unfold valF at HF HG ⊢
  unfold celF at HT
  dsimp only at HF HG HT ⊢
  cases hf : okF ⟨k, a, b⟩ with
  | false =>
    have HV : Hid (clashF ⟨k, a, b⟩ ⟨kk, aa, bb⟩ = false) := Lib.hid (by simp [clashF, hf])
    rw [hf] at HF
    clear hf
    go_enter Try.func38, Try.ntmps38
    go_wp2_with fail
    generalize World.alloc (World.alloc w _) _ = w1 at *
    refine (HF.out w1).mono ?_
    rintro e w2 ⟨rfl, hb⟩
    have HT2 := Lib.hid (HT.out.next hb)
    go_wp2_with fail
    go_ret
    exact ⟨by rw [HV.out]; rfl, HT2.out.bel⟩
  | true =>
    cases hg : okF ⟨kk, aa, bb⟩ with
    | false =>
      have HV : Hid (clashF ⟨k, a, b⟩ ⟨kk, aa, bb⟩ = false) := Lib.hid (by simp [clashF, hg])
      rw [hf] at HF
      rw [hg] at HG
      clear hf hg
      go_enter Try.func38, Try.ntmps38
      go_wp2_with fail
      generalize World.alloc (World.alloc w _) _ = w1 at *
      refine (HF.out w1).mono ?_
      rintro e w2 ⟨rfl, hb⟩
      have HT2 := Lib.hid (HT.out.next hb)
      have k0 := HT2.out.two.cell 0
      have k1 := HT2.out.two.cell 1
      have k2 := HT2.out.two.cell 2
      simp at k0 k1 k2
      clear hb
      go_wp2_with fail
      refine (HG.out w2).mono ?_
      rintro e w3 ⟨rfl, hb⟩
      have HT3 := Lib.hid (HT2.out.next hb)
      clear k0 k1 k2
      go_wp2_with fail
      go_ret
      exact ⟨by rw [HV.out]; rfl, HT3.out.bel⟩
    | true =>
      have HV : Hid (clashF ⟨k, a, b⟩ ⟨kk, aa, bb⟩ = if k = kk ∧ a = aa ∧ b = bb then false else if k > kk then clashO ⟨kk, aa, bb⟩ ⟨k, a, b⟩ else clashO ⟨k, a, b⟩ ⟨kk, aa, bb⟩) := Lib.hid (by simp [clashF, hf, hg])
      rw [hf] at HF
      rw [hg] at HG
      clear hf hg
      go_enter Try.func38, Try.ntmps38
      go_wp2_with fail
      generalize World.alloc (World.alloc w _) _ = w1 at *
      refine (HF.out w1).mono ?_
      rintro e w2 ⟨rfl, hb⟩
      have HT2 := Lib.hid (HT.out.next hb)
      have k0 := HT2.out.two.cell 0
      have k1 := HT2.out.two.cell 1
      have k2 := HT2.out.two.cell 2
      simp at k0 k1 k2
      clear hb
      go_wp2_with fail
      refine (HG.out w2).mono ?_
      rintro e w3 ⟨rfl, hb⟩
      have HT3 := Lib.hid (HT2.out.next hb)
      clear k0 k1 k2 hb
      have k0 := HT3.out.two.cell 0
      have k1 := HT3.out.two.cell 1
      have k2 := HT3.out.two.cell 2
      have k3 := HT3.out.one.cell 0
      have k4 := HT3.out.one.cell 1
      have k5 := HT3.out.one.cell 2
      simp at k0 k1 k2 k3 k4 k5
      go_upto_if 22 with (fail)
      · go_ret
        have he : k = kk ∧ a = aa ∧ b = bb := by omega
        exact ⟨by rw [HV.out, if_pos he]; rfl, HT3.out.bel⟩
      all_goals
        have HNE := Lib.hid (show ¬ (k = kk ∧ a = aa ∧ b = bb) by omega)
        go_cut [] (fun wc => ∃ f1 g1 : Ft, Hid (Two2 w f1 g1 wc) ∧ Hid (clashF ⟨k, a, b⟩ ⟨kk, aa, bb⟩ = clashO f1 g1))
        case first =>
          by_cases hgt : kk < k
          · first
              | (exfalso; omega)
              | (have f0 := HT3.out.one.frozen 0
                 have f1 := HT3.out.one.frozen 1
                 have f2 := HT3.out.one.frozen 2
                 have f3 := HT3.out.two.frozen 0
                 have f4 := HT3.out.two.frozen 1
                 have f5 := HT3.out.two.frozen 2
                 have HVV := Lib.hid (show clashF ⟨k, a, b⟩ ⟨kk, aa, bb⟩ = clashO ⟨kk, aa, bb⟩ ⟨k, a, b⟩ by rw [HV.out, if_neg HNE.out, if_pos hgt])
                 go_wp2_with fail
                 go_meet
                 exact ⟨_, _, HT3.out.swap, HVV.out⟩)
          · have HVV := Lib.hid (show clashF ⟨k, a, b⟩ ⟨kk, aa, bb⟩ = clashO ⟨k, a, b⟩ ⟨kk, aa, bb⟩ by rw [HV.out, if_neg HNE.out, if_neg hgt])
            go_wp2_with fail
            go_meet
            exact ⟨_, _, HT3.out, HVV.out⟩
        case rest =>
          clear k0 k1 k2 k3 k4 k5
          obtain ⟨⟨k1, a1, b1⟩, ⟨k2, a2, b2⟩, ht, hv⟩ := hcut
          have c0 := ht.out.two.cell 0
          have c1 := ht.out.two.cell 1
          have c2 := ht.out.two.cell 2
          have c3 := ht.out.one.cell 0
          have c4 := ht.out.one.cell 1
          have c5 := ht.out.one.cell 2
          simp at c0 c1 c2 c3 c4 c5
          have hcase : (k1 = 1 ∧ k2 = 1) ∨ (k1 = 2 ∧ k2 = 2) ∨ (k1 = 6 ∧ k2 = 6) ∨ (k1 = 1 ∧ k2 = 2) ∨ (k1 = 1 ∧ k2 = 4) ∨ (k1 = 2 ∧ k2 = 3) ∨ Hid (¬ (k1 = 1 ∧ k2 = 1) ∧ ¬ (k1 = 2 ∧ k2 = 2) ∧ ¬ (k1 = 6 ∧ k2 = 6) ∧ ¬ (k1 = 1 ∧ k2 = 2) ∧ ¬ (k1 = 1 ∧ k2 = 4) ∧ ¬ (k1 = 2 ∧ k2 = 3)) := by
            by_cases h1 : k1 = 1 ∧ k2 = 1
            · exact .inl h1
            by_cases h2 : k1 = 2 ∧ k2 = 2
            · exact .inr (.inl h2)
            by_cases h3 : k1 = 6 ∧ k2 = 6
            · exact .inr (.inr (.inl h3))
            by_cases h4 : k1 = 1 ∧ k2 = 2
            · exact .inr (.inr (.inr (.inl h4)))
            by_cases h5 : k1 = 1 ∧ k2 = 4
            · exact .inr (.inr (.inr (.inr (.inl h5))))
            by_cases h6 : k1 = 2 ∧ k2 = 3
            · exact .inr (.inr (.inr (.inr (.inr (.inl h6)))))
            · exact .inr (.inr (.inr (.inr (.inr (.inr (Lib.hid ⟨h1, h2, h3, h4, h5, h6⟩))))))
          rcases hcase with ⟨rfl, rfl⟩ | ⟨rfl, rfl⟩ | ⟨rfl, rfl⟩ | ⟨rfl, rfl⟩ | ⟨rfl, rfl⟩ | ⟨rfl, rfl⟩ | HNN
          case' inr.inr.inr.inr.inr.inr =>
            have HVO : Hid (clashO ⟨k1, a1, b1⟩ ⟨k2, a2, b2⟩ = false) := Lib.hid (by have := HNN.out; unfold clashO; dsimp only; rw [if_neg (by omega), if_neg (by omega), if_neg (by omega), if_neg (by omega)])
            go_wp2_with fail
          case' inr.inr.inr.inr.inr.inl => go_wp2_with fail
          case' inr.inr.inr.inr.inl => go_wp2_with fail
          case' inr.inr.inr.inl => go_wp2_with fail
          case' inr.inr.inl => go_wp2_with fail
          case' inr.inl => go_wp2_with fail
          case' inl => go_wp2_with fail
          all_goals
            go_ret
            refine ⟨?_, ht.out.bel⟩
            rw [hv.out]
            first
              | (rw [HVO.out]; rfl)
              | (exfalso; have := HNN.out; omega)
              | (exfalso; have := HNN.out; have hb := beq_pos (show (k2 == 1) = true by assumption); omega)
              | (exfalso; have := HNN.out; have hb := beq_pos (show (k2 == 2) = true by assumption); omega)
              | (exfalso; have := HNN.out; have hb := beq_pos (show (k2 == 6) = true by assumption); omega)
              | (exfalso; have := HNN.out; have hb := beq_pos (show (k2 == 4) = true by assumption); omega)
              | (exfalso; have := HNN.out; have hb := beq_pos (show (k2 == 3) = true by assumption); omega)
              | (refine congrArg (fun b => Ending.returned (.bool b)) (?_ : _ = _); simp [clashO]; done)
              | (refine congrArg (fun b => Ending.returned (.bool b)) (?_ : _ = _); simp [clashO, *]; done)
              | (refine congrArg (fun b => Ending.returned (.bool b)) (?_ : _ = _); simp [clashO]; omega)
              | (refine congrArg (fun b => Ending.returned (.bool b)) (?_ : _ = _); rw [Bool.eq_iff_iff]; simp [clashO]; done)
end Go.Proofs.Ytogjfmgecnoceaa
