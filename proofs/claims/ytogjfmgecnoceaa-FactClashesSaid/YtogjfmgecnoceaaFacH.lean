/- Facts: Sound (package fact). -/
import Derived.Test.YtogjfmgecnoceaaFacG
namespace Go.Proofs.Ytogjfmgecnoceaa
open Go.RowKit
set_option linter.unusedVariables false
set_option linter.unusedSimpArgs false

def rowOk (l : List Ft) (i : Nat) (f : Ft) : Prop := ∀ j, j < i → ∀ g, l[j]? = some g → clashF f g = false
def SoundP (l : List Ft) : Prop := ∀ i, i < l.length → ∀ f, l[i]? = some f → rowOk l i f
open Classical in
noncomputable def soundB (l : List Ft) : Bool := decide (SoundP l)
theorem soundB_yes {l : List Ft} (h : SoundP l) : soundB l = true := by simp [soundB, h]
theorem soundB_no {l : List Ft} (h : ¬ SoundP l) : soundB l = false := by simp [soundB, h]
theorem sound_bad {l : List Ft} {i j : Nat} {f g : Ft} (hi : l[i]? = some f) (hj : l[j]? = some g) (hji : j < i) (h : clashF f g = true) : ¬ SoundP l := fun hs => by
  have := hs i (List.getElem?_eq_some_iff.1 hi).1 f hi j hji g hj
  rw [this] at h
  cases h

set_option maxHeartbeats 2000000 in
set_option maxRecDepth 20000 in
theorem sound_any (l : List Ft) (A : Option Addr) (n c : Nat) (w : World) (hn : n = l.length) (hm : n ≤ 9223372036854775807) (hc : n ≤ c) (h : FactsAt w w.heap.size A l) :
    Calls Try.prog 39 #[.slice A n c] w fun e w' => e = .returned (.bool (soundB l)) ∧ Below w.heap.size w w' := by
  have HN := Lib.hid hn; clear hn
  have H := Lib.hid h; clear h
  go_enter Try.func39, Try.ntmps39
  go_wp2_with fail
  go_loopg [9] n (fun kx i wr => ∃ j : Nat, kx = n - j ∧ j ≤ n ∧ i = .int .i64 j ∧ Hid (Below w.heap.size w wr) ∧ Hid (∀ i, i < j → ∀ f, l[i]? = some f → rowOk l i f))
  case atStart => exact ⟨0, by omega, Nat.zero_le _, rfl, Below.refl _ _, Lib.hid (fun i hi => by omega)⟩
  case round =>
    obtain ⟨j, hgk, hj, rfl, hbel, hall⟩ := hrel
    have HGK := Lib.hid hgk; clear hgk
    by_cases hlt : j < n
    · obtain ⟨⟨fk, fa, fb⟩, hf⟩ := get_of_lt HN.out hlt
      obtain ⟨b, off, rfl, hb, h0, h1, h2⟩ := H.out.three hf
      have g0 := (hbel.out.cell (p := ⟨b, off + j*3, none⟩) hb).trans h0
      have g1 := (hbel.out.cell (p := ⟨b, off + j*3+1, none⟩) hb).trans h1
      have g2 := (hbel.out.cell (p := ⟨b, off + j*3+2, none⟩) hb).trans h2
      dsimp only at g0 g1 g2
      have HF := Lib.hid hf; clear hf h0 h1 h2
      go_wp2_with fail
      clear g0 g1 g2
      have HW := Lib.hid (And.intro (hbel.out.alloc hbel.out.size (.cells #[.int .i64 fk, .int .i64 fa, .int .i64 fb] 62)) (Blk.new wr 62 #[.int .i64 fk, .int .i64 fa, .int .i64 fb]))
      generalize hp : wr.heap.size = p at *
      have hpw : w.heap.size ≤ p := by rw [← hp]; exact hbel.out.size
      clear hp
      generalize World.alloc wr _ = w1 at *
      go_loopg [18] j (fun kx i wi => ∃ q : Nat, kx = j - q ∧ q ≤ j ∧ i = .int .i64 q ∧ Hid (Below w.heap.size w wi ∧ Blk wi p 62 #[.int .i64 fk, .int .i64 fa, .int .i64 fb]) ∧ Hid (∀ i, i < q → ∀ g, l[i]? = some g → clashF ⟨fk, fa, fb⟩ g = false))
      case atStart => exact ⟨0, by omega, Nat.zero_le _, rfl, HW.out, Lib.hid (fun i hi => by omega)⟩
      case round =>
        clear HW hbel
        obtain ⟨q, hgk2, hq, rfl, hbk, hys⟩ := hrel
        have HGK2 := Lib.hid hgk2; clear hgk2
        by_cases hlt2 : q < j
        · obtain ⟨⟨gk, ga, gb⟩, hg⟩ := get_of_lt HN.out (show q < n by omega)
          obtain ⟨b2, off2, hAA, hb2, h0, h1, h2⟩ := H.out.three hg
          injection hAA with hAA
          injection hAA with e1 e2
          subst e1 e2
          have g0 := (hbk.out.1.cell (p := ⟨b, off + q*3, none⟩) hb).trans h0
          have g1 := (hbk.out.1.cell (p := ⟨b, off + q*3+1, none⟩) hb).trans h1
          have g2 := (hbk.out.1.cell (p := ⟨b, off + q*3+2, none⟩) hb).trans h2
          have k0 := hbk.out.2.cell 0
          have k1 := hbk.out.2.cell 1
          have k2 := hbk.out.2.cell 2
          have hplt := hbk.out.2.lt
          simp at k0 k1 k2
          dsimp only at g0 g1 g2
          have HG := Lib.hid hg; clear hg h0 h1 h2
          have HC := Lib.hid (fun W => clashF_any ⟨fk, fa, fb⟩ ⟨gk, ga, gb⟩ W)
          unfold valF at HC
          dsimp only at HC
          have HWA := Lib.hid (And.intro (hbk.out.1.alloc hbk.out.1.size (.cells #[.int .i64 gk, .int .i64 ga, .int .i64 gb] 62)) (hbk.out.2.alloc (.cells #[.int .i64 gk, .int .i64 ga, .int .i64 gb] 62)))
          cases hcl : clashF ⟨fk, fa, fb⟩ ⟨gk, ga, gb⟩ with
          | true =>
            have HB := Lib.hid (sound_bad HF.out HG.out hlt2 hcl)
            rw [hcl] at HC
            clear hcl
            go_wp2_with fail
            refine (HC.out _).mono ?_
            rintro e w3 ⟨rfl, hb3⟩
            have HB3 := Lib.hid (HWA.out.1.trans (hb3.mono HWA.out.1.size)); clear hb3
            go_wp2_with fail
            go_ret
            exact ⟨by rw [soundB_no HB.out]; rfl, HB3.out⟩
          | false =>
            have HNO : Hid (∀ g, l[q]? = some g → clashF ⟨fk, fa, fb⟩ g = false) := Lib.hid (fun g hg => by rw [HG.out] at hg; rw [← Option.some.inj hg]; exact hcl)
            rw [hcl] at HC
            clear hcl
            go_wp2_with fail
            refine (HC.out _).mono ?_
            rintro e w3 ⟨rfl, hb3⟩
            have HB3 := Lib.hid (And.intro (HWA.out.1.trans (hb3.mono HWA.out.1.size)) (HWA.out.2.belowB hb3)); clear hb3
            go_wp2_with fail
            go_roundg (j - (q + 1))
            case measure => rw [HGK2.out]; omega
            case rel => exact ⟨q+1, rfl, by omega, by go_num, HB3.out, Lib.hid (forall_lt_succ hys.out HNO.out)⟩
        · obtain rfl : q = j := by omega
          have HOK : Hid (∀ f, l[q]? = some f → rowOk l q f) := Lib.hid (fun f hf => by rw [HF.out] at hf; rw [← Option.some.inj hf]; exact hys.out)
          go_wp2_with fail
          go_roundg (n - (q + 1))
          case measure => rw [HGK.out]; omega
          case rel => exact ⟨q+1, rfl, by omega, by go_num, hbk.out.1, Lib.hid (forall_lt_succ hall.out HOK.out)⟩
    · obtain rfl : j = n := by omega
      have HB : Hid (SoundP l) := Lib.hid (fun i hi => hall.out i (by rw [HN.out]; exact hi))
      go_wp2_with fail
      go_ret
      exact ⟨by rw [soundB_yes HB.out]; rfl, hbel.out⟩
end Go.Proofs.Ytogjfmgecnoceaa
