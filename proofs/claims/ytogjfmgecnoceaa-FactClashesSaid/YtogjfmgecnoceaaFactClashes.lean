/- FactClashes: Clash and Sound return what the reference says, for all facts: the walk of the law, with no condition. -/
import Derived.Test.YtogjfmgecnoceaaFacR
import Derived.Test.YtogjfmgecnoceaaFacH
import Derived.Test.YtogjfmgecnoceaaFacS
import Derived.Deep.RegionHeld3
namespace Go.Proofs.Ytogjfmgecnoceaa
open Go.RowKit Go.ChangeShapes Go.WideShapes Go.Deep
set_option linter.unusedVariables false
set_option linter.unusedSimpArgs false

theorem Two2.drew {w wr : World} {f g : Ft} (h : Two2 w f g wr) : Two2 w f g wr.drew := ⟨h.bel.drew, h.one, h.two⟩
theorem Two2.all {w W : World} {f g : Ft} (h : Two2 w f g W) : W.cell? ⟨w.heap.size, 0, none⟩ = some (.int .i64 f.k) ∧ W.cell? ⟨w.heap.size, 1, none⟩ = some (.int .i64 f.a) ∧ W.cell? ⟨w.heap.size, 2, none⟩ = some (.int .i64 f.b) ∧
    W.cell? ⟨w.heap.size + 1, 0, none⟩ = some (.int .i64 g.k) ∧ W.cell? ⟨w.heap.size + 1, 1, none⟩ = some (.int .i64 g.a) ∧ W.cell? ⟨w.heap.size + 1, 2, none⟩ = some (.int .i64 g.b) ∧ Two2 w f g W :=
  ⟨h.one.cell 0, h.one.cell 1, h.one.cell 2, h.two.cell 0, h.two.cell 1, h.two.cell 2, h⟩
theorem sound_iff {l : List Ft} {z : Bool} {n : Nat} (hn : n = l.length) (h : z = true ↔ ∀ i, i < n → ∀ f, l[i]? = some f → rowOk l i f) : soundB l = z := by
  cases z with
  | true => exact soundB_yes (fun i hi => h.1 rfl i (by omega))
  | false => exact soundB_no (fun hs => by have := h.2 (fun i hi => hs i (by omega)); cases this)
theorem inner_no {l : List Ft} {x : Ft} {z : Bool} {q : Nat} {y : Ft} (hy : l[q]? = some y) (h : z = true ↔ ∀ i, i < q → ∀ g, l[i]? = some g → clashF x g = false) {c : Bool} (hc : clashF x y = c) :
    ((z && !c) = true ↔ ∀ i, i < q + 1 → ∀ g, l[i]? = some g → clashF x g = false) := by
  subst hc
  rw [Bool.and_eq_true, h]
  constructor
  · rintro ⟨h1, h2⟩
    exact forall_lt_succ h1 (fun g hg => by rw [hy] at hg; cases hg; simpa using h2)
  · intro h1
    exact ⟨fun i hi => h1 i (by omega), by have := h1 q (by omega) y hy; simp [this]⟩
theorem outer_no {l : List Ft} {x : Ft} {z z2 : Bool} {j : Nat} (hx : l[j]? = some x) (h : z = true ↔ ∀ i, i < j → ∀ f, l[i]? = some f → rowOk l i f) (h2 : z2 = true ↔ z = true ∧ ∀ i, i < j → ∀ g, l[i]? = some g → clashF x g = false) :
    (z2 = true ↔ ∀ i, i < j + 1 → ∀ f, l[i]? = some f → rowOk l i f) := by
  rw [h2, h]
  constructor
  · rintro ⟨h3, h4⟩
    exact forall_lt_succ h3 (fun f hf => by rw [hx] at hf; cases hf; exact h4)
  · intro h3
    exact ⟨fun i hi => h3 i (by omega), h3 j (by omega) x hx⟩

set_option maxHeartbeats 4000000 in
set_option maxRecDepth 20000 in
theorem factClashes_core (f g : Ft) (l : List Ft) (A : Option Addr) (n c : Nat) (w : World) (hn : n = l.length) (hm : n * 24 ≤ 140737488351232) (hc : n ≤ c) (h : FactsAt w w.heap.size A l) :
    Calls Try.prog 7 #[valF f, valF g, .slice A n c] w fun e w' => e = .returned (.bool true) ∧ Below w.heap.size w w' := by
  have HC := Lib.hid (fun W => clashF_any f g W)
  have HD := Lib.hid (fun W => factsClash_any f g W)
  rw [clash_same] at HD
  have HT := Lib.hid (show Two2 w f g _ from ⟨(two_boxes w f g).1, (two_boxes w f g).2.1, (two_boxes w f g).2.2⟩)
  have HSO : Hid (∀ W, Below w.heap.size w W → Calls Try.prog 39 #[.slice A n c] W fun e w' => e = .returned (.bool (soundB l)) ∧ Below W.heap.size W w') := Lib.hid (fun W hb => sound_any l A n c W hn (by omega) hc (h.next hb))
  have HN := Lib.hid hn; clear hn
  have H := Lib.hid h; clear h
  have hm0 : n ≤ 9223372036854775807 := by omega
  unfold valF at HC HD ⊢
  unfold celF at HT
  generalize hbc : clashF f g = bc at *
  clear hbc
  obtain ⟨fk, fa, fb⟩ := f
  obtain ⟨ek, ea, eb⟩ := g
  dsimp only at HC HD HT ⊢
  go_enter Try.func7, Try.ntmps7
  go_wp2_with fail
  generalize World.alloc (World.alloc w _) _ = w1 at *
  go_loopg [7, 14] n (fun kx s7 i wr => ∃ (j : Nat) (z : Bool), kx = n - j ∧ j ≤ n ∧ i = .int .i64 j ∧ s7 = .bool z ∧ Hid (Two2 w ⟨fk, fa, fb⟩ ⟨ek, ea, eb⟩ wr) ∧ Hid (z = true ↔ ∀ i, i < j → ∀ f, l[i]? = some f → rowOk l i f))
  case atStart => exact ⟨0, true, by omega, Nat.zero_le _, rfl, rfl, HT.out, Lib.hid ⟨fun _ i hi => by omega, fun _ => rfl⟩⟩
  case round =>
    obtain ⟨j, z, hgk, hj, rfl, rfl, htw, hz⟩ := hrel
    have HGK := Lib.hid hgk; clear hgk
    by_cases hlt : j < n
    · obtain ⟨⟨xk, xa, xb⟩, hf⟩ := get_of_lt HN.out hlt
      obtain ⟨b, off, rfl, hb, h0, h1, h2⟩ := H.out.three hf
      have g0 := (htw.out.bel.cell (p := ⟨b, off + j*3, none⟩) hb).trans h0
      have g1 := (htw.out.bel.cell (p := ⟨b, off + j*3+1, none⟩) hb).trans h1
      have g2 := (htw.out.bel.cell (p := ⟨b, off + j*3+2, none⟩) hb).trans h2
      dsimp only at g0 g1 g2
      have HF := Lib.hid hf; clear hf h0 h1 h2
      have hjc : j ≤ c := by omega
      go_wp2_with fail
      clear g0 g1 g2
      have HW := Lib.hid (And.intro (htw.out.next ((Below.refl _ _).alloc (Nat.le_refl _) (.cells #[.int .i64 xk, .int .i64 xa, .int .i64 xb] 62))) (Blk.new wr 62 #[.int .i64 xk, .int .i64 xa, .int .i64 xb]))
      generalize hp : wr.heap.size = p at *
      have hpw : w.heap.size ≤ p := by rw [← hp]; exact htw.out.bel.size
      clear hp
      generalize World.alloc wr _ = w2 at *
      go_loopg [7, 23] j (fun kx s7 i wi => ∃ (q : Nat) (z2 : Bool), kx = j - q ∧ q ≤ j ∧ i = .int .i64 q ∧ s7 = .bool z2 ∧ Hid (Two2 w ⟨fk, fa, fb⟩ ⟨ek, ea, eb⟩ wi ∧ Blk wi p 62 #[.int .i64 xk, .int .i64 xa, .int .i64 xb]) ∧ Hid (z2 = true ↔ z = true ∧ ∀ i, i < q → ∀ g, l[i]? = some g → clashF ⟨xk, xa, xb⟩ g = false))
      case atStart => exact ⟨0, z, by omega, Nat.zero_le _, rfl, rfl, HW.out, Lib.hid ⟨fun h => ⟨h, fun i hi => by omega⟩, fun h => h.1⟩⟩
      case round =>
        clear HW htw
        obtain ⟨q, z2, hgk2, hq, rfl, rfl, hbk, hys⟩ := hrel
        have HGK2 := Lib.hid hgk2; clear hgk2
        by_cases hlt2 : q < j
        · obtain ⟨⟨yk, ya, yb⟩, hg⟩ := get_of_lt HN.out (show q < n by omega)
          obtain ⟨b2, off2, hAA, hb2, h0, h1, h2⟩ := H.out.three hg
          injection hAA with hAA
          injection hAA with e1 e2
          subst e1 e2
          have g0 := (hbk.out.1.bel.cell (p := ⟨b, off + q*3, none⟩) hb).trans h0
          have g1 := (hbk.out.1.bel.cell (p := ⟨b, off + q*3+1, none⟩) hb).trans h1
          have g2 := (hbk.out.1.bel.cell (p := ⟨b, off + q*3+2, none⟩) hb).trans h2
          have k0 := hbk.out.2.cell 0
          have k1 := hbk.out.2.cell 1
          have k2 := hbk.out.2.cell 2
          have hplt := hbk.out.2.lt
          simp at k0 k1 k2
          dsimp only at g0 g1 g2
          have HG := Lib.hid hg; clear hg h0 h1 h2
          have HCC := Lib.hid (fun W => factsClash_any ⟨xk, xa, xb⟩ ⟨yk, ya, yb⟩ W)
          rw [clash_same] at HCC
          unfold valF at HCC
          dsimp only at HCC
          have HWA := Lib.hid (And.intro (hbk.out.1.next ((Below.refl _ _).alloc (Nat.le_refl _) (.cells #[.int .i64 yk, .int .i64 ya, .int .i64 yb] 62))) (hbk.out.2.alloc (.cells #[.int .i64 yk, .int .i64 ya, .int .i64 yb] 62)))
          have HYS : Hid (∀ c, clashF ⟨xk, xa, xb⟩ ⟨yk, ya, yb⟩ = c → ((z2 && !c) = true ↔ z = true ∧ ∀ i, i < q + 1 → ∀ g, l[i]? = some g → clashF ⟨xk, xa, xb⟩ g = false)) := Lib.hid (fun c hc => by
            subst hc
            rw [Bool.and_eq_true, hys.out]
            constructor
            · rintro ⟨⟨h1, h2⟩, h3⟩
              exact ⟨h1, forall_lt_succ h2 (fun g hg => by rw [HG.out] at hg; cases hg; simpa using h3)⟩
            · rintro ⟨h1, h2⟩
              exact ⟨⟨h1, fun i hi => h2 i (by omega)⟩, by have := h2 q (by omega) _ HG.out; simp [this]⟩)
          cases z2 with
          | true =>
            cases hcl : clashF ⟨xk, xa, xb⟩ ⟨yk, ya, yb⟩ with
            | true =>
              have HY2 := Lib.hid (HYS.out _ hcl)
              rw [hcl] at HCC
              clear hcl HYS
              go_wp2_with fail
              refine (HCC.out _).mono ?_
              rintro e w3 ⟨rfl, hb3⟩
              have HB3 := Lib.hid (And.intro (HWA.out.1.next hb3) (HWA.out.2.belowB hb3)); clear hb3
              go_wp2_with fail
              go_roundg (j - (q + 1))
              case measure => rw [HGK2.out]; omega
              case rel => exact ⟨q+1, false, rfl, by omega, by go_num, rfl, HB3.out, HY2.out⟩
            | false =>
              have HY2 := Lib.hid (HYS.out _ hcl)
              rw [hcl] at HCC
              clear hcl HYS
              go_wp2_with fail
              refine (HCC.out _).mono ?_
              rintro e w3 ⟨rfl, hb3⟩
              have HB3 := Lib.hid (And.intro (HWA.out.1.next hb3) (HWA.out.2.belowB hb3)); clear hb3
              go_wp2_with fail
              go_roundg (j - (q + 1))
              case measure => rw [HGK2.out]; omega
              case rel => exact ⟨q+1, true, rfl, by omega, by go_num, rfl, HB3.out, HY2.out⟩
          | false =>
            have HY2 := Lib.hid (HYS.out _ rfl)
            clear HYS
            go_wp2_with fail
            go_roundg (j - (q + 1))
            case measure => rw [HGK2.out]; omega
            case rel => exact ⟨q+1, false, rfl, by omega, by go_num, rfl, HWA.out, HY2.out⟩
        · obtain rfl : q = j := by omega
          have HOK := Lib.hid (outer_no HF.out hz.out hys.out)
          go_wp2_with fail
          go_roundg (n - (q + 1))
          case measure => rw [HGK.out]; omega
          case rel => exact ⟨q+1, z2, rfl, by omega, by go_num, rfl, hbk.out.1, HOK.out⟩
    · obtain rfl : j = n := by omega
      have HZ := Lib.hid (sound_iff HN.out hz.out)
      rw [HZ.out] at HSO
      clear hz
      have hS := htw.out
      go_wp2_with fail
      go_region_held3 (fun w' => w'.cell? ⟨w.heap.size, 0, none⟩ = some (.int .i64 fk) ∧ w'.cell? ⟨w.heap.size, 1, none⟩ = some (.int .i64 fa) ∧ w'.cell? ⟨w.heap.size, 2, none⟩ = some (.int .i64 fb) ∧ w'.cell? ⟨w.heap.size + 1, 0, none⟩ = some (.int .i64 ek) ∧ w'.cell? ⟨w.heap.size + 1, 1, none⟩ = some (.int .i64 ea) ∧ w'.cell? ⟨w.heap.size + 1, 2, none⟩ = some (.int .i64 eb) ∧ Two2 w ⟨fk, fa, fb⟩ ⟨ek, ea, eb⟩ w')
        (first | exact Two2.all (by assumption) | exact Two2.all (Two2.drew (by assumption)))
        (first
          | (go_at_call 37; refine (facted_any _).mono ?_; rintro e w5 ⟨rfl, hb5⟩; have hS5 := Two2.next (by first | assumption | exact Two2.drew (by assumption) | (go_split_ands; assumption)) hb5)
          | (go_at_call 38; refine (HC.out _).mono ?_; rintro e w6 ⟨rfl, hb6⟩; have hS6 := Two2.next (by first | assumption | exact Two2.drew (by assumption) | (go_split_ands; assumption)) hb6)
          | (go_at_call 36; refine (HD.out _).mono ?_; rintro e w7 ⟨rfl, hb7⟩; have hS7 := Two2.next (by first | assumption | exact Two2.drew (by assumption) | (go_split_ands; assumption)) hb7)
          | (go_at_call 39; refine (HSO.out _ (Two2.bel (by first | assumption | exact Two2.drew (by assumption) | (go_split_ands; assumption)))).mono ?_; rintro e w8 ⟨rfl, hb8⟩; have hS8 := Two2.next (by first | assumption | exact Two2.drew (by assumption) | (go_split_ands; assumption)) hb8))
      all_goals
        go_wp2_with fail
        go_ret
        exact ⟨rfl, hS8.bel⟩
set_option maxRecDepth 40000 in
theorem factClashes_walk {H : Type} {enc : TypeId × Value → H} (W : World) (v0 v1 v2 : Value) {d0 d1 d2 : DataW H} {p0 p1 p2 : List MemPlace} {base : Nat}
    (h0 : DataW.Trod enc Try.prog W 0 (fun _ => true) true 62 v0 d0 p0) (h1 : DataW.Trod enc Try.prog W 0 (fun _ => true) true 62 v1 d1 p1) (h2 : DataW.Trod enc Try.prog W 0 (fun _ => true) true 63 v2 d2 p2)
    (o0 : Value.okWide Try.prog W .any base 62 v0) (o1 : Value.okWide Try.prog W .any base 62 v1) (o2 : Value.okWide Try.prog W .any base 63 v2)
    (w0 : Light Try.prog 62 d0) (w1 : Light Try.prog 62 d1) (w2 : Light Try.prog 63 d2) :
    Calls Try.prog 7 #[v0, v1, v2] W fun e W' => e = .returned (.bool true) ∧ Below W.heap.size W W' := by
  obtain ⟨f, rfl, _⟩ := open_fact h0 o0
  obtain ⟨g, rfl, _⟩ := open_fact h1 o1
  obtain ⟨A, c, l, rfl, hlc, hc, hm, hi⟩ := open_facts h2 o2 w2
  exact factClashes_core f g l A _ c W rfl hm hlc hi
end Go.Proofs.Ytogjfmgecnoceaa
