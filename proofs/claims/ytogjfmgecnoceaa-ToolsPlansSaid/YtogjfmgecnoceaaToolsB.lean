/- Walks of the reference: UsesFault, FirstOf. -/
import Derived.Test.YtogjfmgecnoceaaToolsA
namespace Go.Proofs.Ytogjfmgecnoceaa
open Go.RowKit
set_option linter.unusedVariables false
set_option linter.unusedSimpArgs false

/-- block g holds, for each of six tools and each of 2000 ticks, whether the tool is used -/
def Busy (w : World) (g : Nat) (p : Int → Int → Bool) : Prop :=
  ∃ cs, Blk w g 150 cs ∧ cs.size = 12000 ∧ ∀ a t : Nat, a < 6 → t < 2000 → cs[a*2000+t]? = some (.bool (p a t))
theorem Busy.below {w w' : World} {g : Nat} {p : Int → Int → Bool} {B : Nat} (h : Busy w g p) (hb : Below B w w') (hg : g < B) : Busy w' g p := by
  obtain ⟨cs, h1, h2, h3⟩ := h
  exact ⟨cs, h1.below hb hg, h2, h3⟩
theorem Busy.congr {w : World} {g : Nat} {p q : Int → Int → Bool} (h : Busy w g p) (hpq : ∀ a t : Nat, a < 6 → t < 2000 → p a t = q a t) : Busy w g q := by
  obtain ⟨cs, h1, h2, h3⟩ := h
  exact ⟨cs, h1, h2, fun a t ha ht => by rw [h3 a t ha ht, hpq a t ha ht]⟩
theorem Busy.at_ {w : World} {g : Nat} {p : Int → Int → Bool} (h : Busy w g p) (a t : Nat) (ha : a < 6) (ht : t < 2000) : w.cell? ⟨g, a*2000+t, none⟩ = some (.bool (p a t)) ∧ w.frozen? ⟨g, a*2000+t, none⟩ = false := by
  obtain ⟨cs, h1, h2, h3⟩ := h
  exact ⟨(h1.cell _).trans (h3 a t ha ht), h1.frozen _⟩
theorem Busy.set_ {w : World} {g : Nat} {p : Int → Int → Bool} (h : Busy w g p) (a t : Nat) (ha : a < 6) (ht : t < 2000) : Busy (w.setCell ⟨g, a*2000+t, none⟩ (.bool true)) g (fun a' t' => p a' t' || decide (a' = a ∧ t' = t)) := by
  obtain ⟨cs, h1, h2, h3⟩ := h
  refine ⟨_, h1.set_ _ _, by simpa using h2, fun a' t' ha' ht' => ?_⟩
  rw [Array.getElem?_setIfInBounds]
  by_cases hh : a' = a ∧ t' = t
  · obtain ⟨rfl, rfl⟩ := hh
    rw [if_pos rfl, if_pos (by omega)]; simp
  · rw [if_neg (by omega), h3 a' t' ha' ht']
    congr 2
    have : decide ((a' : Int) = a ∧ (t' : Int) = t) = false := by simp; omega
    show p a' t' = (p a' t' || decide ((a' : Int) = a ∧ (t' : Int) = t))
    rw [this, Bool.or_false]

theorem z6 : zOk Try.prog 150 12000 = true := by kernel_rfl

set_option maxHeartbeats 400000 in
theorem fault_any (us : List U) (A : Option Addr) (n c : Nat) (w : World) (hn : n = us.length) (hnc : n ≤ c) (hm : c ≤ maxLen) (h : UsesAt w w.heap.size A us) :
    Calls Try.prog 87 #[.slice A n c] w fun e w' => e = .returned (.int .i64 (chk us)) ∧ Below w.heap.size w w' := by
  have HN := Lib.hid hn; clear hn
  have H := Lib.hid h; clear h
  unfold maxLen at hm
  by_cases h60 : 60 < n
  · go_enter Try.func87, Try.ntmps87
    go_wp2
    go_ret
    exact ⟨ret_int (chk_large (by rw [← HN.out]; exact h60)).symm, Below.refl _ _⟩
  · have H60 : ¬ 60 < us.length := by rw [← HN.out]; exact h60
    obtain ⟨Z, hZs, hZ, hzr⟩ := zero_bools z6
    have HZ : Hid (Z.size = 12000 ∧ ∀ i, i < 12000 → Z[i]? = some (.bool false)) := ⟨hZs, hZ⟩
    clear hZs hZ
    go_enter Try.func87, Try.ntmps87
    go_wp2_with fail
    have hB0 : Busy (w.alloc (.cells Z 150)) w.heap.size (usedBy (us.take 0)) := ⟨Z, Blk.new _ _ _, HZ.out.1, fun a t ha ht => HZ.out.2 _ (by omega)⟩
    have HB0 := Lib.hid hB0; clear hB0
    go_loopw [12] (fun i wr => ∃ k : Nat, k ≤ n ∧ i = .int .i64 k ∧ Hid (∀ j < k, chkAt us j = none) ∧ Hid (Below w.heap.size w wr) ∧ Hid (Busy wr w.heap.size (usedBy (us.take k)))) (fun i _ => n - (intOf i).toNat)
    case atStart => exact ⟨0, Nat.zero_le _, rfl, forall_lt_zero, (Below.refl _ _).alloc (Nat.le_refl _) _, HB0.out⟩
    case round =>
      obtain ⟨k, hk, rfl, hall, hbel, hbusy⟩ := hrel
      by_cases hlt : k < n
      · obtain ⟨u, hu⟩ := get_of_lt HN.out hlt
        obtain ⟨b, off, rfl, hb, h0, h1, h2⟩ := H.out k u hu
        have HU := Lib.hid hu; clear hu
        have g0 := (hbel.out.cell (p := ⟨b, off + k*3, none⟩) hb).trans h0
        have g1 := (hbel.out.cell (p := ⟨b, off + k*3+1, none⟩) hb).trans h1
        have g2 := (hbel.out.cell (p := ⟨b, off + k*3+2, none⟩) hb).trans h2
        clear h0 h1 h2
        have hz := hbel.out.size
        cases hok : okU u with
        | false =>
          have HK := Lib.hid hok; clear hok
          go_wp2_with fail
          refine (useis_is _ _ _ _ HK.out).mono ?_
          rintro e w1 ⟨rfl, hb1⟩
          go_wp2_with fail
          go_ret
          exact ⟨ret_int (chk_some H60 (by rw [← HN.out]; exact hlt) hall.out (chkAt_bad HU.out HK.out)).symm, (hbel.out.alloc hz _).trans (hb1.mono (by simp; omega))⟩
        | true =>
          have HK := Lib.hid hok
          obtain ⟨t0, t1, f0, l0, l1, fl⟩ := okU_iff.1 hok; clear hok
          go_wp2_with fail
          refine (useis_is _ _ _ _ HK.out).mono ?_
          rintro e w1 ⟨rfl, hb1⟩
          have hbw : Below w.heap.size w w1 := (hbel.out.alloc hz _).trans (hb1.mono (by simp; omega))
          have hgw := hbusy.out.choose_spec.1.lt
          have hbusy1 := hbusy.out.below (((Below.refl wr.heap.size wr).alloc (Nat.le_refl _) _).trans (hb1.mono (by simp))) hgw
          obtain ⟨hc1, hf1⟩ := bcell hb1
          have hz1 : wr.heap.size < w1.heap.size := by have := hb1.size; simp at this; omega
          have e0 : w1.cell? ⟨wr.heap.size, 0, none⟩ = some (.int .i64 u.t) := by rw [hc1 _ _ (by simp)]; simp
          have e1 : w1.cell? ⟨wr.heap.size, 1, none⟩ = some (.int .i64 u.f) := by rw [hc1 _ _ (by simp)]; simp
          have e2 : w1.cell? ⟨wr.heap.size, 2, none⟩ = some (.int .i64 u.l) := by rw [hc1 _ _ (by simp)]; simp
          clear hc1 hf1 g0 g1 g2
          obtain ⟨ut, uf, ul⟩ := u
          dsimp only at e0 e1 e2 t0 t1 f0 l0 l1 fl
          obtain ⟨a, rfl⟩ := Int.eq_ofNat_of_zero_le t0
          obtain ⟨f, rfl⟩ := Int.eq_ofNat_of_zero_le f0
          obtain ⟨l, rfl⟩ := Int.eq_ofNat_of_zero_le (show 0 ≤ ul by omega)
          have HE := Lib.hid (And.intro e0 (And.intro e1 e2))
          generalize hg : wr.heap.size = g at *
          have HG := Lib.hid hg; clear hg
          have HH := Lib.hid hbusy1; clear hbusy1
          go_wp2_with fail
          clear e0 e1 e2
          go_loopw [6] (fun i wi => ∃ t : Nat, f ≤ t ∧ t ≤ f + l ∧ i = .int .i64 t ∧ Hid (∀ x : Int, (f : Int) ≤ x → x < t → usedBy (us.take k) a x = false) ∧ Hid (Below w.heap.size w wi) ∧ Hid (wi.cell? ⟨g, 0, none⟩ = some (.int .i64 a) ∧ wi.cell? ⟨g, 1, none⟩ = some (.int .i64 f) ∧ wi.cell? ⟨g, 2, none⟩ = some (.int .i64 l)) ∧ g < wi.heap.size ∧ Hid (Busy wi w.heap.size (fun a' x => usedBy (us.take k) a' x || decide (a' = a ∧ f ≤ x ∧ x < t)))) (fun i _ => f + l - (intOf i).toNat)
          case atStart => exact ⟨f, Nat.le_refl _, by omega, rfl, fun x h1 h2 => by omega, hbw, HE.out, hz1, HH.out.congr fun a' t' _ _ => by rw [show decide ((a' : Int) = a ∧ (f : Int) ≤ t' ∧ (t' : Int) < f) = false by rw [decide_eq_false_iff_not]; omega, Bool.or_false]⟩
          case round =>
            obtain ⟨t, ht1, ht2, rfl, hfree, hbel2, hcells, hgz, hbusy2⟩ := hrel
            obtain ⟨e0, e1, e2⟩ := hcells.out
            by_cases hlt2 : t < f + l
            · obtain ⟨hx, hfx⟩ := hbusy2.out.at_ a t (by omega) (by omega)
              go_wp2_with fail
              · go_ret
                have hub : usedBy (us.take k) a t = true := by assumption
                exact ⟨ret_int (chk_some H60 (by rw [← HN.out]; exact hlt) hall.out (chkAt_busy HU.out HK.out hall.out (t := t) (by simp; omega) (by simp; omega) hub)).symm, hbel2.out⟩
              · have hub : usedBy (us.take k) a t = false := by assumption
                go_roundw
                case rel =>
                  refine ⟨t+1, by omega, by omega, by go_num, ?_, hbel2.out.setCell (Nat.le_refl _) _, ?_, by simpa [World.setCell] using hgz, ?_⟩
                  · intro x h1 h2
                    by_cases hx : x < t
                    · exact hfree.out x h1 hx
                    · rw [show x = t by omega]; exact hub
                  · refine ⟨?_, ?_, ?_⟩
                    · rw [World.cell?_setCell_other _ _ _ _ (by intro h; have := congrArg Addr.block h; simp at this; omega)]; exact e0
                    · rw [World.cell?_setCell_other _ _ _ _ (by intro h; have := congrArg Addr.block h; simp at this; omega)]; exact e1
                    · rw [World.cell?_setCell_other _ _ _ _ (by intro h; have := congrArg Addr.block h; simp at this; omega)]; exact e2
                  · refine (hbusy2.out.set_ a t (by omega) (by omega)).congr fun a' t' _ _ => ?_
                    rw [Bool.or_assoc]
                    congr 1
                    rw [Bool.eq_iff_iff]; simp only [Bool.or_eq_true, decide_eq_true_eq]; omega
                case measure => simp [intOf]; omega
            · go_wp2_with fail
              go_roundw
              case rel =>
                obtain rfl : t = f + l := by omega
                refine ⟨k+1, by omega, by go_num, forall_lt_succ hall.out (chkAt_free HU.out HK.out hall.out (by simpa using hfree.out)), hbel2.out, ?_⟩
                rw [take_succ_of HU.out]
                refine hbusy2.out.congr fun a' t' _ _ => ?_
                rw [usedBy_snoc]
                congr 1
                rw [Bool.eq_iff_iff]; simp only [decide_eq_true_eq]; omega
              case measure => simp [intOf]; omega
      · go_wp2_with fail
        go_ret
        obtain rfl : k = n := by omega
        exact ⟨ret_int (chk_none H60 (by rw [← HN.out]; exact hall.out)).symm, hbel.out⟩
end Go.Proofs.Ytogjfmgecnoceaa
