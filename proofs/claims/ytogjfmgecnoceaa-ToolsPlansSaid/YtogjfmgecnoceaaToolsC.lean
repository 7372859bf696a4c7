/- Walks: slices.Index and Contains at bools, FirstOf (reference). -/
import Derived.Test.YtogjfmgecnoceaaToolsB
import Derived.Test.YtogjfmgecnoceaaToolsQ
namespace Go.Proofs.Ytogjfmgecnoceaa
open Go.RowKit
set_option linter.unusedVariables false
set_option linter.unusedSimpArgs false

def idxB (p : Nat → Bool) (n : Nat) : Int := match (List.range n).find? p with | some i => i | none => -1
theorem idxB_found {p : Nat → Bool} {n k : Nat} (hk : k < n) (hp : p k = true) (h : ∀ j < k, p j = false) : idxB p n = k := by
  unfold idxB; rw [List.find?_range_eq_some.2 ⟨hp, by simpa using hk, fun j hj => by simp [h j hj]⟩]
theorem idxB_none {p : Nat → Bool} {n : Nat} (h : ∀ j < n, p j = false) : idxB p n = -1 := by
  unfold idxB; rw [List.find?_range_eq_none.2 (fun i hi => by simp [h i hi])]
theorem idxB_geq (p : Nat → Bool) (n : Nat) : decide (0 ≤ idxB p n) = (List.range n).any p := by
  unfold idxB
  cases h : (List.range n).find? p with
  | none =>
    have : (List.range n).any p = false := by
      rw [List.any_eq_false]; intro x hx; exact by simpa using List.find?_eq_none.1 h x hx
    rw [this]; simp
  | some i =>
    have : (List.range n).any p = true := List.any_eq_true.2 ⟨i, List.mem_of_find?_eq_some h, by simpa using List.find?_some h⟩
    rw [this]; simp

theorem indexB_any (p : Nat → Bool) (g off n c : Nat) (w : World) (hn : n ≤ maxLen) (h : ∀ i < n, w.cell? ⟨g, off + i, none⟩ = some (.bool (p i))) :
    Calls Try.prog 147 #[.slice (some ⟨g, off, none⟩) n c, .bool true] w fun e w' => e = .returned (.int .i64 (idxB p n)) ∧ w = w' := by
  unfold maxLen at hn
  have H := Lib.hid h; clear h
  go_enter Try.func147, Try.ntmps147
  go_wp2_with fail
  go_loop [8] (fun i => ∃ k : Nat, k ≤ n ∧ i = .int .i64 k ∧ Hid (∀ j < k, p j = false)) (fun i => n - (intOf i).toNat)
  case atStart => exact ⟨0, Nat.zero_le _, rfl, forall_lt_zero⟩
  case round =>
    obtain ⟨k, hk, rfl, hall⟩ := hrel
    by_cases hlt : k < n
    · have hc := H.out k hlt
      cases hp : p k with
      | true =>
        rw [hp] at hc
        have HP := Lib.hid hp; clear hp
        go_wp2_with fail
        go_ret
        exact ⟨ret_int (idxB_found hlt HP.out hall.out).symm, rfl⟩
      | false =>
        rw [hp] at hc
        have HP := Lib.hid hp; clear hp
        go_wp2_with fail
        go_round
        case rel => exact ⟨k+1, by omega, by go_num, forall_lt_succ hall.out HP.out⟩
        case measure => simp [intOf]; omega
    · go_wp2_with fail
      go_ret
      obtain rfl : k = n := by omega
      exact ⟨ret_int (idxB_none hall.out).symm, rfl⟩

theorem containsB_any (p : Nat → Bool) (g off n c : Nat) (w : World) (hn : n ≤ maxLen) (h : ∀ i < n, w.cell? ⟨g, off + i, none⟩ = some (.bool (p i))) {b : Bool} (hb : (List.range n).any p = b) :
    Calls Try.prog 130 #[.slice (some ⟨g, off, none⟩) n c, .bool true] w fun e w' => e = .returned (.bool b) ∧ w = w' := by
  have H := Lib.hid h; clear h
  have HB := Lib.hid hb; clear hb
  go_enter Try.func130, Try.ntmps130
  go_wp2_with fail
  refine (indexB_any p _ _ _ _ _ hn H.out).mono ?_
  rintro e w' ⟨rfl, rfl⟩
  generalize hi : idxB p n = i
  have HI := Lib.hid hi; clear hi
  go_wp2_with fail
  go_ret
  refine ⟨ret_bool ?_, rfl⟩
  rw [← HB.out, ← idxB_geq, HI.out]

/-- block g holds for each of 2000 ticks whether it is used -/
def Busy1 (w : World) (g : Nat) (p : Int → Bool) : Prop :=
  ∃ cs, Blk w g 148 cs ∧ cs.size = 2000 ∧ ∀ t : Nat, t < 2000 → cs[t]? = some (.bool (p t))
theorem Busy1.below {w w' : World} {g : Nat} {p : Int → Bool} {B : Nat} (h : Busy1 w g p) (hb : Below B w w') (hg : g < B) : Busy1 w' g p := by
  obtain ⟨cs, h1, h2, h3⟩ := h
  exact ⟨cs, h1.below hb hg, h2, h3⟩
theorem Busy1.congr {w : World} {g : Nat} {p q : Int → Bool} (h : Busy1 w g p) (hpq : ∀ t : Nat, t < 2000 → p t = q t) : Busy1 w g q := by
  obtain ⟨cs, h1, h2, h3⟩ := h
  exact ⟨cs, h1, h2, fun t ht => by rw [h3 t ht, hpq t ht]⟩
theorem Busy1.at_ {w : World} {g : Nat} {p : Int → Bool} (h : Busy1 w g p) (t : Nat) (ht : t < 2000) : w.cell? ⟨g, t, none⟩ = some (.bool (p t)) ∧ w.frozen? ⟨g, t, none⟩ = false := by
  obtain ⟨cs, h1, h2, h3⟩ := h
  exact ⟨(h1.cell _).trans (h3 t ht), h1.frozen _⟩
theorem Busy1.lt {w : World} {g : Nat} {p : Int → Bool} (h : Busy1 w g p) : g < w.heap.size := h.choose_spec.1.lt
theorem Busy1.set_ {w : World} {g : Nat} {p : Int → Bool} (h : Busy1 w g p) (t : Nat) (ht : t < 2000) : Busy1 (w.setCell ⟨g, t, none⟩ (.bool true)) g (fun t' => p t' || decide (t' = t)) := by
  obtain ⟨cs, h1, h2, h3⟩ := h
  refine ⟨_, h1.set_ _ _, by simpa using h2, fun t' ht' => ?_⟩
  rw [Array.getElem?_setIfInBounds]
  by_cases hh : t' = t
  · obtain rfl := hh
    rw [if_pos rfl, if_pos (by omega)]; simp
  · rw [if_neg (by omega), h3 t' ht']
    congr 2
    have : decide ((t' : Int) = t) = false := by simp; omega
    show p t' = (p t' || decide ((t' : Int) = t))
    rw [this, Bool.or_false]
theorem z1 : zOk Try.prog 148 2000 = true := by kernel_rfl

set_option maxHeartbeats 400000 in
set_option maxRecDepth 20000 in
theorem firstof_any (us : List U) (A : Option Addr) (n c a f l : Nat) (w : World) (hn : n = us.length) (hnc : n ≤ c) (hm : c ≤ maxLen) (h : UsesAt w w.heap.size A us)
    (hok : ∀ u ∈ us, okU u = true) (hf : f ≤ 1000000) (hl : 1 ≤ l) (hl2 : l ≤ 2000) :
    Calls Try.prog 84 #[.slice A n c, .int .i64 a, .int .i64 f, .int .i64 l] w fun e w' => e = .returned (.int .i64 (ff us a f l)) ∧ Below w.heap.size w w' := by
  have HN := Lib.hid hn; clear hn
  have H := Lib.hid h; clear h
  have HOK := Lib.hid hok; clear hok
  unfold maxLen at hm
  obtain ⟨Z, hZs, hZ, hzr⟩ := zero_bools z1
  have HZ : Hid (Z.size = 2000 ∧ ∀ i, i < 2000 → Z[i]? = some (.bool false)) := ⟨hZs, hZ⟩
  clear hZs hZ
  go_enter Try.func84, Try.ntmps84
  go_wp2_with fail
  have HB0 : Hid (Busy1 (w.alloc (.cells Z 148)) w.heap.size (usedBy (us.take 0) a)) := ⟨Z, Blk.new _ _ _, HZ.out.1, fun t ht => HZ.out.2 _ (by omega)⟩
  go_loopw [16] (fun i wr => ∃ k : Nat, k ≤ n ∧ i = .int .i64 k ∧ Hid (Below w.heap.size w wr) ∧ Hid (Busy1 wr w.heap.size (usedBy (us.take k) a))) (fun i _ => n - (intOf i).toNat)
  case atStart => exact ⟨0, Nat.zero_le _, rfl, (Below.refl _ _).alloc (Nat.le_refl _) _, HB0.out⟩
  case round =>
    obtain ⟨k, hk, rfl, hbel, hbusy⟩ := hrel
    by_cases hlt : k < n
    · obtain ⟨u, hu⟩ := get_of_lt HN.out hlt
      obtain ⟨b, off, rfl, hb, h0, h1, h2⟩ := H.out k u hu
      have hok := HOK.out u (List.mem_of_getElem? hu)
      have HU := Lib.hid hu; clear hu
      have g0 := (hbel.out.cell (p := ⟨b, off + k*3, none⟩) hb).trans h0
      have g1 := (hbel.out.cell (p := ⟨b, off + k*3+1, none⟩) hb).trans h1
      have g2 := (hbel.out.cell (p := ⟨b, off + k*3+2, none⟩) hb).trans h2
      clear h0 h1 h2
      have hz := hbel.out.size
      obtain ⟨t0, t1, f0, l0, l1, fl⟩ := okU_iff.1 hok; clear hok
      have hgw := hbusy.out.lt
      obtain ⟨ut, uf, ul⟩ := u
      dsimp only at g0 g1 g2 t0 t1 f0 l0 l1 fl
      obtain ⟨a', rfl⟩ := Int.eq_ofNat_of_zero_le t0
      obtain ⟨f', rfl⟩ := Int.eq_ofNat_of_zero_le f0
      obtain ⟨l', rfl⟩ := Int.eq_ofNat_of_zero_le (show 0 ≤ ul by omega)
      have hcm : Hid (∀ x : Int, usedBy (us.take (k+1)) a x = (usedBy (us.take k) a x || decide ((a' : Int) = a ∧ f' ≤ x ∧ x < f' + l'))) := fun x => by rw [take_succ_of HU.out, usedBy_snoc]
      go_wp2_with fail
      clear g0 g1 g2
      have hcs : Hid ((wr.alloc (.cells #[.int .i64 a', .int .i64 f', .int .i64 l'] 102)).cell? ⟨wr.heap.size, 0, none⟩ = some (.int .i64 a') ∧ (wr.alloc (.cells #[.int .i64 a', .int .i64 f', .int .i64 l'] 102)).cell? ⟨wr.heap.size, 1, none⟩ = some (.int .i64 f') ∧ (wr.alloc (.cells #[.int .i64 a', .int .i64 f', .int .i64 l'] 102)).cell? ⟨wr.heap.size, 2, none⟩ = some (.int .i64 l')) := ⟨by simp, by simp, by simp⟩
      have hbw : Hid (Below w.heap.size w (wr.alloc (.cells #[.int .i64 a', .int .i64 f', .int .i64 l'] 102))) := hbel.out.alloc hz _
      have hB1 : Hid (Busy1 (wr.alloc (.cells #[.int .i64 a', .int .i64 f', .int .i64 l'] 102)) w.heap.size (usedBy (us.take k) a)) := hbusy.out.below ((Below.refl wr.heap.size wr).alloc (Nat.le_refl _) _) hgw
      have hsz : Hid ((wr.alloc (.cells #[.int .i64 a', .int .i64 f', .int .i64 l'] 102)).heap.size = wr.heap.size + 1) := by simp [Hid]
      generalize hg : wr.heap.size = g at *
      have HG := Lib.hid hg; clear hg
      by_cases haa : a' = a
      · subst haa
        go_loopw [12] (fun i wi => ∃ t : Nat, f' ≤ t ∧ t ≤ f' + l' ∧ i = .int .i64 t ∧ Hid (Below w.heap.size w wi) ∧ Hid (wi.cell? ⟨g, 0, none⟩ = some (.int .i64 a') ∧ wi.cell? ⟨g, 1, none⟩ = some (.int .i64 f') ∧ wi.cell? ⟨g, 2, none⟩ = some (.int .i64 l')) ∧ Hid (Busy1 wi w.heap.size (fun x => usedBy (us.take k) a' x || decide (f' ≤ x ∧ x < t)))) (fun i _ => f' + l' - (intOf i).toNat)
        case atStart => exact ⟨f', Nat.le_refl _, by omega, rfl, hbw.out, hcs.out, hB1.out.congr fun t' _ => by rw [show decide ((f' : Int) ≤ t' ∧ (t' : Int) < f') = false by rw [decide_eq_false_iff_not]; omega, Bool.or_false]⟩
        case round =>
          obtain ⟨t, ht1, ht2, rfl, hbel2, hcells, hbusy2⟩ := hrel
          obtain ⟨e0, e1, e2⟩ := hcells.out
          by_cases hlt2 : t < f' + l'
          · obtain ⟨hx, hfx⟩ := hbusy2.out.at_ t (by omega)
            go_wp2_with fail
            go_roundw
            case rel =>
              refine ⟨t+1, by omega, by omega, by go_num, hbel2.out.setCell (Nat.le_refl _) _, ?_, ?_⟩
              · refine ⟨?_, ?_, ?_⟩
                · rw [World.cell?_setCell_other _ _ _ _ (by intro h; have := congrArg Addr.block h; simp at this; omega)]; exact e0
                · rw [World.cell?_setCell_other _ _ _ _ (by intro h; have := congrArg Addr.block h; simp at this; omega)]; exact e1
                · rw [World.cell?_setCell_other _ _ _ _ (by intro h; have := congrArg Addr.block h; simp at this; omega)]; exact e2
              · refine (hbusy2.out.set_ t (by omega)).congr fun t' _ => ?_
                rw [Bool.or_assoc]
                congr 1
                rw [Bool.eq_iff_iff]; simp only [Bool.or_eq_true, decide_eq_true_eq]; omega
            case measure => simp [intOf]; omega
          · go_wp2_with fail
            go_roundw
            case rel =>
              obtain rfl : t = f' + l' := by omega
              refine ⟨k+1, by omega, by go_num, hbel2.out, hbusy2.out.congr fun t' _ => ?_⟩
              rw [hcm.out]; congr 1; rw [Bool.eq_iff_iff]; simp only [decide_eq_true_eq, true_and]; omega
            case measure => simp [intOf]; omega
      · have hne : ((a' : Int) == (a : Int)) = false := by simp; omega
        obtain ⟨e0, e1, e2⟩ := hcs.out
        refine wp_loop_once ?_
        go_wp2_with fail
        go_roundw
        case rel =>
          refine ⟨k+1, by omega, by go_num, hbw.out, hB1.out.congr fun t' _ => ?_⟩
          rw [hcm.out, show decide ((a' : Int) = a ∧ (f' : Int) ≤ t' ∧ (t' : Int) < f' + l') = false by rw [decide_eq_false_iff_not]; omega, Bool.or_false]
        case measure => simp [intOf]; omega
    · obtain rfl : k = n := by omega
      rw [HN.out, List.take_length] at hbusy
      go_wp2_with fail
      go_loop [13] (fun i => ∃ x : Nat, f ≤ x ∧ x ≤ f + 2001 ∧ i = .int .i64 x ∧ Hid (∀ y : Int, f ≤ y → y < x → freeAt us a l y = false)) (fun i => f + 2001 - (intOf i).toNat)
      case atStart => exact ⟨f, Nat.le_refl _, by omega, rfl, fun y h1 h2 => by omega⟩
      case round =>
        obtain ⟨x, hx1, hx2, rfl, hno⟩ := hrel
        by_cases hlt2 : x + l ≤ 2000
        · have hcx : ∀ i < l, wr.cell? ⟨w.heap.size, x + i, none⟩ = some (.bool ((fun i : Nat => usedBy us a ((x + i : Nat) : Int)) i)) := fun i hi => (hbusy.out.at_ (x+i) (by omega)).1
          have HCX := Lib.hid hcx; clear hcx
          have hsl : ∀ W : World, (Instr.sliceAt 148 (.pointer (some ⟨w.heap.size, 0, none⟩)) (some (.int .i64 x)) (some (.int .i64 (x + l))) none).run Try.prog W = .ok (.slice (some ⟨w.heap.size, x, none⟩) l (2000 - x)) W := by
            intro W
            rw [run_sliceAt_array_lh W 148 _ Try.underlying148 _ _ _ _ (by omega) (by omega) (by show _ ≤ ((2000 : Nat) : Int); omega)]
            have e1 : ((x : Int) + (l : Int)).toNat = x + l := by omega
            have e2 : ¬ (2000 = x) := by omega
            have e3 : Try.prog.arrayLen 148 = 2000 := rfl
            simp [go_sem, slicedAt, e1, e2, e3]

          have hfr : (List.range l).any (fun i : Nat => usedBy us a ((x + i : Nat) : Int)) = !freeAt us a l x := by
            rw [Bool.eq_iff_iff, List.any_eq_true]
            rw [Bool.not_eq_true', ← Bool.not_eq_true, freeAt_iff]
            constructor
            · rintro ⟨i, hi, hu⟩ hall
              have := hall ((x + i : Nat) : Int) (by omega) (by simp at hi; omega)
              rw [this] at hu; cases hu
            · intro hh
              refine Classical.byContradiction fun hc => hh fun t h1 h2 => ?_
              cases hu : usedBy us a t with
              | false => rfl
              | true => exact absurd ⟨(t - x).toNat, by simp; omega, by rw [show ((x + (t - x).toNat : Nat) : Int) = t by omega]; exact hu⟩ hc
          cases hfa : freeAt us a l x with
          | true =>
            rw [hfa] at hfr
            have HFR := Lib.hid hfr; clear hfr
            have HFA := Lib.hid hfa; clear hfa
            go_wp2_with fail
            refine (containsB_any (fun i : Nat => usedBy us a ((x + i : Nat) : Int)) _ _ _ _ _ (by unfold maxLen; omega) HCX.out HFR.out).mono ?_
            rintro e w' ⟨rfl, rfl⟩
            go_wp2_with fail
            go_ret
            exact ⟨ret_int (ff_found (by omega) (by omega) HFA.out hno.out).symm, hbel.out⟩
          | false =>
            rw [hfa] at hfr
            have HFR := Lib.hid hfr; clear hfr
            have HFA := Lib.hid hfa; clear hfa
            go_wp2_with fail
            refine (containsB_any (fun i : Nat => usedBy us a ((x + i : Nat) : Int)) _ _ _ _ _ (by unfold maxLen; omega) HCX.out HFR.out).mono ?_
            rintro e w' ⟨rfl, rfl⟩
            go_wp2_with fail
            go_round
            case rel =>
              refine ⟨x+1, by omega, by omega, by go_num, fun y h1 h2 => ?_⟩
              by_cases hy : y < x
              · exact hno.out y h1 hy
              · rw [show y = x by omega]; exact HFA.out
            case measure => simp [intOf]; omega
        · go_wp2_with fail
          go_ret
          exact ⟨ret_int (ff_none fun y h1 h2 => hno.out y h1 (by omega)).symm, hbel.out⟩
end Go.Proofs.Ytogjfmgecnoceaa
