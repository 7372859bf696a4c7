/- Joined texts. -/
import Derived.Test.YtekbpiooecdopaaDoorNatU
import Derived.Test.YtekbpiooecdopaaDoorNatW
import Derived.Test.YtekbpiooecdopaaDoorBunLib
import Derived.Deep.DeepCutAuto
import Derived.Deep.CutBlock
import Derived.Deep.RegionHeld3
import Derived.Deep.QuietTactic
import Derived.BigQuiet
import Derived.RegionTactic
import Derived.BigRegion

/- Walks of package nat: long. -/
namespace Go.Proofs.YtekbpiooecdopaaDoor
open Go.RowKit
set_option linter.unusedVariables false
set_option linter.unusedSimpArgs false

theorem SD.drew {w W : World} (h : Hid (Below w.heap.size w W)) : Hid (Below w.heap.size w W.drew) := h.out.drew
theorem SD.next {w W W' : World} (h : Hid (Below w.heap.size w W)) (hb : Below W.heap.size W W') : Hid (Below w.heap.size w W') := h.out.trans (hb.mono h.out.size)
theorem lg_bits : ∀ (f x : Nat), x < 2 ^ f → x ≠ 0 → 1 ≤ Lib.bitLenAux f x ∧ 2 ^ (Lib.bitLenAux f x - 1) ≤ x ∧ x < 2 ^ Lib.bitLenAux f x
  | 0, x, h, h0 => by simp at h; omega
  | f + 1, x, h, h0 => by
    rw [Lib.bitLenAux, if_neg h0]
    by_cases h2 : x / 2 = 0
    · have : Lib.bitLenAux f 0 = 0 := by cases f <;> simp [Lib.bitLenAux]
      rw [h2, this]
      have : x = 1 := by omega
      subst this
      simp
    · obtain ⟨a, b, c⟩ := lg_bits f (x / 2) (by rw [Nat.pow_succ] at h; omega) h2
      generalize Lib.bitLenAux f (x / 2) = L at a b c ⊢
      obtain ⟨k, rfl⟩ : ∃ k, L = k + 1 := ⟨L - 1, by omega⟩
      simp only [Nat.add_sub_cancel] at b
      refine ⟨by omega, ?_, ?_⟩
      · rw [show 1 + (k + 1) - 1 = k + 1 by omega, Nat.pow_succ]; omega
      · rw [show 1 + (k + 1) = k + 1 + 1 by omega, Nat.pow_succ]; omega
theorem long_lz (y : Nat) (hy : y < 4294967296) (h0 : y ≠ 0) (w : World) :
    Calls Tryd.prog 82 #[.int .u32 y] w fun e w' => (∃ b : Nat, e = .returned (.int .i64 b) ∧ b ≤ 31 ∧ 2147483648 ≤ y * 2 ^ b ∧ y * 2 ^ b < 4294967296) ∧ w = w' := by
  refine (bits_LeadingZeros32 (y : Int) w (by omega) (by omega)).mono ?_
  rintro e w' ⟨rfl, rfl⟩
  obtain ⟨p1, p2, p3⟩ := lg_bits 64 y (by have : (2 : Nat) ^ 64 = 18446744073709551616 := rfl; omega) h0
  have p4 : Lib.bitLenAux 64 y ≤ 32 := Lib.bitLenAux_le 64 y 32 (by have : (2 : Nat) ^ 32 = 4294967296 := rfl; omega)
  refine ⟨⟨32 - Lib.bitLenAux 64 y, ?_, by omega, ?_, ?_⟩, rfl⟩
  · have : (32 - (Lib.bitLen (y : Int).toNat : Int)) = ((32 - Lib.bitLenAux 64 y : Nat) : Int) := by
      show 32 - (Lib.bitLenAux 64 (y : Int).toNat : Int) = _
      rw [Int.toNat_natCast]; omega
    rw [this]
  · have h1 : 2 ^ (Lib.bitLenAux 64 y - 1) * 2 ^ (32 - Lib.bitLenAux 64 y) ≤ y * 2 ^ (32 - Lib.bitLenAux 64 y) := Nat.mul_le_mul_right _ p2
    rw [← Nat.pow_add, show Lib.bitLenAux 64 y - 1 + (32 - Lib.bitLenAux 64 y) = 31 by omega] at h1
    exact h1
  · have h1 : y * 2 ^ (32 - Lib.bitLenAux 64 y) < 2 ^ Lib.bitLenAux 64 y * 2 ^ (32 - Lib.bitLenAux 64 y) := Nat.mul_lt_mul_of_pos_right p3 (Nat.pow_pos (by omega))
    rw [← Nat.pow_add, show Lib.bitLenAux 64 y + (32 - Lib.bitLenAux 64 y) = 32 by omega] at h1
    exact h1

set_option maxHeartbeats 4000000 in
set_option maxRecDepth 20000 in
theorem long_any (xs ys : List Nat) (Ax Ay : Option Addr) (m n cx cy : Nat) (w : World) (hm : m = xs.length) (hn : n = ys.length) (h2n : 2 ≤ n) (hnm : n ≤ m) (hm2 : m ≤ 17592186044416) (hx : Wok xs) (hy : Wok ys) (htop : ∀ y, ys[n - 1]? = some y → y ≠ 0)
    (hxa : WAt w w.heap.size Ax xs) (hya : WAt w w.heap.size Ay ys) :
    Calls Tryd.prog 69 #[.slice Ax m cx, .slice Ay n cy] w fun e w' => ∃ gq gu qs rs c1 c2, e = .returned (.tuple #[.slice (some ⟨gq, 0, none⟩) (List.length qs) c1, .slice (some ⟨gu, 0, none⟩) (List.length rs) c2]) ∧ Below w.heap.size w w' ∧ WAt w' w'.heap.size (some ⟨gq, 0, none⟩) qs ∧ WAt w' w'.heap.size (some ⟨gu, 0, none⟩) rs ∧ Wok qs ∧ Wok rs ∧ qs.length ≤ m ∧ rs.length ≤ m ∧ wval qs = wval xs / wval ys ∧ wval rs = wval xs % wval ys := by
  obtain ⟨p, rfl⟩ : ∃ p, m = n + p := ⟨m - n, by omega⟩
  have HN := Lib.hid (And.intro hm hn); clear hm hn
  have HXY := Lib.hid (And.intro hx (And.intro hy htop)); clear hx hy htop
  have HXA := Lib.hid hxa; clear hxa
  have HYA := Lib.hid hya; clear hya
  obtain ⟨yt, hyt⟩ := get_of_lt HN.out.2 (show n - 1 < n by omega)
  obtain ⟨gy, offy, rfl, hgy, h0⟩ := HYA.out (n - 1) yt hyt
  have hytl := HXY.out.2.1.get hyt
  have hyt0 := HXY.out.2.2 yt hyt
  have HYT := Lib.hid hyt; clear hyt
  have q0 : (0 : Int) ≤ (n : Int) - 1 := by omega
  have q1 : (n : Int) - 1 < (n : Int) := by omega
  have q2 : ((n : Int) - 1).toNat = n - 1 := by omega
  have q3 : (0 : Int) ≤ (n : Int) := by omega
  have q4 : (n : Int) ≤ (n : Int) + 1 := by omega
  go_enter Tryd.func69, Tryd.ntmps69
  go_wp2_with fail
  refine (long_lz yt hytl hyt0 _).mono ?_
  rintro e w' ⟨⟨b, rfl, hb31, hb1, hb2⟩, rfl⟩
  have HB := Lib.hid (And.intro hb1 hb2); clear hb1 hb2
  go_wp2_with fail
  have HH : Hid (Below w.heap.size w w) := Below.refl _ _
  have KX : ∀ wz, Hid (Below w.heap.size w wz) → WAt wz wz.heap.size Ax xs := fun wz h => HXA.out.next h.out
  have KY : ∀ wz, Hid (Below w.heap.size w wz) → WAt wz wz.heap.size (some ⟨gy, offy, none⟩) ys := fun wz h => HYA.out.next h.out
  have KX := Lib.hid KX
  have KY := Lib.hid KY
  go_cut [8, 9] (fun s8 s9 wc => ∃ (gu gv : Nat) (U V : List Nat), s8 = .slice (some ⟨gu, 0, none⟩) (n + p + 1 : Nat) (n + p + 1) ∧ s9 = .slice (some ⟨gv, 0, none⟩) n (n + 1) ∧ Hid (gu ≠ gv ∧ w.heap.size ≤ gu ∧ w.heap.size ≤ gv) ∧ Hid (Blk wc gu 92 (wcells U)) ∧ Hid (Blk wc gv 92 (wcells V)) ∧ Hid (Below w.heap.size w wc) ∧ Hid (U.length = n + p + 1 ∧ Wok U ∧ wval U = wval xs * 2 ^ b ∧ V.length = n + 1 ∧ Wok V ∧ wval V = wval ys * 2 ^ b))
  case first => as_aux_lemma =>
    go_region_held3 (fun w' => Hid (Below w.heap.size w w'))
      (first | assumption | exact SD.drew (by assumption))
      (first
        | (go_at_call_of 83 (Value.slice Ax (n + p) cx); refine (left_any xs Ax (n + p) cx b _ HN.out.1 (by omega) hb31 HXY.out.1 (KX.out _ (by first | assumption | exact SD.drew (by assumption)))).mono ?_; rintro e w3 ⟨gu, U, rfl, hgu, hbu, hb3, hu1, hu2, hu3⟩; have hS3 := SD.next (by first | assumption | exact SD.drew (by assumption)) hb3; have HU := Lib.hid (And.intro hgu (And.intro hbu (And.intro hb3 (And.intro hu1 (And.intro hu2 hu3))))); clear hgu hbu hb3 hu1 hu2 hu3)
        | (go_at_call_of 83 (Value.slice (some ⟨gy, offy, none⟩) n cy); refine (left_any ys (some ⟨gy, offy, none⟩) n cy b _ HN.out.2 (by omega) hb31 HXY.out.2.1 (KY.out _ (by first | assumption | exact SD.drew (by assumption)))).mono ?_; rintro e w4 ⟨gv, V, rfl, hgv, hbv, hb4, hv1, hv2, hv3⟩; have hS4 := SD.next (by first | assumption | exact SD.drew (by assumption)) hb4; have HV := Lib.hid (And.intro hgv (And.intro hbv (And.intro hb4 (And.intro hv1 (And.intro hv2 hv3))))); clear hgv hbv hb4 hv1 hv2 hv3)
        | fail)
    go_wp2_with fail
    go_meet
    refine ⟨gu, gv, U, V, rfl, rfl, ⟨?_, ?_, ?_⟩, ?_, HV.out.2.1, hS4.out, HU.out.2.2.2.1, HU.out.2.2.2.2.1, HU.out.2.2.2.2.2, HV.out.2.2.2.1, HV.out.2.2.2.2.1, HV.out.2.2.2.2.2⟩
    · have h1 := HU.out.2.1.lt; have h2 := HV.out.1; omega
    · exact HU.out.1
    · have h1 := HV.out.1; have h2 := hS3.out.size; omega
    · exact HU.out.2.1.belowB HV.out.2.2.1
  case rest => as_aux_lemma =>
    obtain ⟨gu, gv, U, V, rfl, rfl, hg, hbu, hbv, hbel, huv⟩ := hcut
    clear h0 hgy KX KY HH HXA HYA
    obtain ⟨w0, rfl⟩ : ∃ w0 : World, w0 = wc := ⟨_, rfl⟩
    have hmk := make_words (p + 1) (by omega)
    have ep : ((p + 1 : Nat) : Int) = (n : Int) + (p : Int) + 1 - (n : Int) := by omega
    rw [ep] at hmk; clear ep
    go_wp2_with fail
    clear hmk
    have HV0 := Lib.hid (lg_div HXY.out.2.1 HN.out.2 h2n HYT.out hb31 HB.out.1 HB.out.2 huv.out.2.2.2.1 huv.out.2.2.2.2.1 huv.out.2.2.2.2.2)
    go_loopg [10] (p + 1) (fun kk s10 wr => ∃ (k : Nat) (U' Q : List Nat), kk = k ∧ k ≤ p + 1 ∧ ((k = 0 ∧ s10 = .int .i64 (-1)) ∨ (∃ j : Nat, k = j + 1 ∧ s10 = .int .i64 j)) ∧ Hid (Below w.heap.size w wr) ∧ Hid (Blk wr gu 92 (wcells U')) ∧ Hid (Blk wr gv 92 (wcells V)) ∧ Hid (Blk wr w0.heap.size 92 (wcells Q)) ∧ Hid (U'.length = n + p + 1 ∧ Wok U' ∧ Q.length = p + 1 ∧ Wok Q ∧ wval U' < 4294967296 ^ k * wval (V.take n) ∧ wval U = wval U' + wval (V.take n) * (4294967296 ^ k * wval (Q.drop k))))
    case atStart => as_aux_lemma =>
      have hB0 := hbel.out.alloc (o := .cells (wcells (List.replicate (p + 1) 0)) 92) hbel.out.size
      refine ⟨p + 1, U, List.replicate (p + 1) 0, rfl, Nat.le_refl _, .inr ⟨p, rfl, rfl⟩, hB0, hbu.out.alloc _, hbv.out.alloc _, Blk.new _ _ _, huv.out.1, huv.out.2.1, List.length_replicate, Wok.zeros _, ?_, ?_⟩
      · have h9 := lg_begin (X := wval xs) (p := 2 ^ b) (m := n + p) (by rw [HN.out.1]; exact wval_lt HXY.out.1) (Nat.pow_le_pow_right (n := 2) (by omega) hb31) HV0.out.2.2.2.2.2.1 (by omega) (by omega) HB.out.1
        rw [huv.out.2.2.1, HV0.out.2.2.1]
        rw [show n + p + 1 - n = p + 1 by omega] at h9
        exact h9
      · rw [List.drop_of_length_le (by rw [List.length_replicate]; exact Nat.le_refl _)]
        show _ = _ + _ * (_ * 0)
        rw [Nat.mul_zero, Nat.mul_zero, Nat.add_zero]
    case round => as_aux_lemma =>
      obtain ⟨k, U', Q, hgk, hkp, hkj, hbe, hb1, hb2, hb3, hst⟩ := hrel
      have HGK := Lib.hid hgk; clear hgk
      rcases hkj with ⟨hk0, rfl⟩ | ⟨j, hkj, rfl⟩
      · as_aux_lemma =>
        obtain rfl : k = 0 := hk0
        have hR := lg_end (X := wval xs) (Y := wval ys) (p := 2 ^ b) (R := wval U') (Q := wval Q) (Nat.pow_pos (by omega)) (Nat.pos_of_ne_zero (fun h0 => by have := HV0.out.2.2.2.1; rw [HV0.out.2.2.1, h0, Nat.zero_mul] at this; omega)) (by have := hst.out.2.2.2.2.1; rw [HV0.out.2.2.1, Nat.pow_zero, Nat.one_mul] at this; exact this) (by have := hst.out.2.2.2.2.2; rw [huv.out.2.2.1, HV0.out.2.2.1, Nat.pow_zero, Nat.one_mul, List.drop_zero] at this; exact this)
        have HR := Lib.hid hR; clear hR
        have hlt0 : wval U' < 4294967296 ^ n := by
          have h1 := hst.out.2.2.2.2.1; have h2 := HV0.out.2.2.2.2.1
          rw [Nat.pow_zero, Nat.one_mul] at h1; omega
        have HL0 := Lib.hid hlt0; clear hlt0
        go_wp2_with fail
        go_loopg [146] n (fun kk s146 wx => ∃ (i : Nat) (Z : List Nat), kk = n - i ∧ i ≤ n ∧ s146 = .int .i64 i ∧ Hid (Below w.heap.size w wx) ∧ Hid (Blk wx gu 92 (wcells Z)) ∧ Hid (Blk wx w0.heap.size 92 (wcells Q)) ∧ Hid (Z.length = n + p + 1 ∧ Wok Z ∧ Z.drop i = U'.drop i ∧ ∀ x, U'[i]? = some x → 2 ^ b * wval (Z.take i) + U'.getD 0 0 % 2 ^ b = wval (U'.take i) + 4294967296 ^ i * (x % 2 ^ b)))
        case atStart => as_aux_lemma =>
          refine ⟨0, U', rfl, Nat.zero_le _, rfl, hbe.out, hb1.out, hb3.out, hst.out.1, hst.out.2.1, rfl, fun x hx => ?_⟩
          rw [List.getD_eq_getElem?_getD, hx, List.take_zero, Nat.pow_zero]
          show 2 ^ b * 0 + x % 2 ^ b = 0 + _
          omega
        case round => as_aux_lemma =>
          obtain ⟨i, Z, hgk3, hin, rfl, hz1, hz2, hz3, hz4⟩ := hrel
          have HGK3 := Lib.hid hgk3; clear hgk3
          have hgq : w0.heap.size ≠ gu := by have := hbu.out.lt; omega
          by_cases hlt : i < n
          · obtain ⟨x, hx⟩ := get_of_lt hz4.out.1.symm (show i < n + p + 1 by omega)
            obtain ⟨y, hy⟩ := get_of_lt hz4.out.1.symm (show i + 1 < n + p + 1 by omega)
            have hux := lg_drop_get hz4.out.2.2.1 hx (Nat.le_refl _)
            have huy := lg_drop_get hz4.out.2.2.1 hy (Nat.le_succ _)
            have c1 := (hz2.out.cell i).trans (wcells_get hx)
            have c2 := (hz2.out.cell (i + 1)).trans (wcells_get hy)
            have f1 := hz2.out.frozen i
            have hxl := hz4.out.2.1.get hx
            have hyl := hz4.out.2.1.get hy
            have HX := Lib.hid (And.intro (And.intro hx hy) (And.intro hux huy)); clear hx hy hux huy
            have hxb : x / 2 ^ b ≤ x := Nat.div_le_self _ _
            obtain ⟨X, hX⟩ : ∃ X, X = x / 2 ^ b := ⟨_, rfl⟩
            have eX : (x : Int) / 2 ^ b = (X : Int) := by rw [hX]; push_cast; rfl
            have hXl : X < 4294967296 := by omega
            have HXX := Lib.hid hX; clear hX hxb
            by_cases hi1 : i + 1 < n
            · as_aux_lemma =>
              have s1 : (0 : Int) ≤ 32 - (b : Int) := by omega
              have s2 : (32 - (b : Int)).toNat = 32 - b := by omega
              go_wp2_with fail
              obtain ⟨wy, hwy⟩ : ∃ wy, wy = wr.setCell ⟨gu, i, none⟩ (.int .u32 X) := ⟨_, rfl⟩
              rw [← hwy]
              have k0 : Blk wy gu 92 (wcells (Z.set i X)) := by rw [hwy, ← wcells_set]; exact hz2.out.set_ i _
              have k1 : wy.cell? ⟨gu, i, none⟩ = some (.int .u32 X) := (k0.cell i).trans (wcells_get (List.getElem?_set_self (by have := hz4.out.1; omega)))
              have k2 : wy.cell? ⟨gu, i + 1, none⟩ = some (.int .u32 y) := (k0.cell (i + 1)).trans (wcells_get (by rw [List.getElem?_set_ne (by omega)]; exact HX.out.1.2))
              have k3 : wy.frozen? ⟨gu, i, none⟩ = false := k0.frozen i
              have k4 : Below w.heap.size w wy := by rw [hwy]; exact hz1.out.setCell hg.out.2.1 _
              have k5 : Blk wy w0.heap.size 92 (wcells Q) := by rw [hwy]; exact hz3.out.far hgq _
              have K := Lib.hid (And.intro k0 (And.intro k4 k5)); clear k0 k4 k5 hwy c1 c2 f1
              obtain ⟨D, hD⟩ : ∃ D, D = x / 2 ^ b + y * 2 ^ (32 - b) % 4294967296 := ⟨_, rfl⟩
              have eB : bits .or .u32 (X : Int) (IntKind.u64.wrap ((y : Int) * 2 ^ (32 - b)) % 4294967296) = (D : Int) := by rw [lg_wrap hyl, HXX.out, lg_or hb31 hxl, hD]
              have HDD := Lib.hid (And.intro hD eB); clear hD eB
              go_region
              rw [HDD.out.2]
              go_wp2_with fail
              go_roundg (n - (i + 1))
              case measure => rw [HGK3.out]; omega
              case rel => as_aux_lemma =>
                refine ⟨i + 1, Z.set i D, rfl, by omega, by go_num, (K.out.2.1.setCell hg.out.2.1 _).drew, ?_, (K.out.2.2.far hgq _).drew, by rw [List.length_set]; exact hz4.out.1, hz4.out.2.1.set _ (by rw [HDD.out.1]; exact lg_or_lt hb31 hxl), ?_, fun y' hy' => ?_⟩
                · have h1 := (K.out.1.set_ i (.int .u32 (D : Int))).drew
                  rw [wcells_set, List.set_set] at h1
                  exact h1
                · rw [List.drop_set_of_lt (by omega)]
                  have := congrArg (List.drop 1) hz4.out.2.2.1
                  rwa [List.drop_drop, List.drop_drop] at this
                · obtain rfl : y = y' := Option.some.inj (HX.out.2.2.symm.trans hy')
                  rw [HDD.out.1]
                  exact lg_back hb31 hz4.out.1 (by omega) HX.out.2.1 (hz4.out.2.2.2 x HX.out.2.1)
            · as_aux_lemma =>
              go_wp2_with fail
              go_roundg (n - (i + 1))
              case measure => rw [HGK3.out]; omega
              case rel => as_aux_lemma =>
                have hy0 : y = 0 := lg_high HL0.out (show n ≤ i + 1 by omega) HX.out.2.2
                have e0 : x / 2 ^ b + y * 2 ^ (32 - b) % 4294967296 = X := by rw [hy0, Nat.zero_mul, HXX.out]; rfl
                refine ⟨i + 1, Z.set i X, rfl, by omega, by go_num, hz1.out.setCell hg.out.2.1 _, ?_, hz3.out.far hgq _, by rw [List.length_set]; exact hz4.out.1, hz4.out.2.1.set _ hXl, ?_, fun y' hy' => ?_⟩
                · have h1 := hz2.out.set_ i (.int .u32 (X : Int))
                  rw [wcells_set] at h1
                  exact h1
                · rw [List.drop_set_of_lt (by omega)]
                  have := congrArg (List.drop 1) hz4.out.2.2.1
                  rwa [List.drop_drop, List.drop_drop] at this
                · obtain rfl : y = y' := Option.some.inj (HX.out.2.2.symm.trans hy')
                  have := lg_back (y := y) hb31 hz4.out.1 (by omega) HX.out.2.1 (hz4.out.2.2.2 x HX.out.2.1)
                  rwa [e0] at this
          · as_aux_lemma =>
            obtain rfl : i = n := by omega
            obtain ⟨x, hx⟩ := get_of_lt hst.out.1.symm (show i < i + p + 1 by omega)
            have hx0 : x = 0 := lg_high HL0.out (Nat.le_refl _) hx
            have h1 := hz4.out.2.2.2 x hx
            rw [hx0, Nat.zero_mod, Nat.mul_zero, Nat.add_zero, lg_low HL0.out (by have := hst.out.1; omega)] at h1
            have h2 := lg_shift_end (Nat.pow_pos (by omega)) (Nat.mod_lt _ (Nat.pow_pos (by omega))) h1 HR.out.2
            have H2 := Lib.hid h2; clear h2 h1 hx0 hx
            go_wp2_with fail
            go_ret2
            refine ⟨w0.heap.size, gu, Q, Z.take i, p + 1, i + p + 1, ?_, hz1.out, fun a x hx => hz3.out.wAt a x hx, fun a x hx => hz2.out.wAt a x (lg_take_get hx), hst.out.2.2.2.1, hz4.out.2.1.take _, by rw [hst.out.2.2.1]; omega, by rw [List.length_take]; omega, HR.out.1, H2.out⟩
            rw [hst.out.2.2.1, List.length_take, hz4.out.1, Nat.min_eq_left (by omega)]
            rfl
      · as_aux_lemma =>
        obtain rfl : k = j + 1 := hkj
        have hjp : j ≤ p := by omega
        obtain ⟨a, ha⟩ := get_of_lt hst.out.1.symm (show j + n < n + p + 1 by omega)
        obtain ⟨b1, hb1'⟩ := get_of_lt hst.out.1.symm (show j + n - 1 < n + p + 1 by omega)
        obtain ⟨b2, hb2'⟩ := get_of_lt hst.out.1.symm (show j + n - 2 < n + p + 1 by omega)
        have ca := (hb1.out.cell (j + n)).trans (wcells_get ha)
        have cb := (hb1.out.cell (j + n - 1)).trans (wcells_get hb1')
        have cc := (hb1.out.cell (j + n - 2)).trans (wcells_get hb2')
        have la := hst.out.2.1.get ha
        have lb := hst.out.2.1.get hb1'
        have lc := hst.out.2.1.get hb2'
        have HU1 := Lib.hid (And.intro ha (And.intro hb1' hb2')); clear ha hb1' hb2'
        have r1 : (j : Int) + n < (n : Int) + p + 1 := by omega
        have r2 : (0 : Int) ≤ (j : Int) + n - 1 := by omega
        have r3 : (j : Int) + n - 1 < (n : Int) + p + 1 := by omega
        have r4 : ((j : Int) + n - 1).toNat = j + n - 1 := by omega
        have r5 : (0 : Int) ≤ (j : Int) + n - 2 := by omega
        have r6 : (j : Int) + n - 2 < (n : Int) + p + 1 := by omega
        have r7 : ((j : Int) + n - 2).toNat = j + n - 2 := by omega
        obtain ⟨v1, hv1⟩ := get_of_lt HV0.out.1.symm (show n - 1 < n by omega)
        obtain ⟨v2, hv2⟩ := get_of_lt HV0.out.1.symm (show n - 2 < n by omega)
        have lv1 := HV0.out.2.1.get hv1
        have lv2 := HV0.out.2.1.get hv2
        have lv3 := HV0.out.2.2.2.2.2.2 v1 hv1
        have d1 := (hb2.out.cell (n - 1)).trans (wcells_get (lg_take_get hv1))
        have d2 := (hb2.out.cell (n - 2)).trans (wcells_get (lg_take_get hv2))
        have HE := Lib.hid (lg_est' hst.out.2.1 HV0.out.2.1 HV0.out.1 (show U'.length = n + p + 1 from hst.out.1) h2n hjp hv1 hv2 HU1.out.1 HU1.out.2.1 HU1.out.2.2 lv3 HV0.out.2.2.2.2.1 hst.out.2.2.2.2.1)
        have HV1 := Lib.hid (And.intro hv1 hv2); clear hv1 hv2
        obtain ⟨T, hT⟩ : ∃ T, T = a * 4294967296 + b1 := ⟨_, rfl⟩
        rw [← hT] at HE
        have hTl : T < 18446744073709551616 := by omega
        have eT : bits .or .u64 ((a : Int) * 4294967296) (b1 : Int) = ((T : Nat) : Int) := by rw [hT]; exact or32 la lb
        have HT := Lib.hid hT; clear hT
        have r8 : (0 : Int) ≤ (n : Int) - 2 := by omega
        have r9 : (n : Int) - 2 < (n : Int) := by omega
        have r10 : ((n : Int) - 2).toNat = n - 2 := by omega
        go_wp2_with fail
        go_cut [11] (fun s11 wx => ∃ nq : Nat, s11 = .int .u64 (T : Nat) ∧ wr.drewN nq = wx)
        case first => as_aux_lemma =>
          go_quiet (fail)
          go_wp2_with fail
          go_meet
          exact ⟨_, rfl, rfl⟩
        case rest => as_aux_lemma =>
          obtain ⟨nq, rfl, rfl⟩ := hcut
          clear eT
          have hv10 : v1 ≠ 0 := by omega
          have hv11 : (1 : Int) ≤ (v1 : Int) := by omega
          go_wp2_with fail
          go_cut [12, 13] (fun s12 s13 wx => ∃ nr : Nat, s12 = .int .u64 ((T / v1 : Nat) : Int) ∧ s13 = .int .u64 ((T % v1 : Nat) : Int) ∧ wr.drewN nr = wx)
          case first => as_aux_lemma =>
            go_quiet (fail)
            go_wp2_with fail
            go_meet
            refine ⟨_, ?_, ?_, (World.drewN_drewN _ _ _).symm⟩
            · have : IntKind.u64.wrap ((T : Int) / (v1 : Int)) = ((T / v1 : Nat) : Int) := by rw [← Int.natCast_ediv]; exact u64_wrap_nat (Nat.lt_of_le_of_lt (Nat.div_le_self _ _) hTl)
              rw [this]
            · rw [Int.natCast_emod]
          case rest => as_aux_lemma =>
            obtain ⟨nr, rfl, rfl, rfl⟩ := hcut
            obtain ⟨d0, hd0⟩ : ∃ d0, d0 = T / v1 := ⟨_, rfl⟩
            obtain ⟨t0, ht0⟩ : ∃ t0, t0 = T % v1 := ⟨_, rfl⟩
            rw [← hd0, ← ht0]
            have HD := Lib.hid (And.intro (hd0 ▸ HE.out.first) (And.intro (hd0 ▸ HE.out.d_le) (And.intro (show d0 * v1 + t0 = T by rw [hd0, ht0, Nat.mul_comm]; exact Nat.div_add_mod T v1) (show t0 < v1 by rw [ht0]; exact Nat.mod_lt _ (by omega)))))
            clear hd0 ht0
            go_upto_block 2 with (fail)
            go_cut [12, 13] (fun s12 s13 wx => ∃ nr d : Nat, s12 = .int .u64 (d : Nat) ∧ d < 4294967296 ∧ Hid (wval ((U'.drop j).take (n + 1)) / wval (V.take n) ≤ d ∧ d * wval (V.take n) < wval ((U'.drop j).take (n + 1)) + wval (V.take n)) ∧ wr.drewN nr = wx)
            case first => as_aux_lemma =>
              go_wp2_with fail
              go_loopg [12, 13] (d0 + 1) (fun kk s12 s13 wx => ∃ nr d t : Nat, kk = d + 1 ∧ s12 = .int .u64 (d : Nat) ∧ s13 = .int .u64 (t : Nat) ∧ d ≤ 8589934594 ∧ t < 4294967296 ∧ Hid (wval ((U'.drop j).take (n + 1)) / wval (V.take n) ≤ d ∧ d * v1 + t = T) ∧ wr.drewN nr = wx)
              case atStart => exact ⟨nr, d0, t0, rfl, rfl, rfl, by have := HD.out.2.1; omega, by have := HD.out.2.2.2; omega, ⟨HD.out.1, HD.out.2.2.1⟩, rfl⟩
              case round => as_aux_lemma =>
                obtain ⟨nr, d, t, hgk2, rfl, rfl, hdl, htl, hdt, rfl⟩ := hrel
                have HGK2 := Lib.hid hgk2; clear hgk2
                have fin : ∀ (b : Bool) (wz : World) (u12 u13 : Value), u12 = .int .u64 ((d : Int) - 1) → u13 = .int .u64 ((t : Int) + v1) → 1 ≤ d → (4294967296 ≤ d ∨ t * 4294967296 + b2 < d * v2) → True := fun _ _ _ _ _ _ _ _ => trivial
                clear fin
                have em1 : 1 ≤ d → ((d : Int) - 1) = ((d - 1 : Nat) : Int) := fun h => by omega
                have em2 : ((t : Int) + (v1 : Int)) = ((t + v1 : Nat) : Int) := by omega
                have HM1 := Lib.hid (And.intro em1 em2); clear em1 em2
                by_cases hdg : d < 4294967296
                · have hm2 : d * v2 ≤ 4294967295 * 4294967295 := Nat.mul_le_mul (by omega) (by omega)
                  obtain ⟨M, hM⟩ : ∃ M, M = d * v2 := ⟨_, rfl⟩
                  obtain ⟨L, hL⟩ : ∃ L, L = t * 4294967296 + b2 := ⟨_, rfl⟩
                  rw [← hM] at hm2
                  have hLl : L < 18446744073709551616 := by omega
                  have eL : bits .or .u64 ((t : Int) * 4294967296) (b2 : Int) = ((L : Nat) : Int) := by rw [hL]; exact or32 htl lc
                  have eM : (d : Int) * (v2 : Int) = ((M : Nat) : Int) := by rw [hM, Int.natCast_mul]
                  have HLM := Lib.hid (And.intro hM hL); clear hM hL
                  have gd : decide ((0 : Int) < (d : Int) / 4294967296) = false := by rw [decide_eq_false_iff_not]; omega
                  have hm3 : (d : Int) * (v2 : Int) ≤ 18446744065119617025 := by rw [eM]; omega
                  have hm4 : (0 : Int) ≤ (d : Int) * (v2 : Int) := by rw [eM]; omega
                  by_cases hlm : L < M
                  · as_aux_lemma =>
                    have gl : decide (L < M) = true := by simpa using hlm
                    have hd1 : 1 ≤ d := lg_pos HLM.out.1 hlm
                    by_cases htv : t + v1 < 4294967296
                    · as_aux_lemma =>
                      have gt : decide ((0 : Int) < ((t : Int) + (v1 : Int)) / 4294967296) = false := by rw [decide_eq_false_iff_not]; omega
                      go_wp2_with fail
                      go_quiet (fail)
                      go_wp2_with fail
                      go_roundg (d - 1 + 1)
                      case measure => rw [HGK2.out]; omega
                      case rel => exact ⟨_, d - 1, t + v1, rfl, by rw [HM1.out.1 hd1], by rw [HM1.out.2], by omega, by omega, ⟨HE.out.refuse hdt.out.1 hdt.out.2 (.inr (by rw [← HLM.out.1, ← HLM.out.2]; exact hlm)), lg_dec hd1 hdt.out.2⟩, (by first | rfl | exact (World.drewN_drewN _ _ _).symm)⟩
                    · as_aux_lemma =>
                      have gt : decide ((0 : Int) < ((t : Int) + (v1 : Int)) / 4294967296) = true := by rw [decide_eq_true_iff]; omega
                      go_wp2_with fail
                      go_quiet (fail)
                      go_wp2_with fail
                      go_meet
                      have hq := HE.out.refuse hdt.out.1 hdt.out.2 (.inr (by rw [← HLM.out.1, ← HLM.out.2]; exact hlm))
                      have hr := lg_dec hd1 hdt.out.2
                      exact ⟨_, d - 1, by rw [HM1.out.1 hd1], HE.out.brk hr (by omega), ⟨hq, HE.out.pass (HE.out.brk hr (by omega)) hr (HE.out.brk_pass hr (by omega))⟩, (by first | rfl | exact (World.drewN_drewN _ _ _).symm)⟩
                  · as_aux_lemma =>
                    have gl : decide (L < M) = false := by simpa using hlm
                    go_wp2_with fail
                    go_quiet (fail)
                    go_wp2_with fail
                    go_meet
                    exact ⟨_, d, rfl, hdg, ⟨hdt.out.1, HE.out.pass hdg hdt.out.2 (by rw [← HLM.out.1, ← HLM.out.2]; omega)⟩, (by first | rfl | exact (World.drewN_drewN _ _ _).symm)⟩
                · as_aux_lemma =>
                  have gd : decide ((0 : Int) < (d : Int) / 4294967296) = true := by rw [decide_eq_true_iff]; omega
                  have hd1 : 1 ≤ d := by omega
                  by_cases htv : t + v1 < 4294967296
                  · as_aux_lemma =>
                    have gt : decide ((0 : Int) < ((t : Int) + (v1 : Int)) / 4294967296) = false := by rw [decide_eq_false_iff_not]; omega
                    go_wp2_with fail
                    go_quiet (fail)
                    go_wp2_with fail
                    go_roundg (d - 1 + 1)
                    case measure => rw [HGK2.out]; omega
                    case rel => exact ⟨_, d - 1, t + v1, rfl, by rw [HM1.out.1 hd1], by rw [HM1.out.2], by omega, by omega, ⟨HE.out.refuse hdt.out.1 hdt.out.2 (.inl (by omega)), lg_dec hd1 hdt.out.2⟩, (by first | rfl | exact (World.drewN_drewN _ _ _).symm)⟩
                  · as_aux_lemma =>
                    have gt : decide ((0 : Int) < ((t : Int) + (v1 : Int)) / 4294967296) = true := by rw [decide_eq_true_iff]; omega
                    go_wp2_with fail
                    go_quiet (fail)
                    go_wp2_with fail
                    go_meet
                    have hq := HE.out.refuse hdt.out.1 hdt.out.2 (.inl (by omega))
                    have hr := lg_dec hd1 hdt.out.2
                    exact ⟨_, d - 1, by rw [HM1.out.1 hd1], HE.out.brk hr (by omega), ⟨hq, HE.out.pass (HE.out.brk hr (by omega)) hr (HE.out.brk_pass hr (by omega))⟩, (by first | rfl | exact (World.drewN_drewN _ _ _).symm)⟩
            case rest => as_aux_lemma =>
              obtain ⟨nr, d, rfl, hdl, hdq, rfl⟩ := hcut
              go_wp2_with fail
              rw [show j + n + 1 - j = n + 1 by omega]
              have hbw : Blk (wr.drewN nr) gu 92 (wcells (U'.take j ++ (U'.drop j).take (n + 1) ++ U'.drop (j + n + 1))) := by rw [← lg_split]; exact hb1.out
              have hwat : WAt (wr.drewN nr) (wr.drewN nr).heap.size (some ⟨gv, 0, none⟩) (V.take n) := fun i x hx => (hb2.out.drewN nr).wAt i x (lg_take_get hx)
              have hpl : (U'.take j).length = j := by rw [List.length_take]; have := hst.out.1; omega
              have hwl : ((U'.drop j).take (n + 1)).length = n + 1 := by rw [List.length_take, List.length_drop]; have := hst.out.1; omega
              have hgq : some w0.heap.size ≠ some gu := by intro e; have := hbu.out.lt; cases e; omega
              have hgv : some gv ≠ some gu := by intro e; cases e; exact hg.out.1 rfl
              refine (takeAway_any (U'.take j) ((U'.drop j).take (n + 1)) (U'.drop (j + n + 1)) (V.take n) gu n j _ _ d _ _ hpl.symm HV0.out.1.symm hwl (by omega) hdl ((hst.out.2.1.drop _).take _) HV0.out.2.1 hbw hwat (fun b' off h => by cases h; exact fun e => hg.out.1 e.symm)).mono ?_
              rintro e w1 ⟨neg, zs, rfl, hgr, hbz, hzl, hzk, hzv⟩
              have hG1 : Below w.heap.size w w1 := (hbe.out.trans (below_drewN (Below.refl _ _) nr)).trans (below_of_grown hgr (Nat.le_trans hbe.out.size (Nat.le_refl _)) (fun k hk => by cases hk; exact hg.out.2.1))
              have hQ1 : Blk w1 w0.heap.size 92 (wcells Q) := Blk.grown (hb3.out.drewN nr) hgr hgq
              have hV1 : Blk w1 gv 92 (wcells V) := Blk.grown (hb2.out.drewN nr) hgr hgv
              have HZ := Lib.hid (And.intro hgr (And.intro hbz (And.intro hzl (And.intro hzk hzv)))); clear hgr hbz hzl hzk hzv hbw hwat
              have HG1 := Lib.hid (And.intro hG1 (And.intro hQ1 hV1)); clear hG1 hQ1 hV1
              have HPL := Lib.hid (And.intro hpl (And.intro hwl (And.intro hgq hgv))); clear hpl hwl hgq hgv
              obtain ⟨qo, hqo⟩ := get_of_lt hst.out.2.2.1.symm (show j < p + 1 by omega)
              have hgq' : gu ≠ w0.heap.size := by intro e; have := hbu.out.lt; omega
              have hgv' : gv ≠ w0.heap.size := by intro e; have := hbv.out.lt; omega
              have hwq : w.heap.size ≤ w0.heap.size := hbel.out.size
              cases neg
              · as_aux_lemma =>
                have hf := lg_fit0 HV0.out.2.2.2.1 hdq.out.1 hdq.out.2 HZ.out.2.2.2.2
                have HF := Lib.hid hf; clear hf
                have cq := (HG1.out.2.1.cell j).trans (wcells_get hqo)
                have fq := HG1.out.2.1.frozen j
                have HQO := Lib.hid hqo; clear hqo
                go_wp2_with fail
                go_roundg j
                case measure => rw [HGK.out]; omega
                case rel => as_aux_lemma =>
                  obtain ⟨z1, z2, z3, z4, z5, z6⟩ := lg_round hst.out hjp HV0.out.2.2.2.2.1 HV0.out.2.2.2.1 HZ.out.2.2.1 HZ.out.2.2.2.1 HF.out.1 HF.out.2 hdl
                  exact ⟨j, _, Q.set j d, rfl, by omega, lg_ctr j, HG1.out.1.setCell hwq _, HZ.out.2.1.far hgq' _, HG1.out.2.2.far hgv' _, by rw [← wcells_set]; exact HG1.out.2.1.set_ j _, z1, z2, z3, z4, z5, z6⟩
              · as_aux_lemma =>
                go_wp2_with fail
                rw [show j + n + 1 - j = n + 1 by omega]
                refine (putBack_any (U'.take j) zs (U'.drop (j + n + 1)) (V.take n) gu n j _ _ _ _ HPL.out.1.symm HV0.out.1.symm HZ.out.2.2.1 (by omega) HZ.out.2.2.2.1 HV0.out.2.1 HZ.out.2.1 (fun i x hx => HG1.out.2.2.wAt i x (lg_take_get hx)) (fun b' off h => by cases h; exact fun e => hg.out.1 e.symm)).mono ?_
                rintro e w2 ⟨rfl, cc, ys', hgr, hbz, hzl, hzk, hzv⟩
                have hG2 : Below w.heap.size w w2 := HG1.out.1.trans (below_of_grown hgr HG1.out.1.size (fun k hk => by cases hk; exact hg.out.2.1))
                have hQ2 : Blk w2 w0.heap.size 92 (wcells Q) := Blk.grown HG1.out.2.1 hgr HPL.out.2.2.1
                have hV2 : Blk w2 gv 92 (wcells V) := Blk.grown HG1.out.2.2 hgr HPL.out.2.2.2
                have hf := lg_over1 HV0.out.2.2.2.1 hdq.out.1 hdq.out.2 HZ.out.2.2.2.2 (lg_len HZ.out.2.2.2.1 HZ.out.2.2.1) hzv (lg_len hzk hzl) (lg_lt_next HV0.out.2.2.2.2.1)
                have hd1 := hf.1
                have HF := Lib.hid hf.2; clear hf
                have HZ2 := Lib.hid (And.intro hbz (And.intro hzl hzk)); clear hgr hbz hzl hzk hzv
                have HG2 := Lib.hid (And.intro hG2 (And.intro hQ2 hV2)); clear hG2 hQ2 hV2
                have ed : ((d : Int) - 1) = ((d - 1 : Nat) : Int) := by omega
                have cq := (HG2.out.2.1.cell j).trans (wcells_get hqo)
                have fq := HG2.out.2.1.frozen j
                have HQO := Lib.hid hqo; clear hqo
                have HED := Lib.hid ed; clear ed
                go_wp2_with fail
                go_roundg j
                case measure => rw [HGK.out]; omega
                case rel => as_aux_lemma =>
                  obtain ⟨z1, z2, z3, z4, z5, z6⟩ := lg_round hst.out hjp HV0.out.2.2.2.2.1 HV0.out.2.2.2.1 HZ2.out.2.1 HZ2.out.2.2 HF.out.1 HF.out.2 (by omega)
                  exact ⟨j, _, Q.set j (d - 1), rfl, by omega, lg_ctr j, HG2.out.1.setCell hwq _, HZ2.out.1.far hgq' _, HG2.out.2.2.far hgv' _, by rw [← wcells_set, ← HED.out]; exact HG2.out.2.1.set_ j _, z1, z2, z3, z4, z5, z6⟩
end Go.Proofs.YtekbpiooecdopaaDoor
