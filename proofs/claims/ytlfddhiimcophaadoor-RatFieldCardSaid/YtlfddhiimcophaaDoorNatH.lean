/- Walks of package nat: Mul. -/
import Derived.Test.YtlfddhiimcophaaDoorNatG
namespace Go.Proofs.YtlfddhiimcophaaDoor
open Go.RowKit
set_option linter.unusedVariables false
set_option linter.unusedSimpArgs false

theorem mul_len {m n : Nat} (h : (bstr m).length + (bstr n).length ≤ 8) : m * n < 256 ^ 8 ∧ m < 256 ^ 8 ∧ n < 256 ^ 8 := by
  have h1 : m < 256 ^ (bstr m).length := bstr_length_le.1 (Nat.le_refl _)
  have h2 : n < 256 ^ (bstr n).length := bstr_length_le.1 (Nat.le_refl _)
  have h3 : 256 ^ (bstr m).length * 256 ^ (bstr n).length ≤ 256 ^ 8 := by rw [← Nat.pow_add]; exact Nat.pow_le_pow_right (by omega) h
  have h4 : m * n < 256 ^ (bstr m).length * 256 ^ (bstr n).length := Nat.mul_lt_mul'' h1 h2
  exact ⟨by omega, bstr_length_le.1 (by omega), bstr_length_le.1 (by omega)⟩
/-- one digit of a product: the carry, the two digits' product, the old digit -/
theorem mul_bd {x y c o : Nat} (hx : x < 4294967296) (hy : y < 4294967296) (hc : c < 4294967296) (ho : o < 4294967296) : x * y ≤ 18446744065119617025 ∧ (c + (x * y + o)) / 4294967296 < 4294967296 := by
  have : x * y ≤ 4294967295 * 4294967295 := Nat.mul_le_mul (by omega) (by omega)
  omega
theorem mul_step {os ys : List Nat} {V p j c x y o : Nat} (hv : wval os + 4294967296 ^ (p + j) * c = V + 4294967296 ^ p * (x * wval (ys.take j))) (hy : ys[j]? = some y) (ho : os[p + j]? = some o) :
    wval (os.set (p + j) ((c + (x * y + o)) % 4294967296)) + 4294967296 ^ (p + (j + 1)) * ((c + (x * y + o)) / 4294967296) = V + 4294967296 ^ p * (x * wval (ys.take (j + 1))) := by
  have h1 := wval_put ho ((c + (x * y + o)) % 4294967296)
  have h := Nat.mod_add_div (c + (x * y + o)) 4294967296
  rw [wval_take_succ hy]
  generalize (c + (x * y + o)) / 4294967296 = q at *
  generalize (c + (x * y + o)) % 4294967296 = r at *
  rw [← Nat.add_assoc, Nat.pow_succ]
  have h2 : 4294967296 ^ (p + j) * r + 4294967296 ^ (p + j) * 4294967296 * q = 4294967296 ^ (p + j) * (c + (x * y + o)) := by rw [← h, Nat.mul_add, Nat.mul_assoc]
  have h3 : 4294967296 ^ p * (x * (wval (ys.take j) + 4294967296 ^ j * y)) = 4294967296 ^ p * (x * wval (ys.take j)) + 4294967296 ^ (p + j) * (x * y) := by
    rw [Nat.pow_add]; grind
  rw [h3, ← Nat.add_assoc, ← hv]
  rw [Nat.mul_add, Nat.mul_add] at h2
  omega

theorem trim_to (s : ByteArray) (m : Nat) (w : World) (hv : bval (toL s) = m) (hs : s.size ≤ maxLen) :
    Calls Tryd.prog 49 #[.string s] w fun e w' => e = .returned (.string (S m)) ∧ w = w' := hv ▸ trim_val s w hs
/-- whatever zeros stand ahead of the two numbers -/
theorem mul_any (s t : ByteArray) (m n : Nat) (w : World) (hv : bval (toL s) = m ∧ bval (toL t) = n ∧ s.size ≤ maxLen ∧ t.size ≤ maxLen) (hm : (bstr m).length ≤ 35184372088832) (hn : (bstr n).length ≤ 35184372088832) :
    Calls Tryd.prog 20 #[.string s, .string t] w fun e w' => e = .returned (.string (S (m * n))) ∧ Below w.heap.size w w' := by
  have HV := Lib.hid hv; clear hv
  have hsm := S_size m
  have hsn := S_size n
  by_cases hshort : (bstr m).length + (bstr n).length ≤ 8
  · obtain ⟨h1, h2, h3⟩ := mul_len hshort
    have hs1 : (S m).size + (S n).size ≤ 8 := by rw [S_size, S_size]; exact hshort
    have HS := Lib.hid (And.intro hsm hsn); clear hsm hsn
    have i1 : (m : Int) * n ≤ 18446744073709551615 := by
      have : ((m * n : Nat) : Int) ≤ 18446744073709551615 := by omega
      rwa [Int.natCast_mul] at this
    have i0 : 0 ≤ (m : Int) * n := by have : (0 : Int) ≤ ((m * n : Nat) : Int) := by omega
                                      rwa [Int.natCast_mul] at this
    have ec : ((m * n : Nat) : Int) = (m : Int) * n := Int.natCast_mul _ _
    have HL := Lib.hid h1
    have HEC := Lib.hid ec; clear ec h1 h2 h3
    go_enter Tryd.func20, Tryd.ntmps20
    go_wp2_with fail
    refine (trim_to s m _ HV.out.1 HV.out.2.2.1).mono ?_
    rintro e w' ⟨rfl, rfl⟩
    go_wp2_with fail
    refine (trim_to t n _ HV.out.2.1 HV.out.2.2.2).mono ?_
    rintro e w' ⟨rfl, rfl⟩
    go_wp2_with fail
    refine (short_S m _ (by omega)).mono ?_
    rintro e w' ⟨rfl, rfl⟩
    go_wp2_with fail
    refine (short_S n _ (by omega)).mono ?_
    rintro e w' ⟨rfl, rfl⟩
    go_wp2_with fail
    rw [← HEC.out]
    refine (fromShort_any (m * n) _ HL.out).mono ?_
    rintro e w' ⟨rfl, hbel⟩
    go_wp2_with fail
    go_ret
    exact ⟨rfl, hbel⟩
  · have HS := Lib.hid (And.intro hsm hsn)
    have hnot : ¬ ((S m).size + (S n).size ≤ 8) := by rw [S_size, S_size]; exact hshort
    clear hshort
    rw [← hsm] at hm
    rw [← hsn] at hn
    clear hsm hsn
    go_enter Tryd.func20, Tryd.ntmps20
    go_wp2_with fail
    refine (trim_to s m _ HV.out.1 HV.out.2.2.1).mono ?_
    rintro e w' ⟨rfl, rfl⟩
    go_wp2_with fail
    refine (trim_to t n _ HV.out.2.1 HV.out.2.2.2).mono ?_
    rintro e w' ⟨rfl, rfl⟩
    go_wp2_with fail
    refine (words_any (S m) _ (by omega)).mono ?_
    rintro e w1 ⟨g1, xs, rfl, hg1, hb1, hbel1, hok1, hv1, hl1⟩
    rw [toL_S, bval_bstr, HS.out.1.symm] at hl1
    rw [toL_S, bval_bstr] at hv1
    have hnx1 : xs.length ≤ 8796093022209 := by omega
    have HX := Lib.hid (And.intro hok1 hv1); clear hok1 hv1 hl1
    go_wp2_with fail
    refine (words_any (S n) _ (by omega)).mono ?_
    rintro e w2 ⟨g2, ys, rfl, hg2, hb2, hbel2, hok2, hv2, hl2⟩
    rw [toL_S, bval_bstr, HS.out.2.symm] at hl2
    rw [toL_S, bval_bstr] at hv2
    have hny1 : ys.length ≤ 8796093022209 := by omega
    have HY := Lib.hid (And.intro hok2 hv2); clear hok2 hv2 hl2
    have HB1 := Lib.hid (hb1.belowB hbel2)
    have HBW := Lib.hid (below_next hbel1 hbel2)
    have HB2 := Lib.hid hb2
    clear hb1 hb2 hbel1 hbel2 hm hn hnot hg1 hg2
    generalize hna : xs.length = na at *
    have HNA := Lib.hid hna.symm; clear hna
    generalize hnb : ys.length = nb at *
    have HNB := Lib.hid hnb.symm; clear hnb
    have hmk := make_words (na + nb) (by omega)
    have ec : ((na + nb : Nat) : Int) = (na : Int) + nb := by omega
    rw [ec] at hmk
    go_wp2_with fail
    clear hmk
    have HB0 : Hid (Below w2.heap.size w2 (w2.alloc (.cells (wcells (List.replicate (na + nb) 0)) 61))) := (Below.refl _ _).alloc (Nat.le_refl _) _
    go_loopg [41] na (fun k i wr => ∃ (p : Nat) (os : List Nat), k = na - p ∧ p ≤ na ∧ i = .int .i64 p ∧ Hid (Below w2.heap.size w2 wr) ∧ Hid (Blk wr w2.heap.size 61 (wcells os)) ∧ os.length = na + nb ∧ Hid (Wok os ∧ wval os = wval (xs.take p) * wval ys ∧ ∀ q, p + nb ≤ q → q < na + nb → os[q]? = some 0))
    case atStart => exact ⟨0, _, rfl, Nat.zero_le _, rfl, HB0.out, Blk.new _ _ _, by simp, Wok.zeros _, by rw [wval_zeros]; simp [wval], fun q h1 h2 => by rw [List.getElem?_replicate, if_pos h2]⟩
    case round =>
      obtain ⟨p, os, hgk, hp, rfl, hbel, hblk, hol, hos⟩ := hrel
      have HGK := Lib.hid hgk; clear hgk
      by_cases hlt : p < na
      · obtain ⟨x, hx⟩ := get_of_lt HNA.out hlt
        have e1 := ((HB1.out.belowB hbel.out).cell p).trans (wcells_get hx)
        have hxlt := HX.out.1.get hx
        have HXX := Lib.hid hx; clear hx
        have HOL := Lib.hid hol; clear hol
        obtain ⟨wo, rfl⟩ : ∃ wo : World, wo = wr := ⟨_, rfl⟩
        go_wp2_with fail
        clear e1
        go_loopg [10, 48] nb (fun k co i wr => ∃ (j c : Nat) (os : List Nat), k = nb - j ∧ j ≤ nb ∧ c < 4294967296 ∧ i = .int .i64 j ∧ co = .int .u64 c ∧ Hid (Below w2.heap.size w2 wr) ∧ Hid (Blk wr w2.heap.size 61 (wcells os)) ∧ os.length = na + nb ∧ Hid (Wok os ∧ wval os + 4294967296 ^ (p + j) * c = wval (xs.take p) * wval ys + 4294967296 ^ p * (x * wval (ys.take j)) ∧ ∀ q, p + nb ≤ q → q < na + nb → os[q]? = some 0))
        case atStart => exact ⟨0, 0, os, rfl, Nat.zero_le _, by omega, rfl, rfl, hbel.out, hblk.out, HOL.out, hos.out.1, by rw [hos.out.2.1]; simp [wval], hos.out.2.2⟩
        case round =>
          obtain ⟨j, c, os', hgk2, hj, hc, rfl, rfl, hbel', hblk', hol', hos'⟩ := hrel
          have HGK2 := Lib.hid hgk2; clear hgk2
          by_cases hjl : j < nb
          · obtain ⟨y, hy⟩ := get_of_lt HNB.out hjl
            obtain ⟨o, ho⟩ := get_of_lt hol'.symm (show p + j < na + nb by omega)
            have e1 := ((HB2.out.belowB hbel'.out).cell j).trans (wcells_get hy)
            have e2 := (hblk'.out.cell (p + j)).trans (wcells_get ho)
            have e3 := hblk'.out.frozen (p + j)
            have hylt := HY.out.1.get hy
            have holt := hos'.out.1.get ho
            have hbd := mul_bd hxlt hylt hc holt
            have i1 : (x : Int) * y ≤ 18446744065119617025 := by
              have : ((x * y : Nat) : Int) ≤ 18446744065119617025 := by omega
              rwa [Int.natCast_mul] at this
            have i0 : 0 ≤ (x : Int) * y := by
              have : (0 : Int) ≤ ((x * y : Nat) : Int) := by omega
              rwa [Int.natCast_mul] at this
            have HBD := Lib.hid hbd; clear hbd
            have HYO := Lib.hid (And.intro hy ho); clear hy ho
            have HOL' := Lib.hid hol'; clear hol'
            go_wp2_with fail
            have es : (c : Int) + ((x : Int) * y + o) = ((c + (x * y + o) : Nat) : Int) := by rw [Int.natCast_add, Int.natCast_add, Int.natCast_mul]
            have q1 : ((c : Int) + ((x : Int) * y + o)) / 4294967296 = (((c + (x * y + o)) / 4294967296 : Nat) : Int) := by rw [es]; omega
            have q2 : ((c : Int) + ((x : Int) * y + o)) % 4294967296 = (((c + (x * y + o)) % 4294967296 : Nat) : Int) := by rw [es]; omega
            rw [q1, q2]
            go_roundg (nb - (j + 1))
            case measure => rw [HGK2.out]; omega
            case rel =>
              refine ⟨j + 1, _, os'.set (p + j) ((c + (x * y + o)) % 4294967296), rfl, by omega, HBD.out.2, by go_num, rfl, hbel'.out.setCell (Nat.le_refl _) _, by rw [← wcells_set]; exact hblk'.out.set_ _ _, by rw [List.length_set]; exact HOL'.out, hos'.out.1.set _ (by omega), ?_, ?_⟩
              · exact mul_step hos'.out.2.1 HYO.out.1 HYO.out.2
              · intro q h1 h2
                rw [List.getElem?_set_ne (by omega)]
                exact hos'.out.2.2 q h1 h2
          · obtain rfl : j = nb := by omega
            have ho := hos'.out.2.2 (p + j) (Nat.le_refl _) (by omega)
            have e2 := (hblk'.out.cell (p + j)).trans (wcells_get ho)
            have e3 := hblk'.out.frozen (p + j)
            have e5 : (c : Int) % 4294967296 = (c : Int) := by omega
            have HO := Lib.hid ho; clear ho
            have HOL' := Lib.hid hol'; clear hol'
            go_wp2_with fail
            go_roundg (na - (p + 1))
            case measure => rw [HGK.out]; omega
            case rel =>
              refine ⟨p + 1, os'.set (p + j) c, rfl, by omega, by go_num, hbel'.out.setCell (Nat.le_refl _) _, by rw [← wcells_set]; exact hblk'.out.set_ _ _, by rw [List.length_set]; exact HOL'.out, hos'.out.1.set _ hc, ?_, ?_⟩
              · have h1 := wval_put HO.out c
                rw [Nat.mul_zero, Nat.add_zero, hos'.out.2.1] at h1
                rw [h1, wval_take_succ HXX.out, HNB.out, List.take_length, Nat.add_mul]
                grind
              · intro q h1 h2
                rw [List.getElem?_set_ne (by omega)]
                exact hos'.out.2.2 q (by omega) h2
      · obtain rfl : p = na := by omega
        have hfin : wval os = m * n := by
          rw [hos.out.2.1, HNA.out, List.take_length, HX.out.2, HY.out.2]
        have HFIN := Lib.hid hfin; clear hfin
        have HOL := Lib.hid hol; clear hol
        go_wp2_with fail
        refine (text_any os _ _ _ _ HOL.out.symm (by omega) hos.out.1 hblk.out.wAt).mono ?_
        rw [HFIN.out]
        rintro e w4 ⟨rfl, hbel4⟩
        go_wp2_with fail
        go_ret
        exact ⟨rfl, below_next (below_next HBW.out hbel.out) hbel4⟩
theorem mul_S (m n : Nat) (w : World) (hm : (bstr m).length ≤ 35184372088832) (hn : (bstr n).length ≤ 35184372088832) :
    Calls Tryd.prog 20 #[.string (S m), .string (S n)] w fun e w' => e = .returned (.string (S (m * n))) ∧ Below w.heap.size w w' :=
  mul_any (S m) (S n) m n w ⟨by rw [toL_S, bval_bstr], by rw [toL_S, bval_bstr], by rw [S_size]; unfold maxLen; omega, by rw [S_size]; unfold maxLen; omega⟩ hm hn
end Go.Proofs.YtlfddhiimcophaaDoor
