/- Walks of package nat: fromShort. -/
import Derived.Test.YtlfddhiimcophaaDoorNatA
namespace Go.Proofs.YtlfddhiimcophaaDoor
open Go.RowKit
set_option linter.unusedVariables false
set_option linter.unusedSimpArgs false

def fsBytes (n : Nat) : List UInt8 := (List.range 8).map fun x => UInt8.ofNat (n / 256 ^ (7 - x) % 256)
theorem fsBytes_val {n : Nat} (h : n < 256 ^ 8) : bval (fsBytes n) = n := by
  have hm : ∀ m : Nat, (UInt8.ofNat (m % 256)).toNat = m % 256 := fun m => UInt8.toNat_ofNat_of_lt' (by simp [UInt8.size]; omega)
  have e : fsBytes n = [UInt8.ofNat (n / 256 ^ 7 % 256), UInt8.ofNat (n / 256 ^ 6 % 256), UInt8.ofNat (n / 256 ^ 5 % 256), UInt8.ofNat (n / 256 ^ 4 % 256), UInt8.ofNat (n / 256 ^ 3 % 256), UInt8.ofNat (n / 256 ^ 2 % 256), UInt8.ofNat (n / 256 ^ 1 % 256), UInt8.ofNat (n / 256 ^ 0 % 256)] := rfl
  rw [e]
  have hv : ∀ a b c d e f g h : UInt8, bval [a, b, c, d, e, f, g, h] = ((((((a.toNat * 256 + b.toNat) * 256 + c.toNat) * 256 + d.toNat) * 256 + e.toNat) * 256 + f.toNat) * 256 + g.toNat) * 256 + h.toNat := by
    intro a b c d e f g h
    show (((((((0 * 256 + a.toNat) * 256 + b.toNat) * 256 + c.toNat) * 256 + d.toNat) * 256 + e.toNat) * 256 + f.toNat) * 256 + g.toNat) * 256 + h.toNat = _
    rw [Nat.zero_mul, Nat.zero_add]
  rw [hv, hm, hm, hm, hm, hm, hm, hm, hm]
  have hd : ∀ k, n / 256 ^ (k + 1) * 256 + n / 256 ^ k % 256 = n / 256 ^ k := fun k => by
    rw [Nat.pow_succ, ← Nat.div_div_eq_div_mul]; omega
  have h7 : n / 256 ^ 7 % 256 = n / 256 ^ 7 := Nat.mod_eq_of_lt (Nat.div_lt_of_lt_mul h)
  rw [h7, hd 6, hd 5, hd 4, hd 3, hd 2, hd 1, hd 0]
  exact Nat.div_one n
theorem shr_byte (n j : Nat) (h : j < 8) : ((n : Int) / 2 ^ (56 - 8 * j) % 256) = ((n / 256 ^ (7 - j) % 256 : Nat) : Int) := by
  have e : 256 ^ (7 - j) = 2 ^ (56 - 8 * j) := by rw [show 56 - 8 * j = 8 * (7 - j) by omega, Nat.pow_mul]
  rw [e, Int.natCast_emod, Int.natCast_ediv, Int.natCast_pow]; rfl

theorem fromShort_any (n : Nat) (w : World) (hn : n < 256 ^ 8) :
    Calls Tryd.prog 52 #[.int .u64 n] w fun e w' => e = .returned (.string (S n)) ∧ Below w.heap.size w w' := by
  have HN := Lib.hid hn; clear hn
  go_enter Tryd.func52, Tryd.ntmps52
  go_wp2_with fail
  go_loopg [5] 8 (fun k i wr => ∃ (j : Nat) (cs : Array Value), k = 8 - j ∧ j ≤ 8 ∧ i = .int .i64 j ∧ cs.size = 8 ∧ Hid (∀ x < 8, cs[x]? = some (.int .u8 ((if x < j then n / 256 ^ (7 - x) % 256 else 0 : Nat) : Int))) ∧ Hid (Below w.heap.size w wr) ∧ Hid (Blk wr w.heap.size 87 cs))
  case atStart =>
    refine ⟨0, _, rfl, by omega, rfl, rfl, fun x hx => ?_, (Below.refl _ _).alloc (Nat.le_refl _) _, Blk.new _ _ _⟩
    match x, hx with
    | 0, _ => rfl
    | 1, _ => rfl
    | 2, _ => rfl
    | 3, _ => rfl
    | 4, _ => rfl
    | 5, _ => rfl
    | 6, _ => rfl
    | 7, _ => rfl
  case round =>
    obtain ⟨j, cs, hgk, hj, rfl, hcs, hcx, hbel, hblk⟩ := hrel
    have HGK := Lib.hid hgk; clear hgk
    by_cases hlt : j < 8
    · have e1 := (hblk.out.cell j).trans (hcx.out j hlt)
      have e2 := hblk.out.frozen j
      rw [if_neg (by omega)] at e1
      have HCS := Lib.hid hcs; clear hcs
      go_wp2_with fail
      go_roundg (8 - (j + 1))
      case measure => rw [HGK.out]; omega
      case rel =>
        rw [shr_byte n j hlt]
        refine ⟨j + 1, _, rfl, by omega, by go_num, ?_, fun x hx => ?_, hbel.out.setCell (Nat.le_refl _) _, hblk.out.set_ j _⟩
        · rw [Array.size_setIfInBounds]; exact HCS.out
        · rw [Array.getElem?_setIfInBounds]
          by_cases hxj : j = x
          · subst hxj
            rw [if_pos rfl, if_pos (by rw [HCS.out]; exact hlt), if_pos (by omega)]
          · rw [if_neg hxj, hcx.out x hx]
            congr 2
            by_cases h1 : x < j
            · rw [if_pos h1, if_pos (by omega)]
            · rw [if_neg h1, if_neg (by omega)]
    · obtain rfl : j = 8 := by omega
      clear hlt hj
      have hcv := run_convert_bytes_back (P := Tryd.prog) wr 58 9 5 ⟨w.heap.size, 0, none⟩ 8 (fsBytes n) Tryd.underlying58 Tryd.underlying5 Tryd.underlying9 (fun j hj => by
        have hj8 : j < 8 := by simpa [fsBytes] using hj
        rw [Addr.add_lit, Nat.zero_add, hblk.out.cell, hcx.out j hj8, if_pos hj8]
        simp only [fsBytes, List.getElem_map, List.getElem_range]
        rw [UInt8.toNat_ofNat_of_lt' (by simp [UInt8.size]; omega)])
      have hlen : (fsBytes n).length = 8 := rfl
      rw [hlen] at hcv
      have hst : bstr (bval (fsBytes n)) = bstr n := by rw [fsBytes_val HN.out]
      have HST := Lib.hid hst; clear hst hlen
      have HCS := Lib.hid hcs; clear hcs
      have HV := Lib.hid (fsBytes_val HN.out)
      have hsz : (⟨(fsBytes n).toArray⟩ : ByteArray).size ≤ maxLen := by show (fsBytes n).length ≤ _; unfold maxLen; simp [fsBytes]
      have HSZ := Lib.hid hsz; clear hsz
      generalize fsBytes n = fb at *
      go_wp2_with fail
      refine (trim_val _ _ HSZ.out).mono ?_
      rintro e w' ⟨rfl, rfl⟩
      go_wp2_with fail
      go_ret
      exact ⟨by rw [show bval (toL ⟨fb.toArray⟩) = n from HV.out]; rfl, hbel.out⟩
end Go.Proofs.YtlfddhiimcophaaDoor
