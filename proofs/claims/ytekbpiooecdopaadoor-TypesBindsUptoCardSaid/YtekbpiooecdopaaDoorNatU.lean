/- Joined texts. -/
import Derived.Test.YtekbpiooecdopaaDoorNatS
import Derived.Test.YtekbpiooecdopaaDoorNatT

/- Walks of package nat: left. -/
namespace Go.Proofs.YtekbpiooecdopaaDoor
open Go.RowKit
set_option linter.unusedVariables false
set_option linter.unusedSimpArgs false

/-- the low word of a shifted word, and what is left over -/
theorem left_or {x b c : Nat} (hb : b ≤ 31) (hx : x < 4294967296) (hc : c < 2 ^ b) : bits .or .u32 (c : Int) (((x * 2 ^ b % 4294967296 : Nat) : Int)) = ((x * 2 ^ b % 4294967296 + c : Nat) : Int) := by
  have h1 : 2 ^ b ≤ 2147483648 := Nat.pow_le_pow_right (n := 2) (by omega) hb
  rw [u32_or_nat c _ (by omega) (Nat.mod_lt _ (by omega)), Nat.or_comm]
  rw [nat_join b _ c ?_ hc]
  have h2 : (4294967296 : Nat) = 2 ^ b * 2 ^ (32 - b) := by rw [← Nat.pow_add, show b + (32 - b) = 32 by omega]
  rw [h2, Nat.mul_comm x, Nat.mul_mod_mul_left]
  exact Nat.mul_mod_right _ _
theorem left_hi {x b : Nat} (hx : x < 4294967296) : x * 2 ^ b / 4294967296 < 2 ^ b := by
  rw [Nat.div_lt_iff_lt_mul (by omega), Nat.mul_comm (2 ^ b)]
  exact Nat.mul_lt_mul_of_pos_right hx (Nat.pow_pos (by omega))

set_option maxHeartbeats 1000000 in
set_option maxRecDepth 20000 in
theorem left_any (xs : List Nat) (A : Option Addr) (n c b : Nat) (w : World) (hn : n = xs.length) (hn2 : n ≤ 35184372088832) (hb : b ≤ 31) (hok : Wok xs) (h : WAt w w.heap.size A xs) :
    Calls Tryd.prog 83 #[.slice A n c, .int .i64 b] w fun e w' => ∃ g zs, e = .returned (.slice (some ⟨g, 0, none⟩) (n + 1 : Nat) (n + 1)) ∧ w.heap.size ≤ g ∧ Blk w' g 92 (wcells zs) ∧ Below w.heap.size w w' ∧ zs.length = n + 1 ∧ Wok zs ∧ wval zs = wval xs * 2 ^ b := by
  have HN := Lib.hid hn; clear hn
  have H := Lib.hid h; clear h
  have HOK := Lib.hid hok; clear hok
  have hmk := make_words (n + 1) (by omega)
  have ec : ((n + 1 : Nat) : Int) = (n : Int) + 1 := by omega
  rw [ec] at hmk
  go_enter Tryd.func83, Tryd.ntmps83
  go_wp2_with fail
  clear hmk
  have HB0 : Hid (Below w.heap.size w (w.alloc (.cells (wcells (List.replicate (n + 1) 0)) 92))) := (Below.refl _ _).alloc (Nat.le_refl _) _
  go_loopg [15] n (fun k i wr => ∃ (j : Nat) (zs : List Nat), k = n - j ∧ j ≤ n ∧ i = .int .i64 j ∧ Hid (Below w.heap.size w wr) ∧ Hid (Blk wr w.heap.size 92 (wcells zs)) ∧ Hid (zs.length = n + 1 ∧ Wok zs ∧ wval (zs.take (j + 1)) = wval (xs.take j) * 2 ^ b ∧ ∀ y, zs[j]? = some y → y < 2 ^ b))
  case atStart =>
    refine ⟨0, _, rfl, Nat.zero_le _, rfl, HB0.out, Blk.new _ _ _, by simp, Wok.zeros _, ?_, ?_⟩
    · rw [List.take_replicate, wval_zeros]; show 0 = wval [] * _; exact (Nat.zero_mul _).symm
    · intro y hy
      have := (List.mem_replicate.1 (List.mem_of_getElem? hy)).2
      subst this; exact Nat.pow_pos (by omega)
  case round =>
    obtain ⟨j, zs, hgk, hj, rfl, hbel, hblk, hzs⟩ := hrel
    have HGK := Lib.hid hgk; clear hgk
    by_cases hlt : j < n
    · obtain ⟨x, hx⟩ := get_of_lt HN.out hlt
      obtain ⟨g, off, rfl, hg, h0⟩ := H.out j x hx
      have c0 := (hbel.out.cell (p := ⟨g, off + j, none⟩) hg).trans h0
      obtain ⟨y, hy⟩ := get_of_lt hzs.out.1.symm (show j < n + 1 by omega)
      obtain ⟨y2, hy2⟩ := get_of_lt hzs.out.1.symm (show j + 1 < n + 1 by omega)
      have c1 := (hblk.out.cell j).trans (wcells_get hy)
      have c2 := (hblk.out.cell (j + 1)).trans (wcells_get hy2)
      have f0 := hblk.out.frozen j
      have f1 := hblk.out.frozen (j + 1)
      have hxlt := HOK.out.get hx
      have hylt := hzs.out.2.2.2 y hy
      have HYB := Lib.hid hylt
      have HX := Lib.hid (And.intro hx (And.intro hy hy2)); clear hx hy hy2 h0 hylt
      go_wp2_with fail
      have hp31 : 2 ^ b ≤ 2147483648 := Nat.pow_le_pow_right (n := 2) (by omega) hb
      have hxp : x * 2 ^ b ≤ 4294967295 * 2147483648 := Nat.mul_le_mul (by omega) hp31
      have e0 : IntKind.u64.wrap ((x : Int) * 2 ^ b) = ((x * 2 ^ b : Nat) : Int) := by
        have : (x : Int) * 2 ^ b = ((x * 2 ^ b : Nat) : Int) := by rw [Int.natCast_mul, Int.natCast_pow]; rfl
        rw [this, u64_wrap_nat (by omega)]
      have e1 : ((x * 2 ^ b : Nat) : Int) % 4294967296 = ((x * 2 ^ b % 4294967296 : Nat) : Int) := by omega
      have e2 : ((x * 2 ^ b : Nat) : Int) / 4294967296 % 4294967296 = ((x * 2 ^ b / 4294967296 : Nat) : Int) := by omega
      have hhi := left_hi (b := b) hxlt
      rw [e0, e1, e2, left_or hb hxlt HYB.out]
      go_roundg (n - (j + 1))
      case measure => rw [HGK.out]; omega
      case rel =>
        obtain ⟨z1, z2, z3, z4⟩ := hzs.out
        have hlo : x * 2 ^ b % 4294967296 + y < 4294967296 := by
          have h1 : x * 2 ^ b % 4294967296 + 2 ^ b ≤ 4294967296 := by
            have h2 : (4294967296 : Nat) = 2 ^ b * 2 ^ (32 - b) := by rw [← Nat.pow_add, show b + (32 - b) = 32 by omega]
            have h3 : x * 2 ^ b % 4294967296 = 2 ^ b * (x % 2 ^ (32 - b)) := by
              rw [h2, Nat.mul_comm x, Nat.mul_mod_mul_left]
            have h4 : x % 2 ^ (32 - b) + 1 ≤ 2 ^ (32 - b) := Nat.mod_lt _ (Nat.pow_pos (by omega))
            have h5 := Nat.mul_le_mul_left (2 ^ b) h4
            rw [Nat.mul_add, Nat.mul_one, ← h2] at h5
            rw [h3]; exact h5
          have := HYB.out
          omega
        refine ⟨j + 1, (zs.set j (x * 2 ^ b % 4294967296 + y)).set (j + 1) (x * 2 ^ b / 4294967296), rfl, by omega, by go_num, (hbel.out.setCell (Nat.le_refl _) _).setCell (Nat.le_refl _) _, ?_, by rw [List.length_set, List.length_set]; exact z1, (z2.set _ hlo).set _ (by omega), ?_, ?_⟩
        · have h1 := (hblk.out.set_ j (.int .u32 ((x * 2 ^ b % 4294967296 + y : Nat) : Int))).set_ (j + 1) (.int .u32 ((x * 2 ^ b / 4294967296 : Nat) : Int))
          rw [wcells_set, wcells_set] at h1
          exact h1
        · have g1 : ((zs.set j (x * 2 ^ b % 4294967296 + y)).set (j + 1) (x * 2 ^ b / 4294967296))[j + 1]? = some (x * 2 ^ b / 4294967296) := List.getElem?_set_self (by rw [List.length_set, z1]; omega)
          have g2 : (zs.set j (x * 2 ^ b % 4294967296 + y))[j]? = some (x * 2 ^ b % 4294967296 + y) := List.getElem?_set_self (by rw [z1]; omega)
          rw [wval_take_succ g1, List.take_set_of_le (Nat.le_refl _), wval_take_succ g2, List.take_set_of_le (Nat.le_refl _), wval_take_succ HX.out.1, Nat.pow_succ]
          rw [wval_take_succ HX.out.2.1] at z3
          exact left_step z3 (by omega)
        · intro t ht
          rw [List.getElem?_set_self (by rw [List.length_set, z1]; omega)] at ht
          cases ht
          exact hhi
    · obtain rfl : j = n := by omega
      go_wp2_with fail
      go_ret
      obtain ⟨z1, z2, z3, z4⟩ := hzs.out
      refine ⟨w.heap.size, zs, by first | rfl | (simp; done), Nat.le_refl _, hblk.out, hbel.out, z1, z2, ?_⟩
      rw [List.take_of_length_le (by rw [z1]; exact Nat.le_refl _), List.take_of_length_le (by rw [HN.out]; exact Nat.le_refl _)] at z3
      exact z3
end Go.Proofs.YtekbpiooecdopaaDoor
