/- Walks of package nat: limbs, common. -/
import Derived.Test.YtlfddhiimcophaaDoorNatLa
import Derived.Deep.QuietTactic
import Derived.BigQuiet
namespace Go.Proofs.YtlfddhiimcophaaDoor
open Go.RowKit
set_option linter.unusedVariables false
set_option linter.unusedSimpArgs false

theorem infoU64 : (Tryd.prog.info? 59).map (fun i => (i.zero, i.size, i.bytes)) = some (some (.int .u64 0), 1, 8) := by kernel_rfl
theorem make_limbs (n : Nat) (hn : n ≤ 35184372088832) (w : World) : (Instr.makeSlice 92 (.int .i64 (n : Int)) (.int .i64 (n : Int))).run Tryd.prog w = .ok (.slice (some ⟨w.heap.size, 0, none⟩) n n) (w.alloc (.cells (lcells (List.replicate n 0)) 59)) := by
  obtain ⟨i0, hi0, hz0, hz1, hz2⟩ := info_parts infoU64
  have hr := run_make_one (P := Tryd.prog) Tryd.underlying92 hi0 hz0 hz1 rfl n (by rw [hz2]; omega) (by omega) w
  rw [hr, lcells_zeros]
theorem or_limb {x c r : Nat} (hr : r < 8) (hx : x < 256 ^ r) (hc : c < 256) : bits .or .u64 (x : Int) (IntKind.u64.wrap (IntKind.u64.wrap (c : Int) * 2 ^ (r * 8))) = ((x + c * 256 ^ r : Nat) : Int) := by
  rw [u64_wrap_nat (show c < 18446744073709551616 by omega)]
  have hp : 256 ^ r = 2 ^ (r * 8) := by rw [Nat.mul_comm, Nat.pow_mul]
  have hle : 256 ^ r ≤ 72057594037927936 := Nat.pow_le_pow_right (n := 256) (by omega) (show r ≤ 7 by omega)
  have h1 : c * 256 ^ r < 18446744073709551616 := by
    have := Nat.mul_le_mul (show c ≤ 255 by omega) hle
    omega
  have e : IntKind.u64.wrap ((c : Int) * 2 ^ (r * 8)) = ((c * 256 ^ r : Nat) : Int) := by
    have e2 : (2 : Int) ^ (r * 8) = ((256 ^ r : Nat) : Int) := by rw [hp, Int.natCast_pow]; rfl
    rw [e2, ← Int.natCast_mul, u64_wrap_nat h1]
  rw [e, u64_or_nat x (c * 256 ^ r) (by omega) h1, Nat.or_comm, hp]
  rw [nat_join (r * 8) (c * 2 ^ (r * 8)) x (Nat.mul_mod_left _ _) (by rw [← hp]; exact hx)]
  rw [Nat.add_comm]

set_option maxHeartbeats 1000000 in
theorem limbs_any (t : ByteArray) (w : World) (hlen : t.size ≤ 140737488355328) :
    Calls Tryd.prog 77 #[.string t] w fun e w' => ∃ g ws, e = .returned (.slice (some ⟨g, 0, none⟩) (List.length ws) ws.length) ∧ w.heap.size ≤ g ∧ Blk w' g 59 (lcells ws) ∧ Below w.heap.size w w' ∧ Lok ws ∧ lval ws = bval (toL t) ∧ ws.length = (t.size + 7) / 8 := by
  have hmk := make_limbs ((t.size + 7) / 8) (by omega)
  have ec : (((t.size + 7) / 8 : Nat) : Int) = ((t.size : Int) + 7) / 8 := by omega
  rw [ec] at hmk
  go_enter Tryd.func77, Tryd.ntmps77
  go_wp2_with fail
  clear hmk
  have hbel0 : Below w.heap.size w (w.alloc (.cells (lcells (List.replicate ((t.size + 7) / 8) 0)) 59)) := (Below.refl _ _).alloc (Nat.le_refl _) _
  have HB0 := Lib.hid hbel0; clear hbel0
  go_loopg [12] t.size (fun k i wr => ∃ (j : Nat) (ws : List Nat), k = t.size - j ∧ j ≤ t.size ∧ i = .int .i64 j ∧ Hid (Below w.heap.size w wr) ∧ Hid (Blk wr w.heap.size 59 (lcells ws)) ∧ ws.length = (t.size + 7) / 8 ∧ Hid (Lok ws ∧ lval ws = bval ((toL t).drop (t.size - j))))
  case atStart => exact ⟨0, _, rfl, Nat.zero_le _, rfl, HB0.out, Blk.new _ _ _, by simp, Lok.zeros _, by rw [lval_zeros, Nat.sub_zero, show (toL t).drop t.size = [] from List.drop_length]; rfl⟩
  case round =>
    obtain ⟨j, ws, hgk, hj, rfl, hbel, hblk, hwl, hws⟩ := hrel
    have HGK := Lib.hid hgk; clear hgk
    by_cases hlt : j < t.size
    · obtain ⟨x, hx⟩ := get_of_lt rfl (show j / 8 < ws.length by omega)
      have e1 := (hblk.out.cell (j / 8)).trans (lcells_get hx)
      have e2 := hblk.out.frozen (j / 8)
      have HX := Lib.hid hx; clear hx
      have HWL := Lib.hid hwl; clear hwl
      have hq0 : (0 : Int) ≤ (t.size : Int) - 1 - j := by omega
      have hq1 : (t.size : Int) - 1 - j < (t.size : Int) := by omega
      have hq2 : ((t.size : Int) - 1 - j).toNat = t.size - 1 - j := by omega
      have hq3 : t.size - 1 - j < t.size := by omega
      have hq4 : (j : Int) ≤ (t.size : Int) - 1 := by omega
      have hj0 : (0 : Int) ≤ (j : Int) / 8 := by omega
      have hj1 : (j : Int) / 8 < ((t.size : Int) + 7) / 8 := by omega
      have hj2 : IntKind.i64.wrap ((j : Int) / 8) = (j : Int) / 8 := IntWalk.i64_in _ (by omega)
      have hj3 : ((j : Int) / 8).toNat = j / 8 := by omega
      go_wp2_with fail
      go_region
      all_goals go_wp2_with fail
      have hbyte : (toL t)[t.size - (j + 1)]? = some t[t.size - 1 - j] := by
        rw [show t.size - (j + 1) = t.size - 1 - j by omega]; exact toL_get t _ hq3
      have hdrop := bval_drop hbyte
      rw [show (toL t).length - (t.size - (j + 1) + 1) = j by show t.size - _ = _; omega, show t.size - (j + 1) + 1 = t.size - j by omega] at hdrop
      have hvlt : lval ws < 256 ^ j := by
        rw [hws.out.2]
        have := bval_lt ((toL t).drop (t.size - j))
        rwa [List.length_drop, show (toL t).length - (t.size - j) = j by show t.size - _ = _; omega] at this
      have hroom := limb_room HX.out hvlt
      rw [or_limb (by omega) hroom (t[t.size - 1 - j].toNat_lt)]
      have hnew : x + t[t.size - 1 - j].toNat * 256 ^ (j % 8) < 18446744073709551616 := by
        have h1 : t[t.size - 1 - j].toNat ≤ 255 := by have := t[t.size - 1 - j].toNat_lt; omega
        have h2 := Nat.mul_le_mul_right (256 ^ (j % 8)) h1
        have h3 : 256 ^ (j % 8) ≤ 256 ^ 7 := Nat.pow_le_pow_right (by omega) (by omega)
        omega
      go_roundg (t.size - (j + 1))
      case measure => rw [HGK.out]; omega
      case rel =>
        refine ⟨j + 1, ws.set (j / 8) (x + t[t.size - 1 - j].toNat * 256 ^ (j % 8)), rfl, by omega, by go_num, (hbel.out.setCell (Nat.le_refl _) _).drew, ?_, by rw [List.length_set]; exact HWL.out, ?_, ?_⟩
        · rw [← lcells_set]; exact (hblk.out.set_ _ _).drew
        · exact hws.out.1.set _ hnew
        · rw [limb_step HX.out, hws.out.2, hdrop]; omega
    · obtain rfl : j = t.size := by omega
      go_wp2_with fail
      go_ret
      refine ⟨w.heap.size, ws, by rw [hwl]; rfl, Nat.le_refl _, hblk.out, hbel.out, hws.out.1, ?_, hwl⟩
      rw [hws.out.2, Nat.sub_self, List.drop_zero]

set_option maxHeartbeats 1000000 in
theorem common_any (a b : Nat) (w : World) (ha : a < 18446744073709551616) (hb : b < 18446744073709551616) :
    Calls Tryd.prog 61 #[.int .u64 a, .int .u64 b] w fun e w' => e = .returned (.int .u64 (Nat.gcd a b : Nat)) ∧ ∃ n, w' = w.drewN n := by
  go_enter Tryd.func61, Tryd.ntmps61
  go_wp2_with fail
  go_loopg [0, 1] (b + 1) (fun k x y wr => ∃ m n p : Nat, k = n + 1 ∧ x = .int .u64 (m : Nat) ∧ y = .int .u64 (n : Nat) ∧ m < 18446744073709551616 ∧ n < 18446744073709551616 ∧ Hid (Nat.gcd m n = Nat.gcd a b) ∧ w.drewN p = wr)
  case atStart => exact ⟨a, b, 0, rfl, rfl, rfl, ha, hb, rfl, rfl⟩
  case round =>
    obtain ⟨m, n, p, hgk, rfl, rfl, hm, hn, hg, rfl⟩ := hrel
    have HGK := Lib.hid hgk; clear hgk
    by_cases hlt : 0 < n
    · have h1 : (1 : Int) ≤ (n : Int) := by omega
      have HL := Lib.hid hlt
      go_wp2_with fail
      go_quiet (fail)
      go_wp2_with fail
      go_roundg (m % n + 1)
      case measure => rw [HGK.out]; have := Nat.mod_lt m HL.out; omega
      case rel => exact ⟨n, m % n, _, rfl, rfl, by rw [Int.natCast_emod], hn, Nat.lt_of_le_of_lt (Nat.mod_le _ _) hm, by show Nat.gcd n (m % n) = _; rw [← hg.out, Nat.gcd_comm n, ← Nat.gcd_rec, Nat.gcd_comm], by first | rfl | exact (World.drewN_drewN _ _ _).symm⟩
    · obtain rfl : n = 0 := by omega
      go_wp2_with fail
      go_ret
      exact ⟨by rw [← hg.out, Nat.gcd_zero_right]; rfl, p, rfl⟩
end Go.Proofs.YtlfddhiimcophaaDoor
