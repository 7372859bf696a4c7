/- Walks of package nat: short, trim, fromShort. -/
import Derived.Test.YtlfddhiimcophaaDoorProg
import Derived.Test.YtlfddhiimcophaaDoorNatL
import Derived.Outline
import Derived.Deep.LoopGhost
import Derived.WalkSpells
import Derived.Lib.Strings
import Derived.Laws.BitsAllLaws
namespace Go.Proofs.YtlfddhiimcophaaDoor
open Go.RowKit
set_option linter.unusedVariables false
set_option linter.unusedSimpArgs false

theorem ret_u64 {a b : Int} (h : a = b) : Ending.returned (.int .u64 a) = .returned (.int .u64 b) := by rw [h]

theorem short_any (s : ByteArray) (w : World) (hs : s.size ≤ 8) :
    Calls Tryd.prog 53 #[.string s] w fun e w' => e = .returned (.int .u64 (bval (toL s))) ∧ w = w' := by
  go_enter Tryd.func53, Tryd.ntmps53
  go_wp2_with fail
  go_loopg [3, 7] 8 (fun k n i wr => w = wr ∧ ∃ j : Nat, k = 8 - j ∧ j ≤ s.size ∧ i = .int .i64 j ∧ n = .int .u64 (bval ((toL s).take j) : Nat))
  case atStart => exact ⟨rfl, 0, rfl, Nat.zero_le _, rfl, rfl⟩
  case round =>
    obtain ⟨rfl, j, hgk, hj, rfl, rfl⟩ := hrel
    have HGK := Lib.hid hgk; clear hgk
    by_cases hlt : j < s.size
    · go_wp2_with fail
      go_roundg (8 - (j + 1))
      case measure => rw [HGK.out]; omega
      case rel => exact ⟨rfl, j + 1, rfl, by omega, by go_num, by rw [short_step s j hlt hs]⟩
    · go_wp2_with fail
      go_ret
      obtain rfl : j = s.size := by omega
      exact ⟨ret_u64 (by rw [show (toL s).take s.size = toL s from List.take_length]), rfl⟩

theorem trim_any (s : ByteArray) (w : World) (hs : s.size ≤ maxLen) :
    Calls Tryd.prog 49 #[.string s] w fun e w' => e = .returned (.string ⟨(strip (toL s)).toArray⟩) ∧ w = w' := by
  unfold maxLen at hs
  go_enter Tryd.func49, Tryd.ntmps49
  go_wp2_with fail
  go_loopg [0] s.size (fun k a wr => w = wr ∧ ∃ t : ByteArray, k = t.size ∧ t.size ≤ s.size ∧ a = .string t ∧ Hid (strip (toL t) = strip (toL s)))
  case atStart => exact ⟨rfl, s, rfl, Nat.le_refl _, rfl, rfl⟩
  case round =>
    obtain ⟨rfl, t, hgk, ht, rfl, hst⟩ := hrel
    have HGK := Lib.hid hgk; clear hgk
    by_cases hlt : 0 < t.size
    · go_wp2_with fail
      · have h0 : ((t[0].toNat : Int) == 0) = true := by assumption
        go_roundg (t.size - 1)
        case measure => rw [HGK.out]; omega
        case rel => exact ⟨rfl, _, (extract_size t 1).symm, by rw [extract_size]; omega, rfl, (strip_step t hlt h0).trans hst.out⟩
      · have h0 : ((t[0].toNat : Int) == 0) = false := by assumption
        go_ret
        exact ⟨by rw [← hst.out, strip_stop t hlt h0]; rfl, rfl⟩
    · go_wp2_with fail
      go_ret
      exact ⟨by rw [← hst.out, strip_nil t hlt]; rfl, rfl⟩

/-- the string of a number -/
def S (n : Nat) : ByteArray := ⟨(bstr n).toArray⟩
theorem toL_S (n : Nat) : toL (S n) = bstr n := rfl
theorem S_size (n : Nat) : (S n).size = (bstr n).length := rfl
theorem S_of {s : ByteArray} (h : Bare (toL s)) : s = S (bval (toL s)) := ba_eq (bstr_bval h).symm
theorem strip_S (n : Nat) : strip (toL (S n)) = bstr n := by rw [toL_S, strip_eq, bval_bstr]
theorem trim_S (n : Nat) (w : World) (hs : (bstr n).length ≤ maxLen) :
    Calls Tryd.prog 49 #[.string (S n)] w fun e w' => e = .returned (.string (S n)) ∧ w = w' :=
  (trim_any (S n) w hs).mono fun e w' ⟨h1, h2⟩ => ⟨by rw [h1, strip_S]; rfl, h2⟩
theorem trim_val (s : ByteArray) (w : World) (hs : s.size ≤ maxLen) :
    Calls Tryd.prog 49 #[.string s] w fun e w' => e = .returned (.string (S (bval (toL s)))) ∧ w = w' :=
  (trim_any s w hs).mono fun e w' ⟨h1, h2⟩ => ⟨by rw [h1, strip_eq]; rfl, h2⟩
theorem short_S (n : Nat) (w : World) (hs : (bstr n).length ≤ 8) :
    Calls Tryd.prog 53 #[.string (S n)] w fun e w' => e = .returned (.int .u64 n) ∧ w = w' :=
  (short_any (S n) w hs).mono fun e w' ⟨h1, h2⟩ => ⟨by rw [h1, toL_S, bval_bstr], h2⟩
end Go.Proofs.YtlfddhiimcophaaDoor
