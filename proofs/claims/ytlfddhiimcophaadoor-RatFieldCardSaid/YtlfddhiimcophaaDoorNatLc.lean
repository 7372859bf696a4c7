/- Walks of package nat: TrailingZeros64, cut, evens, below. -/
import Derived.Test.YtlfddhiimcophaaDoorNatLb
import Derived.Laws.Bits64b
import Derived.Lib.TrailingZeros
namespace Go.Proofs.YtlfddhiimcophaaDoor
open Go.RowKit
set_option linter.unusedVariables false
set_option linter.unusedSimpArgs false

/-- the table of the de Bruijn look-up -/
def Tab (w : World) : Prop := 1 < w.heap.size ∧ ∀ j, j < 64 → w.cell? ⟨1, j, none⟩ = some (.int .u8 ((Lib.deBruijn64tab.getD j 0 : Nat) : Int))
theorem Tab.next {w w' : World} (h : Tab w) (hb : Below w.heap.size w w') : Tab w' :=
  ⟨Nat.lt_of_lt_of_le h.1 hb.size, fun j hj => (hb.cell (p := ⟨1, j, none⟩) h.1).trans (h.2 j hj)⟩
theorem tz_key (x a : Nat) (hx : x < 18446744073709551616) (hx0 : x ≠ 0) (hlow : x &&& (18446744073709551616 - x) = a) :
    IntKind.u64.wrap (bits BinOp.and IntKind.u64 (x : Int) (IntKind.u64.wrap (-(x : Int))) * 285870213051353865) / 288230376151711744 = ((a * 285870213051353865 % 18446744073709551616 / 288230376151711744 : Nat) : Int) := by
  have e1 : IntKind.u64.wrap (-(x : Int)) = ((18446744073709551616 - x : Nat) : Int) := by rw [IntKind.wrap_u64]; omega
  rw [e1, bits_and_u64_nat x _ hx (by omega), hlow, IntKind.wrap_u64]
  omega
theorem tz64_walk (x k idx : Nat) (w : World) (hx0 : ((x : Int) == 0) = false)
    (key : IntKind.u64.wrap (bits BinOp.and IntKind.u64 (x : Int) (IntKind.u64.wrap (-(x : Int))) * 285870213051353865) / 288230376151711744 = (idx : Int))
    (hi : idx < 64) (hk : k < 64) (hcell : w.cell? ⟨1, idx, none⟩ = some (.int .u8 k)) :
    Calls Tryd.prog 95 #[.int .u64 x] w fun e w' => e = .returned (.int .i64 k) ∧ w = w' := by
  go_enter Tryd.func95, Tryd.ntmps95
  go_wp2_with (simp only [key])
  go_ret
  exact ⟨rfl, rfl⟩
theorem tz64_any (x : Nat) (w : World) (hx : x < 18446744073709551616) (hx0 : x ≠ 0) (hT : Tab w) :
    Calls Tryd.prog 95 #[.int .u64 x] w fun e w' => (∃ t q : Nat, e = .returned (.int .i64 t) ∧ t < 64 ∧ x = 2 ^ t * (2 * q + 1)) ∧ w = w' := by
  obtain ⟨hlow, hk⟩ := Lib.lowest_bit 64 x hx0 hx
  obtain ⟨hi, htab⟩ := Lib.deBruijn64_at _ hk
  have hcell := hT.2 _ hi
  rw [htab] at hcell
  obtain ⟨q, hq, _⟩ := Lib.ctzFrom_spec 64 x (by omega) hx
  have e : Lib.ctz 64 x = Lib.ctzFrom 64 x := by simp [Lib.ctz, hx0]
  refine (tz64_walk x (Lib.ctz 64 x) _ w (by simp; omega) (tz_key x _ hx hx0 hlow) hi hk hcell).mono fun e' w' h => ?_
  exact ⟨⟨Lib.ctz 64 x, q, h.1, hk, by rw [e]; exact hq⟩, h.2⟩

set_option maxHeartbeats 1000000 in
theorem cut_any (pre X post : List Nat) (g k n c : Nat) (w : World) (hk : k = pre.length) (hn : n = X.length) (hn2 : n ≤ 35184372088832) (hc : n ≤ c) (hok : Lok X) (hb : Blk w g 59 (lcells (pre ++ X ++ post))) :
    Calls Tryd.prog 96 #[.slice (some ⟨g, k, none⟩) n c] w fun e w' => (∃ X' post', e = .returned (.slice (some ⟨g, k, none⟩) (List.length X') c) ∧ pre ++ X ++ post = pre ++ X' ++ post' ∧ lval X' = lval X ∧ Tp X' ∧ Lok X' ∧ X'.length ≤ n) ∧ w = w' := by
  have HN := Lib.hid (And.intro hk (And.intro hn hok)); clear hk hn hok
  have HB := Lib.hid hb; clear hb
  go_enter Tryd.func96, Tryd.ntmps96
  go_wp2_with fail
  go_loopg [0] n (fun kk x wr => ∃ (X' post' : List Nat) (j : Nat), kk = j ∧ j ≤ n ∧ x = .slice (some ⟨g, k, none⟩) j c ∧ Hid (j = X'.length ∧ pre ++ X ++ post = pre ++ X' ++ post' ∧ lval X' = lval X ∧ Lok X') ∧ w = wr)
  case atStart => exact ⟨X, post, n, rfl, Nat.le_refl _, rfl, ⟨HN.out.2.1, rfl, rfl, HN.out.2.2⟩, rfl⟩
  case round =>
    obtain ⟨X', post', j, hgk, hj, rfl, hx, rfl⟩ := hrel
    have HGK := Lib.hid hgk; clear hgk
    rcases Nat.eq_zero_or_pos j with h0 | h0
    · subst h0
      go_wp2_with fail
      go_ret
      exact ⟨⟨X', post', by rw [← hx.out.1]; rfl, hx.out.2.1, hx.out.2.2.1, fun x hx' => by rw [List.eq_nil_of_length_eq_zero hx.out.1.symm] at hx'; simp at hx', hx.out.2.2.2, by rw [← hx.out.1]; omega⟩, rfl⟩
    · obtain ⟨i, rfl⟩ : ∃ i, j = i + 1 := ⟨j - 1, by omega⟩
      obtain ⟨x, hxx⟩ := get_of_lt hx.out.1 (show i < i + 1 by omega)
      have c0 := (HB.out.cell (k + i)).trans (show _ = some (Value.int .u64 (x : Int)) by
        rw [hx.out.2.1]; refine lcells_get ?_
        rw [HN.out.1]; exact win_get hxx)
      have hxl := hx.out.2.2.2.get hxx
      have e1 : (((i + 1 : Nat) : Int) - 1) = (i : Int) := by omega
      have HXX := Lib.hid hxx; clear hxx
      by_cases hz : x = 0
      · subst hz
        go_wp2_with fail
        go_roundg i
        case measure => rw [HGK.out]; omega
        case rel =>
          refine ⟨X'.take i, 0 :: post', i, rfl, by omega, rfl, ⟨by rw [List.length_take, ← hx.out.1]; omega, ?_, ?_, hx.out.2.2.2.take i⟩, rfl⟩
          · rw [hx.out.2.1]
            have : X' = X'.take i ++ [0] := by
              conv => lhs; rw [← List.take_append_drop i X']
              rw [List.drop_eq_getElem_cons (by rw [← hx.out.1]; omega), List.drop_of_length_le (by rw [← hx.out.1]; omega)]
              rw [(List.getElem?_eq_some_iff.1 HXX.out).2]
            conv => lhs; rw [this]
            simp
          · have := lval_take_succ HXX.out
            rw [List.take_of_length_le (by rw [← hx.out.1]; exact Nat.le_refl _), Nat.mul_zero, Nat.add_zero] at this
            rw [← this]; exact hx.out.2.2.1
      · have hz1 : ((x : Int) == 0) = false := by rw [beq_eq_false_iff_ne]; omega
        have hz2 : (x == 0) = false := by rw [beq_eq_false_iff_ne]; omega
        go_wp2_with fail
        go_ret
        refine ⟨⟨X', post', by rw [← hx.out.1]; rfl, hx.out.2.1, hx.out.2.2.1, fun y hy => ?_, hx.out.2.2.2, by rw [← hx.out.1]; omega⟩, rfl⟩
        rw [← hx.out.1, Nat.add_sub_cancel, HXX.out] at hy
        cases hy; exact hz
end Go.Proofs.YtlfddhiimcophaaDoor
