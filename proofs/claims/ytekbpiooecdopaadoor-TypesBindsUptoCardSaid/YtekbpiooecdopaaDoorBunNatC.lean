/- Joined texts. -/
import Derived.Test.YtekbpiooecdopaaDoorNatY
import Derived.Deep.QuietTactic
import Derived.BigQuiet
import Derived.Laws.Bits64b
import Derived.Lib.TrailingZeros
import Derived.Shelf.Spec.BitsCarry
import Derived.RegionTactic
import Derived.BigRegion
import Derived.Deep.DeepCutAuto
import Derived.Deep.CutBlock
import Derived.StillTailTactics
import Derived.Deep.RegionHeld3
import Derived.Deep.RegionWith
import Derived.Test.YtekbpiooecdopaaDoorRows
import Derived.Lib.LaidTab
import Derived.LaidByTextLater
import Derived.Test.YtekbpiooecdopaaDoorNatDividesW

/- Numbers as digits to the base 2^64, least significant first (package nat's gcd); no program in sight. -/
namespace Go.Proofs.YtekbpiooecdopaaDoor
open Go.RowKit
set_option linter.unusedVariables false
set_option linter.unusedSimpArgs false

/-! ### digits to the base 2^64 -/
def lval : List Nat → Nat
  | [] => 0
  | w :: l => w + 18446744073709551616 * lval l
def Lok (l : List Nat) : Prop := ∀ w ∈ l, w < 18446744073709551616
theorem lval_append (a b : List Nat) : lval (a ++ b) = lval a + 18446744073709551616 ^ a.length * lval b := by
  induction a with
  | nil => simp [lval]
  | cons w a ih => simp only [List.cons_append, lval, ih, List.length_cons, Nat.pow_succ]; grind
theorem lval_lt {l : List Nat} (h : Lok l) : lval l < 18446744073709551616 ^ l.length := by
  induction l with
  | nil => simp [lval]
  | cons w l ih =>
    have h1 := h w (by simp)
    have h2 := ih (fun x hx => h x (by simp [hx]))
    simp only [lval, List.length_cons, Nat.pow_succ]
    omega
theorem lval_zeros (n : Nat) : lval (List.replicate n 0) = 0 := by
  induction n with
  | zero => rfl
  | succ n ih => simp [List.replicate_succ, lval, ih]
theorem lval_snoc (a : List Nat) (w : Nat) : lval (a ++ [w]) = lval a + 18446744073709551616 ^ a.length * w := by
  rw [lval_append]; simp [lval]
theorem Lok.append {a b : List Nat} (ha : Lok a) (hb : Lok b) : Lok (a ++ b) := fun w hw => by
  rcases List.mem_append.1 hw with h | h
  · exact ha w h
  · exact hb w h
theorem Lok.take {a : List Nat} (ha : Lok a) (n : Nat) : Lok (a.take n) := fun w hw => ha w (List.mem_of_mem_take hw)
theorem Lok.drop {a : List Nat} (ha : Lok a) (n : Nat) : Lok (a.drop n) := fun w hw => ha w (List.mem_of_mem_drop hw)
theorem Lok.get {a : List Nat} (ha : Lok a) {i w : Nat} (h : a[i]? = some w) : w < 18446744073709551616 := ha w (List.mem_of_getElem? h)
theorem lval_take_succ {a : List Nat} {i w : Nat} (h : a[i]? = some w) : lval (a.take (i+1)) = lval (a.take i) + 18446744073709551616 ^ i * w := by
  obtain ⟨hi, rfl⟩ := List.getElem?_eq_some_iff.1 h
  rw [List.take_succ_eq_append_getElem hi, lval_snoc, List.length_take, Nat.min_eq_left (by omega)]
theorem lval_set {a : List Nat} {i w : Nat} (h : a[i]? = some w) (d : Nat) : lval (a.set i (w + d)) = lval a + 18446744073709551616 ^ i * d := by
  induction a generalizing i with
  | nil => simp at h
  | cons x l ih =>
    cases i with
    | zero => simp at h; subst h; simp [lval]; omega
    | succ i => simp at h; simp only [List.set_cons_succ, lval, ih h, Nat.pow_succ]; grind
theorem lval_ge {a : List Nat} {i w : Nat} (h : a[i]? = some w) : 18446744073709551616 ^ i * w ≤ lval a := by
  induction a generalizing i with
  | nil => simp at h
  | cons x l ih =>
    cases i with
    | zero => simp at h; subst h; simp [lval]
    | succ i =>
      simp at h; have := ih h
      simp only [lval, Nat.pow_succ]
      have := Nat.mul_le_mul_left 18446744073709551616 this
      grind
theorem Lok.set {a : List Nat} (ha : Lok a) (i : Nat) {d : Nat} (hd : d < 18446744073709551616) : Lok (a.set i d) := fun w hw => by
  rcases List.mem_or_eq_of_mem_set hw with h | h
  · exact ha w h
  · exact h ▸ hd
theorem Lok.zeros (n : Nat) : Lok (List.replicate n 0) := fun w hw => by rw [(List.mem_replicate.1 hw).2]; omega
/-- the digit that the next byte goes into has room for it -/
theorem limb_room {a : List Nat} {j w : Nat} (h : a[j/8]? = some w) (hv : lval a < 256 ^ j) : w < 256 ^ (j % 8) := by
  have h1 := lval_ge h
  have h2 : 256 ^ j = 18446744073709551616 ^ (j / 8) * 256 ^ (j % 8) := by
    rw [show (18446744073709551616 : Nat) = 256 ^ 8 from rfl, ← Nat.pow_mul, ← Nat.pow_add, show 8 * (j / 8) + j % 8 = j by omega]
  rw [h2] at hv
  exact Nat.lt_of_mul_lt_mul_left (Nat.lt_of_le_of_lt h1 hv)
theorem limb_step {a : List Nat} {j w c : Nat} (h : a[j/8]? = some w) : lval (a.set (j/8) (w + c * 256 ^ (j % 8))) = lval a + c * 256 ^ j := by
  rw [lval_set h]
  have h2 : 256 ^ j = 18446744073709551616 ^ (j / 8) * 256 ^ (j % 8) := by
    rw [show (18446744073709551616 : Nat) = 256 ^ 8 from rfl, ← Nat.pow_mul, ← Nat.pow_add, show 8 * (j / 8) + j % 8 = j by omega]
  rw [h2]; grind
def lcells (l : List Nat) : Array Value := (l.map fun (n : Nat) => Value.int .u64 (n : Int)).toArray
theorem lcells_get {l : List Nat} {i w : Nat} (h : l[i]? = some w) : (lcells l)[i]? = some (.int .u64 w) := by simp [lcells, h]
theorem lcells_set (l : List Nat) (i w : Nat) : (lcells l).setIfInBounds i (.int .u64 w) = lcells (l.set i w) := by
  apply Array.ext'
  simp [lcells, List.map_set]
theorem lcells_zeros (n : Nat) : lcells (List.replicate n 0) = Array.replicate n (.int .u64 0) := by
  apply Array.ext'
  simp [lcells]
/-- words read from a slice -/
def LAt (w : World) (B : Nat) (A : Option Addr) (ws : List Nat) : Prop :=
  ∀ (i x : Nat), ws[i]? = some x → ∃ g off, A = some ⟨g, off, none⟩ ∧ g < B ∧ w.cell? ⟨g, off + i, none⟩ = some (.int .u64 (x : Int))
theorem LAt.below {w w' : World} {B B' : Nat} {A : Option Addr} {ws : List Nat} (h : LAt w B A ws) (hb : Below B' w w') (hB : B ≤ B') : LAt w' B A ws := by
  intro k u hu
  obtain ⟨b, off, hA, hlt, h0⟩ := h k u hu
  exact ⟨b, off, hA, hlt, (hb.cell (p := ⟨b, _, none⟩) (Nat.lt_of_lt_of_le hlt hB)).trans h0⟩
theorem LAt.more {w : World} {B B' : Nat} {A : Option Addr} {ws : List Nat} (h : LAt w B A ws) (hB : B ≤ B') : LAt w B' A ws := by
  intro k u hu
  obtain ⟨b, off, hA, hlt, h0⟩ := h k u hu
  exact ⟨b, off, hA, Nat.lt_of_lt_of_le hlt hB, h0⟩
theorem LAt.next {w w' : World} {A : Option Addr} {ws : List Nat} (h : LAt w w.heap.size A ws) (hb : Below w.heap.size w w') : LAt w' w'.heap.size A ws := (h.below hb (Nat.le_refl _)).more hb.size
theorem Blk.lAt {w : World} {g : Nat} {t : TypeId} {ws : List Nat} (h : Blk w g t (lcells ws)) : LAt w w.heap.size (some ⟨g, 0, none⟩) ws := fun i x hx =>
  ⟨g, 0, rfl, h.lt, by rw [h.cell, Nat.zero_add]; exact lcells_get hx⟩

/-! ### top digits -/
def Tp (X : List Nat) : Prop := ∀ x, X[X.length - 1]? = some x → x ≠ 0
theorem ll_shift {x y b : Nat} (hb : b ≤ 63) : 2 ^ b * (x / 2 ^ b + y * 2 ^ (64 - b) % 18446744073709551616) + x % 2 ^ b = x + 18446744073709551616 * (y % 2 ^ b) := by
  have e : (18446744073709551616 : Nat) = 2 ^ (64 - b) * 2 ^ b := by rw [← Nat.pow_add, show 64 - b + b = 64 by omega]
  have h1 : y * 2 ^ (64 - b) % 18446744073709551616 = 2 ^ (64 - b) * (y % 2 ^ b) := by
    conv => lhs; rw [e, Nat.mul_comm y]
    rw [Nat.mul_mod_mul_left]
  have h2 := Nat.div_add_mod x (2 ^ b)
  rw [h1]
  have h3 : 2 ^ b * (2 ^ (64 - b) * (y % 2 ^ b)) = 18446744073709551616 * (y % 2 ^ b) := by
    rw [← Nat.mul_assoc, Nat.mul_comm (2 ^ b), ← e]
  rw [Nat.mul_add, h3]; omega
theorem ll_shift_step {Z U B p x z cx c0 cy : Nat} (h : p * Z + c0 = U + B * cx) (hz : p * z + cx = x + 18446744073709551616 * cy) : p * (Z + B * z) + c0 = (U + B * x) + B * 18446744073709551616 * cy := by
  have h2 := congrArg (B * ·) hz
  simp only [Nat.mul_add] at h2
  have h3 : p * (B * z) = B * (p * z) := Nat.mul_left_comm _ _ _
  rw [Nat.mul_add, h3, Nat.mul_assoc]
  omega
theorem ll_back {Z U : List Nat} {i L x y b c0 : Nat} (hb : b ≤ 63) (hZl : Z.length = L) (hi : i < L) (hx : U[i]? = some x) (h : 2 ^ b * lval (Z.take i) + c0 = lval (U.take i) + 18446744073709551616 ^ i * (x % 2 ^ b)) :
    2 ^ b * lval ((Z.set i (x / 2 ^ b + y * 2 ^ (64 - b) % 18446744073709551616)).take (i + 1)) + c0 = lval (U.take (i + 1)) + 18446744073709551616 ^ (i + 1) * (y % 2 ^ b) := by
  have h2 : (Z.set i (x / 2 ^ b + y * 2 ^ (64 - b) % 18446744073709551616))[i]? = some (x / 2 ^ b + y * 2 ^ (64 - b) % 18446744073709551616) := List.getElem?_set_self (by omega)
  rw [lval_take_succ h2, List.take_set_of_le (Nat.le_refl _), lval_take_succ hx, Nat.pow_succ]
  exact ll_shift_step h (ll_shift hb)
theorem ll_drop_get {Z U : List Nat} {i k x : Nat} (h : Z.drop i = U.drop i) (hx : Z[k]? = some x) (hk : i ≤ k) : U[k]? = some x := by
  have h1 := congrArg (fun l => l[k - i]?) h
  simp only [List.getElem?_drop, show i + (k - i) = k by omega] at h1
  rw [← h1]; exact hx
theorem ll_or_lt {x y b : Nat} (hb : b ≤ 63) (hx : x < 18446744073709551616) : x / 2 ^ b + y * 2 ^ (64 - b) % 18446744073709551616 < 18446744073709551616 := by
  have h := ll_shift (x := x) (y := y) hb
  have e : (18446744073709551616 : Nat) = 2 ^ b * 2 ^ (64 - b) := by rw [← Nat.pow_add, show b + (64 - b) = 64 by omega]
  have hp : 0 < 2 ^ b := Nat.pow_pos (by omega)
  have h1 : y % 2 ^ b + 1 ≤ 2 ^ b := Nat.mod_lt _ hp
  have h2 : 18446744073709551616 * (y % 2 ^ b) + 18446744073709551616 ≤ 18446744073709551616 * 2 ^ b := by have := Nat.mul_le_mul_left 18446744073709551616 h1; rw [Nat.mul_add, Nat.mul_one] at this; exact this
  have h3 : 2 ^ b * (x / 2 ^ b + y * 2 ^ (64 - b) % 18446744073709551616) < 2 ^ b * 18446744073709551616 := by rw [Nat.mul_comm (2 ^ b) 18446744073709551616]; omega
  exact Nat.lt_of_mul_lt_mul_left h3
theorem lval_pos_top {X : List Nat} (ht : Tp X) (h0 : X ≠ []) : 18446744073709551616 ^ (X.length - 1) ≤ lval X := by
  have hl : 0 < X.length := List.length_pos_iff.2 h0
  obtain ⟨x, hx⟩ := get_of_lt (rfl : X.length = X.length) (show X.length - 1 < X.length by omega)
  have h1 := lval_ge hx
  have h2 : 18446744073709551616 ^ (X.length - 1) * 1 ≤ 18446744073709551616 ^ (X.length - 1) * x := Nat.mul_le_mul_left _ (Nat.pos_of_ne_zero (ht x hx))
  omega
theorem lval_zero_iff {X : List Nat} (ht : Tp X) : lval X = 0 ↔ X = [] := by
  constructor
  · intro h
    refine Classical.byContradiction fun h0 => ?_
    have h1 := lval_pos_top ht h0
    have h2 : 0 < 18446744073709551616 ^ (X.length - 1) := Nat.pow_pos (by omega)
    omega
  · rintro rfl; rfl
theorem lval_lt_of_len {X Y : List Nat} (hX : Lok X) (hY : Tp Y) (h : X.length < Y.length) : lval X < lval Y := by
  have h1 := lval_lt hX
  have h2 := lval_pos_top hY (by rintro rfl; simp at h)
  have h3 : 18446744073709551616 ^ X.length ≤ 18446744073709551616 ^ (Y.length - 1) := Nat.pow_le_pow_right (by omega) (by omega)
  omega
theorem lval_split (X : List Nat) (i : Nat) (h : i ≤ X.length) : lval X = lval (X.take i) + 18446744073709551616 ^ i * lval (X.drop i) := by
  have h2 := lval_append (X.take i) (X.drop i)
  rw [List.take_append_drop, List.length_take, Nat.min_eq_left h] at h2
  exact h2
/-- equal from i + 1 on, parted at i -/
theorem lval_lt_at {X Y : List Nat} {i x y : Nat} (hX : Lok X) (hl : X.length = Y.length) (hd : X.drop (i + 1) = Y.drop (i + 1)) (hx : X[i]? = some x) (hy : Y[i]? = some y) (h : x < y) : lval X < lval Y := by
  have hi := (List.getElem?_eq_some_iff.1 hx).1
  rw [lval_split X (i + 1) (by omega), lval_split Y (i + 1) (by omega), hd, lval_take_succ hx, lval_take_succ hy]
  have h1 := lval_lt (hX.take i)
  rw [List.length_take, Nat.min_eq_left (by omega)] at h1
  have h2 : 18446744073709551616 ^ i * (x + 1) ≤ 18446744073709551616 ^ i * y := Nat.mul_le_mul_left _ h
  rw [Nat.mul_add, Nat.mul_one] at h2
  omega
/-- the lowest digit that is not 0 -/
theorem lval_low {X : List Nat} {i x : Nat} (hz : ∀ j < i, X[j]? = some 0) (hx : X[i]? = some x) : lval X = 18446744073709551616 ^ i * (x + 18446744073709551616 * lval (X.drop (i + 1))) := by
  have hi := (List.getElem?_eq_some_iff.1 hx).1
  rw [lval_split X (i + 1) (by omega), lval_take_succ hx]
  have h0 : lval (X.take i) = 0 := by
    have : X.take i = List.replicate i 0 := by
      apply List.ext_getElem?
      intro j
      rw [List.getElem?_take, List.getElem?_replicate]
      by_cases hj : j < i
      · rw [if_pos hj, if_pos hj, hz j hj]
      · rw [if_neg hj, if_neg hj]
    rw [this, lval_zeros]
  rw [h0, Nat.pow_succ]
  grind
theorem lval_all_zero {X : List Nat} (hz : ∀ j < X.length, X[j]? = some 0) : lval X = 0 := by
  have : X = List.replicate X.length 0 := by
    apply List.ext_getElem?
    intro j
    rw [List.getElem?_replicate]
    by_cases hj : j < X.length
    · rw [if_pos hj, hz j hj]
    · rw [if_neg hj, List.getElem?_eq_none (by omega)]
  rw [this, lval_zeros]
end Go.Proofs.YtekbpiooecdopaaDoor

/- Walks of package nat: limbs, common. -/
namespace Go.Proofs.YtekbpiooecdopaaDoor
open Go.RowKit
set_option linter.unusedVariables false
set_option linter.unusedSimpArgs false

theorem infoU64 : (Tryd.prog.info? 88).map (fun i => (i.zero, i.size, i.bytes)) = some (some (.int .u64 0), 1, 8) := by kernel_rfl
theorem make_limbs (n : Nat) (hn : n ≤ 35184372088832) (w : World) : (Instr.makeSlice 116 (.int .i64 (n : Int)) (.int .i64 (n : Int))).run Tryd.prog w = .ok (.slice (some ⟨w.heap.size, 0, none⟩) n n) (w.alloc (.cells (lcells (List.replicate n 0)) 88)) := by
  obtain ⟨i0, hi0, hz0, hz1, hz2⟩ := info_parts infoU64
  have hr := run_make_one (P := Tryd.prog) Tryd.underlying116 hi0 hz0 hz1 rfl n (by rw [hz2]; omega) (by omega) w
  rw [hr, lcells_zeros]
theorem or_limb {x c r : Nat} (hr : r < 8) (hx : x < 256 ^ r) (hc : c < 256) : bits .or .u64 (x : Int) (IntKind.u64.wrap (IntKind.u64.wrap (c : Int) * 2 ^ (r * 8))) = ((x + c * 256 ^ r : Nat) : Int) := by
  rw [u64_wrap_nat (show c < 18446744073709551616 by omega)]
  have hp : 256 ^ r = 2 ^ (r * 8) := by rw [Nat.mul_comm, Nat.pow_mul]
  have hle : 256 ^ r ≤ 72057594037927936 := Nat.pow_le_pow_right (n := 256) (by omega) (show r ≤ 7 by omega)
  have h1 : c * 256 ^ r < 18446744073709551616 := by
    have := Nat.mul_le_mul (show c ≤ 255 by omega) hle
    omega
  have e : IntKind.u64.wrap ((c : Int) * 2 ^ (r * 8)) = ((c * 256 ^ r : Nat) : Int) := by
    have e2 : (2 : Int) ^ (r * 8) = ((256 ^ r : Nat) : Int) := by rw [hp, Int.natCast_pow]; rfl
    rw [e2, ← Int.natCast_mul, u64_wrap_nat h1]
  rw [e, u64_or_nat x (c * 256 ^ r) (by omega) h1, Nat.or_comm, hp]
  rw [nat_join (r * 8) (c * 2 ^ (r * 8)) x (Nat.mul_mod_left _ _) (by rw [← hp]; exact hx)]
  rw [Nat.add_comm]

set_option maxHeartbeats 1000000 in
theorem limbs_any (t : ByteArray) (w : World) (hlen : t.size ≤ 140737488355328) :
    Calls Tryd.prog 64 #[.string t] w fun e w' => ∃ g ws, e = .returned (.slice (some ⟨g, 0, none⟩) (List.length ws) ws.length) ∧ w.heap.size ≤ g ∧ Blk w' g 88 (lcells ws) ∧ Below w.heap.size w w' ∧ Lok ws ∧ lval ws = bval (toL t) ∧ ws.length = (t.size + 7) / 8 := by
  have hmk := make_limbs ((t.size + 7) / 8) (by omega)
  have ec : (((t.size + 7) / 8 : Nat) : Int) = ((t.size : Int) + 7) / 8 := by omega
  rw [ec] at hmk
  go_enter Tryd.func64, Tryd.ntmps64
  go_wp2_with fail
  clear hmk
  have hbel0 : Below w.heap.size w (w.alloc (.cells (lcells (List.replicate ((t.size + 7) / 8) 0)) 88)) := (Below.refl _ _).alloc (Nat.le_refl _) _
  have HB0 := Lib.hid hbel0; clear hbel0
  go_loopg [12] t.size (fun k i wr => ∃ (j : Nat) (ws : List Nat), k = t.size - j ∧ j ≤ t.size ∧ i = .int .i64 j ∧ Hid (Below w.heap.size w wr) ∧ Hid (Blk wr w.heap.size 88 (lcells ws)) ∧ ws.length = (t.size + 7) / 8 ∧ Hid (Lok ws ∧ lval ws = bval ((toL t).drop (t.size - j))))
  case atStart => exact ⟨0, _, rfl, Nat.zero_le _, rfl, HB0.out, Blk.new _ _ _, by simp, Lok.zeros _, by rw [lval_zeros, Nat.sub_zero, show (toL t).drop t.size = [] from List.drop_length]; rfl⟩
  case round =>
    obtain ⟨j, ws, hgk, hj, rfl, hbel, hblk, hwl, hws⟩ := hrel
    have HGK := Lib.hid hgk; clear hgk
    by_cases hlt : j < t.size
    · obtain ⟨x, hx⟩ := get_of_lt rfl (show j / 8 < ws.length by omega)
      have e1 := (hblk.out.cell (j / 8)).trans (lcells_get hx)
      have e2 := hblk.out.frozen (j / 8)
      have HX := Lib.hid hx; clear hx
      have HWL := Lib.hid hwl; clear hwl
      have hq0 : (0 : Int) ≤ (t.size : Int) - 1 - j := by omega
      have hq1 : (t.size : Int) - 1 - j < (t.size : Int) := by omega
      have hq2 : ((t.size : Int) - 1 - j).toNat = t.size - 1 - j := by omega
      have hq3 : t.size - 1 - j < t.size := by omega
      have hq4 : (j : Int) ≤ (t.size : Int) - 1 := by omega
      have hj0 : (0 : Int) ≤ (j : Int) / 8 := by omega
      have hj1 : (j : Int) / 8 < ((t.size : Int) + 7) / 8 := by omega
      have hj2 : IntKind.i64.wrap ((j : Int) / 8) = (j : Int) / 8 := IntWalk.i64_in _ (by omega)
      have hj3 : ((j : Int) / 8).toNat = j / 8 := by omega
      go_wp2_with fail
      go_region
      all_goals go_wp2_with fail
      have hbyte : (toL t)[t.size - (j + 1)]? = some t[t.size - 1 - j] := by
        rw [show t.size - (j + 1) = t.size - 1 - j by omega]; exact toL_get t _ hq3
      have hdrop := bval_drop hbyte
      rw [show (toL t).length - (t.size - (j + 1) + 1) = j by show t.size - _ = _; omega, show t.size - (j + 1) + 1 = t.size - j by omega] at hdrop
      have hvlt : lval ws < 256 ^ j := by
        rw [hws.out.2]
        have := bval_lt ((toL t).drop (t.size - j))
        rwa [List.length_drop, show (toL t).length - (t.size - j) = j by show t.size - _ = _; omega] at this
      have hroom := limb_room HX.out hvlt
      rw [or_limb (by omega) hroom (t[t.size - 1 - j].toNat_lt)]
      have hnew : x + t[t.size - 1 - j].toNat * 256 ^ (j % 8) < 18446744073709551616 := by
        have h1 : t[t.size - 1 - j].toNat ≤ 255 := by have := t[t.size - 1 - j].toNat_lt; omega
        have h2 := Nat.mul_le_mul_right (256 ^ (j % 8)) h1
        have h3 : 256 ^ (j % 8) ≤ 256 ^ 7 := Nat.pow_le_pow_right (by omega) (by omega)
        omega
      go_roundg (t.size - (j + 1))
      case measure => rw [HGK.out]; omega
      case rel =>
        refine ⟨j + 1, ws.set (j / 8) (x + t[t.size - 1 - j].toNat * 256 ^ (j % 8)), rfl, by omega, by go_num, (hbel.out.setCell (Nat.le_refl _) _).drew, ?_, by rw [List.length_set]; exact HWL.out, ?_, ?_⟩
        · rw [← lcells_set]; exact (hblk.out.set_ _ _).drew
        · exact hws.out.1.set _ hnew
        · rw [limb_step HX.out, hws.out.2, hdrop]; omega
    · obtain rfl : j = t.size := by omega
      go_wp2_with fail
      go_ret
      refine ⟨w.heap.size, ws, by rw [hwl]; rfl, Nat.le_refl _, hblk.out, hbel.out, hws.out.1, ?_, hwl⟩
      rw [hws.out.2, Nat.sub_self, List.drop_zero]

set_option maxHeartbeats 1000000 in
theorem common_any (a b : Nat) (w : World) (ha : a < 18446744073709551616) (hb : b < 18446744073709551616) :
    Calls Tryd.prog 50 #[.int .u64 a, .int .u64 b] w fun e w' => e = .returned (.int .u64 (Nat.gcd a b : Nat)) ∧ ∃ n, w' = w.drewN n := by
  go_enter Tryd.func50, Tryd.ntmps50
  go_wp2_with fail
  go_loopg [0, 1] (b + 1) (fun k x y wr => ∃ m n p : Nat, k = n + 1 ∧ x = .int .u64 (m : Nat) ∧ y = .int .u64 (n : Nat) ∧ m < 18446744073709551616 ∧ n < 18446744073709551616 ∧ Hid (Nat.gcd m n = Nat.gcd a b) ∧ w.drewN p = wr)
  case atStart => exact ⟨a, b, 0, rfl, rfl, rfl, ha, hb, rfl, rfl⟩
  case round =>
    obtain ⟨m, n, p, hgk, rfl, rfl, hm, hn, hg, rfl⟩ := hrel
    have HGK := Lib.hid hgk; clear hgk
    by_cases hlt : 0 < n
    · have h1 : (1 : Int) ≤ (n : Int) := by omega
      have HL := Lib.hid hlt
      go_wp2_with fail
      go_quiet (fail)
      go_wp2_with fail
      go_roundg (m % n + 1)
      case measure => rw [HGK.out]; have := Nat.mod_lt m HL.out; omega
      case rel => exact ⟨n, m % n, _, rfl, rfl, by rw [Int.natCast_emod], hn, Nat.lt_of_le_of_lt (Nat.mod_le _ _) hm, by show Nat.gcd n (m % n) = _; rw [← hg.out, Nat.gcd_comm n, ← Nat.gcd_rec, Nat.gcd_comm], by first | rfl | exact (World.drewN_drewN _ _ _).symm⟩
    · obtain rfl : n = 0 := by omega
      go_wp2_with fail
      go_ret
      exact ⟨by rw [← hg.out, Nat.gcd_zero_right]; rfl, p, rfl⟩
end Go.Proofs.YtekbpiooecdopaaDoor

/- Walks of package nat: TrailingZeros64, cut, evens, below. -/
namespace Go.Proofs.YtekbpiooecdopaaDoor
open Go.RowKit
set_option linter.unusedVariables false
set_option linter.unusedSimpArgs false

/-- the table of the de Bruijn look-up -/
def Tab (w : World) : Prop := 1 < w.heap.size ∧ ∀ j, j < 64 → w.cell? ⟨1, j, none⟩ = some (.int .u8 ((Lib.deBruijn64tab.getD j 0 : Nat) : Int))
theorem Tab.next {w w' : World} (h : Tab w) (hb : Below w.heap.size w w') : Tab w' :=
  ⟨Nat.lt_of_lt_of_le h.1 hb.size, fun j hj => (hb.cell (p := ⟨1, j, none⟩) h.1).trans (h.2 j hj)⟩
theorem tz_key (x a : Nat) (hx : x < 18446744073709551616) (hx0 : x ≠ 0) (hlow : x &&& (18446744073709551616 - x) = a) :
    IntKind.u64.wrap (bits BinOp.and IntKind.u64 (x : Int) (IntKind.u64.wrap (-(x : Int))) * 285870213051353865) / 288230376151711744 = ((a * 285870213051353865 % 18446744073709551616 / 288230376151711744 : Nat) : Int) := by
  have e1 : IntKind.u64.wrap (-(x : Int)) = ((18446744073709551616 - x : Nat) : Int) := by rw [IntKind.wrap_u64]; omega
  rw [e1, bits_and_u64_nat x _ hx (by omega), hlow, IntKind.wrap_u64]
  omega
theorem tz64_walk (x k idx : Nat) (w : World) (hx0 : ((x : Int) == 0) = false)
    (key : IntKind.u64.wrap (bits BinOp.and IntKind.u64 (x : Int) (IntKind.u64.wrap (-(x : Int))) * 285870213051353865) / 288230376151711744 = (idx : Int))
    (hi : idx < 64) (hk : k < 64) (hcell : w.cell? ⟨1, idx, none⟩ = some (.int .u8 k)) :
    Calls Tryd.prog 79 #[.int .u64 x] w fun e w' => e = .returned (.int .i64 k) ∧ w = w' := by
  go_enter Tryd.func79, Tryd.ntmps79
  go_wp2_with (simp only [key])
  go_ret
  exact ⟨rfl, rfl⟩
theorem tz64_any (x : Nat) (w : World) (hx : x < 18446744073709551616) (hx0 : x ≠ 0) (hT : Tab w) :
    Calls Tryd.prog 79 #[.int .u64 x] w fun e w' => (∃ t q : Nat, e = .returned (.int .i64 t) ∧ t < 64 ∧ x = 2 ^ t * (2 * q + 1)) ∧ w = w' := by
  obtain ⟨hlow, hk⟩ := Lib.lowest_bit 64 x hx0 hx
  obtain ⟨hi, htab⟩ := Lib.deBruijn64_at _ hk
  have hcell := hT.2 _ hi
  rw [htab] at hcell
  obtain ⟨q, hq, _⟩ := Lib.ctzFrom_spec 64 x (by omega) hx
  have e : Lib.ctz 64 x = Lib.ctzFrom 64 x := by simp [Lib.ctz, hx0]
  refine (tz64_walk x (Lib.ctz 64 x) _ w (by simp; omega) (tz_key x _ hx hx0 hlow) hi hk hcell).mono fun e' w' h => ?_
  exact ⟨⟨Lib.ctz 64 x, q, h.1, hk, by rw [e]; exact hq⟩, h.2⟩

set_option maxHeartbeats 1000000 in
theorem cut_any (pre X post : List Nat) (g k n c : Nat) (w : World) (hk : k = pre.length) (hn : n = X.length) (hn2 : n ≤ 35184372088832) (hc : n ≤ c) (hok : Lok X) (hb : Blk w g 88 (lcells (pre ++ X ++ post))) :
    Calls Tryd.prog 80 #[.slice (some ⟨g, k, none⟩) n c] w fun e w' => (∃ X' post', e = .returned (.slice (some ⟨g, k, none⟩) (List.length X') c) ∧ pre ++ X ++ post = pre ++ X' ++ post' ∧ lval X' = lval X ∧ Tp X' ∧ Lok X' ∧ X'.length ≤ n) ∧ w = w' := by
  have HN := Lib.hid (And.intro hk (And.intro hn hok)); clear hk hn hok
  have HB := Lib.hid hb; clear hb
  go_enter Tryd.func80, Tryd.ntmps80
  go_wp2_with fail
  go_loopg [0] n (fun kk x wr => ∃ (X' post' : List Nat) (j : Nat), kk = j ∧ j ≤ n ∧ x = .slice (some ⟨g, k, none⟩) j c ∧ Hid (j = X'.length ∧ pre ++ X ++ post = pre ++ X' ++ post' ∧ lval X' = lval X ∧ Lok X') ∧ w = wr)
  case atStart => exact ⟨X, post, n, rfl, Nat.le_refl _, rfl, ⟨HN.out.2.1, rfl, rfl, HN.out.2.2⟩, rfl⟩
  case round =>
    obtain ⟨X', post', j, hgk, hj, rfl, hx, rfl⟩ := hrel
    have HGK := Lib.hid hgk; clear hgk
    rcases Nat.eq_zero_or_pos j with h0 | h0
    · subst h0
      go_wp2_with fail
      go_ret
      exact ⟨⟨X', post', by rw [← hx.out.1]; rfl, hx.out.2.1, hx.out.2.2.1, fun x hx' => by rw [List.eq_nil_of_length_eq_zero hx.out.1.symm] at hx'; simp at hx', hx.out.2.2.2, by rw [← hx.out.1]; omega⟩, rfl⟩
    · obtain ⟨i, rfl⟩ : ∃ i, j = i + 1 := ⟨j - 1, by omega⟩
      obtain ⟨x, hxx⟩ := get_of_lt hx.out.1 (show i < i + 1 by omega)
      have c0 := (HB.out.cell (k + i)).trans (show _ = some (Value.int .u64 (x : Int)) by
        rw [hx.out.2.1]; refine lcells_get ?_
        rw [HN.out.1]; exact win_get hxx)
      have hxl := hx.out.2.2.2.get hxx
      have e1 : (((i + 1 : Nat) : Int) - 1) = (i : Int) := by omega
      have HXX := Lib.hid hxx; clear hxx
      by_cases hz : x = 0
      · subst hz
        go_wp2_with fail
        go_roundg i
        case measure => rw [HGK.out]; omega
        case rel =>
          refine ⟨X'.take i, 0 :: post', i, rfl, by omega, rfl, ⟨by rw [List.length_take, ← hx.out.1]; omega, ?_, ?_, hx.out.2.2.2.take i⟩, rfl⟩
          · rw [hx.out.2.1]
            have : X' = X'.take i ++ [0] := by
              conv => lhs; rw [← List.take_append_drop i X']
              rw [List.drop_eq_getElem_cons (by rw [← hx.out.1]; omega), List.drop_of_length_le (by rw [← hx.out.1]; omega)]
              rw [(List.getElem?_eq_some_iff.1 HXX.out).2]
            conv => lhs; rw [this]
            simp
          · have := lval_take_succ HXX.out
            rw [List.take_of_length_le (by rw [← hx.out.1]; exact Nat.le_refl _), Nat.mul_zero, Nat.add_zero] at this
            rw [← this]; exact hx.out.2.2.1
      · have hz1 : ((x : Int) == 0) = false := by rw [beq_eq_false_iff_ne]; omega
        have hz2 : (x == 0) = false := by rw [beq_eq_false_iff_ne]; omega
        go_wp2_with fail
        go_ret
        refine ⟨⟨X', post', by rw [← hx.out.1]; rfl, hx.out.2.1, hx.out.2.2.1, fun y hy => ?_, hx.out.2.2.2, by rw [← hx.out.1]; omega⟩, rfl⟩
        rw [← hx.out.1, Nat.add_sub_cancel, HXX.out] at hy
        cases hy; exact hz
end Go.Proofs.YtekbpiooecdopaaDoor

/- Walks of package nat: evens, below, minus. -/
namespace Go.Proofs.YtekbpiooecdopaaDoor
open Go.RowKit
set_option linter.unusedVariables false
set_option linter.unusedSimpArgs false

theorem ev_odd {x R t q i : Nat} (ht : t < 64) (hx : x = 2 ^ t * (2 * q + 1)) : 18446744073709551616 ^ i * (x + 18446744073709551616 * R) = 2 ^ (64 * i + t) * (2 * (q + 2 ^ (63 - t) * R) + 1) := by
  have e1 : (18446744073709551616 : Nat) = 2 ^ t * (2 * 2 ^ (63 - t)) := by
    rw [← Nat.pow_succ', ← Nat.pow_add, show t + (63 - t + 1) = 64 by omega]
  have e2 : (18446744073709551616 : Nat) ^ i = 2 ^ (64 * i) := by
    rw [show (18446744073709551616 : Nat) = 2 ^ 64 from rfl, ← Nat.pow_mul]
  rw [e2, Nat.pow_add, hx]
  conv => lhs; rw [e1]
  generalize 2 ^ (64 * i) = P
  generalize 2 ^ t = Q
  generalize 2 ^ (63 - t) = T
  grind

set_option maxHeartbeats 1000000 in
theorem evens_any (X : List Nat) (A : Option Addr) (n c : Nat) (w : World) (hn : n = X.length) (hn2 : n ≤ 35184372088832) (hok : Lok X) (h0 : lval X ≠ 0) (h : LAt w w.heap.size A X) (hT : Tab w) :
    Calls Tryd.prog 65 #[.slice A n c] w fun e w' => (∃ b q : Nat, e = .returned (.int .i64 b) ∧ b < 64 * n ∧ lval X = 2 ^ b * (2 * q + 1)) ∧ w = w' := by
  have HN := Lib.hid (And.intro hn (And.intro hok (And.intro h0 (And.intro h hT)))); clear hn hok h0 h hT
  go_enter Tryd.func65, Tryd.ntmps65
  go_wp2_with fail
  go_loopg [3] n (fun kk x wr => ∃ (i : Nat), kk = n - i ∧ i < n ∧ x = .int .i64 (i : Nat) ∧ Hid (∀ j < i, X[j]? = some 0) ∧ w = wr)
  case atStart =>
    refine ⟨0, rfl, ?_, rfl, (fun j hj => absurd hj (Nat.not_lt_zero _)), rfl⟩
    rcases Nat.eq_zero_or_pos n with h | h
    · rw [HN.out.1] at h
      exact absurd (by rw [List.eq_nil_of_length_eq_zero h]; rfl) HN.out.2.2.1
    · exact h
  case round =>
    obtain ⟨i, hgk, hi, rfl, hz, rfl⟩ := hrel
    have HGK := Lib.hid hgk; clear hgk
    obtain ⟨x, hx⟩ := get_of_lt HN.out.1 hi
    obtain ⟨gx, off, rfl, hgx, c0⟩ := HN.out.2.2.2.1 i x hx
    have hxl := HN.out.2.1.get hx
    have HX := Lib.hid hx; clear hx
    by_cases h0 : x = 0
    · subst h0
      have hi1 : i + 1 < n := by
        rcases Nat.lt_or_ge (i + 1) n with h | h
        · exact h
        · refine absurd (lval_all_zero (X := X) fun j hj => ?_) HN.out.2.2.1
          rw [← HN.out.1] at hj
          rcases Nat.lt_or_ge j i with h1 | h1
          · exact hz.out j h1
          · rw [show j = i by omega]; exact HX.out
      go_wp2_with fail
      go_roundg (n - (i + 1))
      case measure => rw [HGK.out]; omega
      case rel => exact ⟨i + 1, rfl, hi1, by go_num, forall_lt_succ hz.out HX.out, rfl⟩
    · have hz1 : ((x : Int) == 0) = false := by rw [beq_eq_false_iff_ne]; omega
      have hz2 : (x == 0) = false := by rw [beq_eq_false_iff_ne]; omega
      go_wp2_with fail
      refine (tz64_any x _ hxl h0 HN.out.2.2.2.2).mono ?_
      rintro e w' ⟨⟨t, q, rfl, ht, hq⟩, rfl⟩
      have HQ := Lib.hid hq; clear hq
      go_wp2_with fail
      go_ret
      exact ⟨⟨64 * i + t, _, by go_num, by omega, (lval_low hz.out HX.out).trans (ev_odd ht HQ.out)⟩, rfl⟩

set_option maxHeartbeats 1000000 in
theorem below_walk (X Y : List Nat) (A B : Option Addr) (m n c d : Nat) (w : World) (hm : m = X.length) (hn : n = Y.length) (hm2 : m ≤ 35184372088832) (hn2 : n ≤ 35184372088832) (hX : Lok X) (hY : Lok Y) (tX : Tp X) (tY : Tp Y)
    (hx : LAt w w.heap.size A X) (hy : LAt w w.heap.size B Y) :
    Calls Tryd.prog 67 #[.slice A m c, .slice B n d] w fun e w' => e = .returned (.bool (decide (lval X < lval Y))) ∧ ∃ k, w' = w.drewN k := by
  have HN := Lib.hid (And.intro (And.intro hm hn) (And.intro (And.intro hX hY) (And.intro hx hy))); clear hx hy
  rcases Nat.lt_trichotomy m n with h | h | h
  · have hr : decide (lval X < lval Y) = true := decide_eq_true (lval_lt_of_len hX tY (by omega))
    rw [hr]
    have h1 : (m == n) = false := by rw [beq_eq_false_iff_ne]; omega
    have h2 : ((m : Int) == n) = false := by rw [beq_eq_false_iff_ne]; omega
    clear hm hn hX hY tX tY hr
    go_enter Tryd.func67, Tryd.ntmps67
    go_wp2_with fail
    go_ret
    exact ⟨by first | (simp; done) | (simp; omega), 0, rfl⟩
  · obtain rfl : m = n := h
    clear hX hY tX tY hm hn
    go_enter Tryd.func67, Tryd.ntmps67
    go_wp2_with fail
    go_loopg [5] m (fun kk i wr => ∃ j p : Nat, kk = j ∧ j ≤ m ∧ i = .int .i64 ((j : Int) - 1) ∧ Hid (X.drop j = Y.drop j) ∧ w.drewN p = wr)
    case atStart =>
      refine ⟨m, 0, rfl, Nat.le_refl _, rfl, ?_, rfl⟩
      show X.drop m = Y.drop m
      rw [List.drop_of_length_le (by rw [← HN.out.1.1]; exact Nat.le_refl _), List.drop_of_length_le (by rw [← HN.out.1.2]; exact Nat.le_refl _)]
    case round =>
      obtain ⟨j, p, hgk, hj, rfl, hd, rfl⟩ := hrel
      have HGK := Lib.hid hgk; clear hgk
      rcases j with _ | j
      · have e0 : ((0 : Nat) : Int) - 1 = -1 := rfl
        rw [e0]; clear e0
        have hr : decide (lval X < lval Y) = false := by
          have h1 := hd.out
          rw [List.drop_zero, List.drop_zero] at h1
          rw [h1]; exact decide_eq_false (Nat.lt_irrefl _)
        have HR := Lib.hid hr; clear hr
        go_wp2_with fail
        go_ret
        exact ⟨by rw [HR.out]; rfl, p, rfl⟩
      · rw [show (((j + 1 : Nat) : Int) - 1) = (j : Int) by omega]
        obtain ⟨x, hxx⟩ := get_of_lt HN.out.1.1 (show j < m by omega)
        obtain ⟨y, hyy⟩ := get_of_lt HN.out.1.2 (show j < m by omega)
        obtain ⟨g1, o1, rfl, hg1, c1⟩ := HN.out.2.2.1 j x hxx
        obtain ⟨g2, o2, rfl, hg2, c2⟩ := HN.out.2.2.2 j y hyy
        have hxl := HN.out.2.1.1.get hxx
        have hyl := HN.out.2.1.2.get hyy
        have i1 : (j : Int) < (m : Int) := by omega
        have HXY := Lib.hid (And.intro hxx hyy); clear hxx hyy
        by_cases he : x = y
        · subst he
          go_wp2_with fail
          go_quiet (fail)
          go_wp2_with fail
          go_roundg j
          case measure => rw [HGK.out]; omega
          case rel =>
            refine ⟨j, _, rfl, by omega, rfl, ?_, by first | rfl | exact (World.drewN_drewN _ _ _).symm⟩
            have h1 := (List.getElem?_eq_some_iff.1 HXY.out.1)
            have h2 := (List.getElem?_eq_some_iff.1 HXY.out.2)
            show X.drop j = Y.drop j
            rw [List.drop_eq_getElem_cons h1.1, List.drop_eq_getElem_cons h2.1, hd.out, h1.2, h2.2]
        · have hz1 : ((x : Int) == (y : Int)) = false := by rw [beq_eq_false_iff_ne]; omega
          have hz2 : (x == y) = false := by rw [beq_eq_false_iff_ne]; omega
          have hr : decide (lval X < lval Y) = decide (x < y) := by
            have hll : X.length = Y.length := by rw [← HN.out.1.1, ← HN.out.1.2]
            by_cases hlt : x < y
            · rw [decide_eq_true hlt, decide_eq_true (lval_lt_at HN.out.2.1.1 hll hd.out HXY.out.1 HXY.out.2 hlt)]
            · have := lval_lt_at HN.out.2.1.2 hll.symm hd.out.symm HXY.out.2 HXY.out.1 (by omega)
              rw [decide_eq_false hlt, decide_eq_false (by omega)]
          have HR := Lib.hid hr; clear hr
          go_wp2_with fail
          go_quiet (fail)
          go_wp2_with fail
          go_quiet (fail)
          go_wp2_with fail
          go_ret
          refine ⟨?_, _, by first | rfl | exact World.drewN_drewN _ _ _ | (rw [World.drewN_drewN, World.drewN_drewN])⟩
          rw [HR.out]; simp
  · have hr : decide (lval X < lval Y) = false := decide_eq_false (by have := lval_lt_of_len hY tX (by omega); omega)
    rw [hr]
    have h1 : (m == n) = false := by rw [beq_eq_false_iff_ne]; omega
    have h2 : ((m : Int) == n) = false := by rw [beq_eq_false_iff_ne]; omega
    clear hm hn hX hY tX tY hr
    go_enter Tryd.func67, Tryd.ntmps67
    go_wp2_with fail
    go_ret
    exact ⟨by first | (simp; done) | (simp; omega), 0, rfl⟩
theorem below_any (X Y : List Nat) (A B : Option Addr) (m n c d : Nat) (w : World) (hm : m = X.length) (hn : n = Y.length) (hm2 : m ≤ 35184372088832) (hn2 : n ≤ 35184372088832) (hX : Lok X) (hY : Lok Y) (tX : Tp X) (tY : Tp Y)
    (hx : LAt w w.heap.size A X) (hy : LAt w w.heap.size B Y) :
    Calls Tryd.prog 67 #[.slice A m c, .slice B n d] w fun e w' => e = .returned (.bool (decide (lval X < lval Y))) ∧ Below w.heap.size w w' :=
  (below_walk X Y A B m n c d w hm hn hm2 hn2 hX hY tX tY hx hy).mono fun e w' ⟨h1, k, h2⟩ => ⟨h1, h2 ▸ below_drewN (Below.refl _ _) k⟩

theorem sub64_run (x y b : Nat) (hb : b ≤ 1) (w : World) :
    (callFunc 81 #[.int .u64 x, .int .u64 y, .int .u64 b]).run Tryd.prog w = .ok (.value (.tuple #[.int .u64 (((x + 18446744073709551616 - y - b) % 18446744073709551616 : Nat) : Int), .int .u64 ((if x < y + b then 1 else 0 : Nat) : Int)])) w := by
  rw [run_callFunc_extern Tryd.func81 (by kernel_rfl) (by kernel_rfl) (by kernel_rfl) (e := sub64Entry) (by kernel_rfl), run_sub64 x y b hb]
  rfl
theorem sub64_sum {x y b : Nat} (hx : x < 18446744073709551616) (hy : y < 18446744073709551616) (hb : b ≤ 1) : (x + 18446744073709551616 - y - b) % 18446744073709551616 + y + b = x + 18446744073709551616 * (if x < y + b then 1 else 0) := by
  split <;> omega
theorem ms_end {Z Y X P b : Nat} (hz : Z < P) (h : Z + Y = X + P * b) (hle : Y ≤ X) : Z = X - Y := by
  rcases Nat.eq_zero_or_pos b with h0 | h0
  · subst h0; omega
  · have : P * 1 ≤ P * b := Nat.mul_le_mul_left _ h0
    omega
theorem ms_step {Z X Y B b x y z b' : Nat} (h : Z + Y = X + B * b) (hz : z + y + b = x + 18446744073709551616 * b') : (Z + B * z) + (Y + B * y) = (X + B * x) + B * 18446744073709551616 * b' := by
  have h2 := congrArg (B * ·) hz
  simp only [Nat.mul_add] at h2
  rw [Nat.mul_assoc]
  omega

set_option maxHeartbeats 1000000 in
set_option maxRecDepth 20000 in
theorem minus_any (pre X post Y : List Nat) (g k m n c d : Nat) (A : Option Addr) (w : World) (hk : k = pre.length) (hm : m = X.length) (hn : n = Y.length) (hm2 : m ≤ 35184372088832) (hc : m ≤ c) (hX : Lok X) (hY : Lok Y)
    (hb : Blk w g 88 (lcells (pre ++ X ++ post))) (hy : LAt w w.heap.size A Y) (hne : ∀ b off, A = some ⟨b, off, none⟩ → b ≠ g) (hle : lval Y ≤ lval X) (hnm : n ≤ m) :
    Calls Tryd.prog 68 #[.slice (some ⟨g, k, none⟩) m c, .slice A n d] w fun e w' => (∃ Z post', e = .returned (.slice (some ⟨g, k, none⟩) (List.length Z) c) ∧ Blk w' g 88 (lcells (pre ++ Z ++ post')) ∧ lval Z = lval X - lval Y ∧ Tp Z ∧ Lok Z ∧ Z.length ≤ m) ∧ w.grownBy w' (some g) := by
  have HN := Lib.hid (And.intro (And.intro hk (And.intro hm hn)) (And.intro (And.intro hX hY) (And.intro hb (And.intro hy (And.intro hne hle))))); clear hk hm hn hX hY hb hy hne hle
  go_enter Tryd.func68, Tryd.ntmps68
  go_wp2_with fail
  go_loopg [5, 10] m (fun kk bo i wr => ∃ (j b : Nat) (Z : List Nat), kk = m - j ∧ j ≤ m ∧ b ≤ 1 ∧ bo = .int .u64 (b : Nat) ∧ i = .int .i64 (j : Nat) ∧ Hid (w.grownBy wr (some g)) ∧ Hid (Blk wr g 88 (lcells (pre ++ Z ++ post))) ∧ Hid (Z.length = m ∧ Lok Z ∧ Z.drop j = X.drop j ∧ lval (Z.take j) + lval (Y.take j) = lval (X.take j) + 18446744073709551616 ^ j * b))
  case atStart => exact ⟨0, 0, X, rfl, Nat.zero_le _, by omega, rfl, rfl, World.grownBy.refl _ _, HN.out.2.2.1, HN.out.1.2.1.symm, HN.out.2.1.1, rfl, rfl⟩
  case round =>
    obtain ⟨j, b, Z, hgk, hj, hb1, rfl, rfl, hgr, hblk, hz⟩ := hrel
    have HGK := Lib.hid hgk; clear hgk
    by_cases hlt : j < m
    · obtain ⟨x, hxx⟩ := get_of_lt hz.out.1.symm hlt
      have c0 := (hblk.out.cell (k + j)).trans (lcells_get (show (pre ++ Z ++ post)[k + j]? = some x by rw [HN.out.1.1]; exact win_get hxx))
      have f0 := hblk.out.frozen (k + j)
      have hxl := hz.out.2.1.get hxx
      have hux := ll_drop_get hz.out.2.2.1 hxx (Nat.le_refl _)
      have HX := Lib.hid (And.intro hxx hux); clear hxx hux
      by_cases hjn : j < n
      · obtain ⟨y, hyy⟩ := get_of_lt HN.out.1.2.2 hjn
        obtain ⟨g2, o2, rfl, hg2, c2⟩ := HN.out.2.2.2.1 j y hyy
        have c4 := hgr.out.block g2 hg2 (fun e => HN.out.2.2.2.2.1 g2 o2 rfl (Option.some.inj e))
        have c3 : wr.cell? ⟨g2, o2 + j, none⟩ = some (.int .u64 (y : Int)) := (World.cell?_of_block c4).trans c2
        clear c4
        have hyl := HN.out.2.1.2.get hyy
        have HY := Lib.hid hyy; clear hyy c2
        go_wp2_with fail
        rw [sub64_run x y b hb1]
        rw [Oper.upon_value]
        obtain ⟨z, hzz⟩ : ∃ z, z = (x + 18446744073709551616 - y - b) % 18446744073709551616 := ⟨_, rfl⟩
        obtain ⟨b', hbb⟩ : ∃ b', b' = (if x < y + b then 1 else 0 : Nat) := ⟨_, rfl⟩
        have hb1' : b' ≤ 1 := by rw [hbb]; split <;> omega
        have hsum : z + y + b = x + 18446744073709551616 * b' := by rw [hzz, hbb]; exact sub64_sum hxl hyl hb1
        have hzl : z < 18446744073709551616 := by rw [hzz]; exact Nat.mod_lt _ (by omega)
        rw [← hzz, ← hbb]
        have HS := Lib.hid hsum; clear hsum hzz hbb
        go_wp2_with fail
        go_roundg (m - (j + 1))
        case measure => rw [HGK.out]; omega
        case rel =>
          obtain ⟨z1, z2, z3, z4⟩ := hz.out
          refine ⟨j + 1, b', Z.set j z, rfl, by omega, hb1', rfl, by go_num, grown_set hgr.out _ _, ?_, by rw [List.length_set]; exact z1, z2.set _ hzl, ?_, ?_⟩
          · have h1 := hblk.out.set_ (pre.length + j) (.int .u64 (z : Int))
            rw [lcells_set, win_set (by rw [z1]; exact hlt)] at h1
            rw [HN.out.1.1]; exact h1
          · rw [List.drop_set_of_lt (by omega)]
            have := congrArg (List.drop 1) z3
            rwa [List.drop_drop, List.drop_drop] at this
          · have h2 : (Z.set j z)[j]? = some z := List.getElem?_set_self (by rw [z1]; exact hlt)
            rw [lval_take_succ h2, List.take_set_of_le (Nat.le_refl _), lval_take_succ HX.out.2, lval_take_succ HY.out, Nat.pow_succ]
            exact ms_step z4 HS.out
      · go_wp2_with fail
        rw [show (Value.int IntKind.u64 0) = .int .u64 ((0 : Nat) : Int) from rfl, sub64_run x 0 b hb1]
        rw [Oper.upon_value]
        obtain ⟨z, hzz⟩ : ∃ z, z = (x + 18446744073709551616 - 0 - b) % 18446744073709551616 := ⟨_, rfl⟩
        obtain ⟨b', hbb⟩ : ∃ b', b' = (if x < 0 + b then 1 else 0 : Nat) := ⟨_, rfl⟩
        have hb1' : b' ≤ 1 := by rw [hbb]; split <;> omega
        have hsum : z + 0 + b = x + 18446744073709551616 * b' := by rw [hzz, hbb]; exact sub64_sum hxl (by omega) hb1
        have hzl : z < 18446744073709551616 := by rw [hzz]; exact Nat.mod_lt _ (by omega)
        rw [← hzz, ← hbb]
        have HS := Lib.hid hsum; clear hsum hzz hbb
        go_wp2_with fail
        go_roundg (m - (j + 1))
        case measure => rw [HGK.out]; omega
        case rel =>
          obtain ⟨z1, z2, z3, z4⟩ := hz.out
          refine ⟨j + 1, b', Z.set j z, rfl, by omega, hb1', rfl, by go_num, grown_set hgr.out _ _, ?_, by rw [List.length_set]; exact z1, z2.set _ hzl, ?_, ?_⟩
          · have h1 := hblk.out.set_ (pre.length + j) (.int .u64 (z : Int))
            rw [lcells_set, win_set (by rw [z1]; exact hlt)] at h1
            rw [HN.out.1.1]; exact h1
          · rw [List.drop_set_of_lt (by omega)]
            have := congrArg (List.drop 1) z3
            rwa [List.drop_drop, List.drop_drop] at this
          · have h2 : (Z.set j z)[j]? = some z := List.getElem?_set_self (by rw [z1]; exact hlt)
            have h3 : lval (Y.take (j + 1)) = lval (Y.take j) + 18446744073709551616 ^ j * 0 := by
              rw [List.take_of_length_le (by rw [← HN.out.1.2.2]; omega), List.take_of_length_le (by rw [← HN.out.1.2.2]; omega)]; rfl
            rw [lval_take_succ h2, List.take_set_of_le (Nat.le_refl _), lval_take_succ HX.out.2, h3, Nat.pow_succ]
            exact ms_step z4 HS.out
    · obtain rfl : j = m := by omega
      obtain ⟨z1, z2, z3, z4⟩ := hz.out
      rw [List.take_of_length_le (by rw [z1]; exact Nat.le_refl _), List.take_of_length_le (by rw [← HN.out.1.2.2]; exact hnm), List.take_of_length_le (by rw [← HN.out.1.2.1]; exact Nat.le_refl _)] at z4
      have hzv := ms_end (z1 ▸ lval_lt z2) z4 HN.out.2.2.2.2.2
      have HZ := Lib.hid (And.intro (And.intro z1 z2) hzv); clear z1 z2 z3 z4 hzv
      go_wp2_with fail
      refine (cut_any pre Z post g k j c _ HN.out.1.1 HZ.out.1.1.symm (by omega) hc HZ.out.1.2 hblk.out).mono ?_
      rintro e w' ⟨⟨X', post', rfl, hp, hv, ht, hl, hle⟩, rfl⟩
      have HF := Lib.hid (And.intro hp (And.intro hv (And.intro ht (And.intro hl hle)))); clear hp hv ht hl hle
      go_wp2_with fail
      go_ret
      exact ⟨⟨X', post', rfl, by rw [← HF.out.1]; exact hblk.out, by rw [HF.out.2.1]; exact HZ.out.2, HF.out.2.2.1, HF.out.2.2.2.1, HF.out.2.2.2.2⟩, hgr.out⟩
end Go.Proofs.YtekbpiooecdopaaDoor

/- Walks of package nat: right. -/
namespace Go.Proofs.YtekbpiooecdopaaDoor
open Go.RowKit
set_option linter.unusedVariables false
set_option linter.unusedSimpArgs false

theorem rt_or {x y b : Nat} (hb0 : 0 < b) (hb : b ≤ 63) (hx : x < 18446744073709551616) : bits .or .u64 (((x / 2 ^ b : Nat)) : Int) (((y * 2 ^ (64 - b) % 18446744073709551616 : Nat)) : Int) = ((x / 2 ^ b + y * 2 ^ (64 - b) % 18446744073709551616 : Nat) : Int) := by
  have e : (18446744073709551616 : Nat) = 2 ^ (64 - b) * 2 ^ b := by rw [← Nat.pow_add, show 64 - b + b = 64 by omega]
  have h1 : x / 2 ^ b < 2 ^ (64 - b) := by
    rw [Nat.div_lt_iff_lt_mul (Nat.pow_pos (by omega)), ← e]; exact hx
  have h2 : y * 2 ^ (64 - b) % 18446744073709551616 % 2 ^ (64 - b) = 0 := by
    rw [Nat.mod_mod_of_dvd _ ⟨2 ^ b, e⟩]; exact Nat.mul_mod_left _ _
  have h3 : x / 2 ^ b ≤ x := Nat.div_le_self _ _
  rw [u64_or_nat _ _ (by omega) (Nat.mod_lt _ (by omega)), Nat.or_comm, nat_join (64 - b) _ _ h2 h1, Nat.add_comm]
theorem rt_wrap {y b : Nat} : IntKind.u64.wrap ((y : Int) * 2 ^ (64 - b)) = ((y * 2 ^ (64 - b) % 18446744073709551616 : Nat) : Int) := by
  have h3 : (y : Int) * 2 ^ (64 - b) = ((y * 2 ^ (64 - b) : Nat) : Int) := by rw [Int.natCast_mul, Int.natCast_pow]; rfl
  rw [h3, IntKind.wrap_u64]; omega
theorem rt_back {Z U : List Nat} {i x y b c0 : Nat} (hb : b ≤ 63) (hi : i < Z.length) (hx : U[i]? = some x) (hy : U.getD (i + 1) 0 = y) (h : 2 ^ b * lval (Z.take i) + c0 = lval (U.take i) + 18446744073709551616 ^ i * (U.getD i 0 % 2 ^ b)) :
    2 ^ b * lval ((Z.set i (x / 2 ^ b + y * 2 ^ (64 - b) % 18446744073709551616)).take (i + 1)) + c0 = lval (U.take (i + 1)) + 18446744073709551616 ^ (i + 1) * (U.getD (i + 1) 0 % 2 ^ b) := by
  rw [hy]
  have h1 : U.getD i 0 = x := by rw [List.getD_eq_getElem?_getD, hx]; rfl
  rw [h1] at h
  exact ll_back hb rfl hi hx h
theorem rt_end {Z R c0 p : Nat} (hp : 0 < p) (hc : c0 < p) (h : p * Z + c0 = R) : Z = R / p := by
  rw [← h, Nat.mul_add_div hp, Nat.div_eq_of_lt hc, Nat.add_zero]
theorem rt_pow (q s : Nat) : 2 ^ (64 * q + s) = 18446744073709551616 ^ q * 2 ^ s := by
  rw [show (18446744073709551616 : Nat) = 2 ^ 64 from rfl, ← Nat.pow_mul, Nat.pow_add]
theorem rt_drop {X : List Nat} {q : Nat} (hok : Lok X) (h : q ≤ X.length) : lval (X.drop q) = lval X / 18446744073709551616 ^ q := by
  have h1 := lval_split X q h
  have h2 := lval_lt (hok.take q)
  rw [List.length_take, Nat.min_eq_left h] at h2
  rw [h1, Nat.add_mul_div_left _ _ (Nat.pow_pos (by omega)), Nat.div_eq_of_lt h2, Nat.zero_add]

set_option maxHeartbeats 1000000 in
set_option maxRecDepth 20000 in
theorem right_any (pre X post : List Nat) (g k n c b : Nat) (w : World) (hk : k = pre.length) (hn : n = X.length) (hn2 : n ≤ 35184372088832) (hc : n ≤ c) (hok : Lok X) (hb : b < 64 * n) (hblk : Blk w g 88 (lcells (pre ++ X ++ post))) :
    Calls Tryd.prog 66 #[.slice (some ⟨g, k, none⟩) n c, .int .i64 b] w fun e w' => (∃ pre' X' post' c', e = .returned (.slice (some ⟨g, List.length pre', none⟩) (List.length X') c') ∧ X'.length ≤ c' ∧ Blk w' g 88 (lcells (pre' ++ X' ++ post')) ∧ lval X' = lval X / 2 ^ b ∧ Tp X' ∧ Lok X' ∧ X'.length ≤ n) ∧ w.grownBy w' (some g) := by
  obtain ⟨q, hq⟩ : ∃ q, q = b / 64 := ⟨_, rfl⟩
  obtain ⟨s, hs⟩ : ∃ s, s = b % 64 := ⟨_, rfl⟩
  have hqn : q < n := by omega
  have hs63 : s ≤ 63 := by omega
  have e1 : (b : Int) / 64 = (q : Int) := by omega
  have e2 : (b : Int) % 64 = (s : Int) := by omega
  have hbq : b = 64 * q + s := by omega
  have hpl : (pre ++ X.take q).length = k + q := by rw [List.length_append, List.length_take, ← hk]; omega
  have hsp : pre ++ X ++ post = (pre ++ X.take q) ++ X.drop q ++ post := by rw [List.append_assoc pre (X.take q), List.take_append_drop]
  have hdl : (X.drop q).length = n - q := by rw [List.length_drop, ← hn]
  have hdv : lval (X.drop q) = lval X / 18446744073709551616 ^ q := rt_drop hok (by omega)
  have hb1 := hblk
  rw [hsp] at hb1
  have HN := Lib.hid (And.intro hk (And.intro hn (And.intro hok (And.intro hb1 (And.intro hpl (And.intro hdl hdv))))))
  have HB := Lib.hid (And.intro hbq (And.intro hq hs))
  clear hk hn hok hblk hb1 hpl hdl hdv hsp hbq hq hs
  have g1 : (q : Int) ≤ (n : Int) := by omega
  have g2 : (q : Int) ≤ (c : Int) := by omega
  have g3 : (c == q) = false := by rw [beq_eq_false_iff_ne]; omega
  have g4 : ((c : Int) == (q : Int)) = false := by rw [beq_eq_false_iff_ne]; omega
  have g5 : ¬ c = q := by omega
  rcases Nat.eq_zero_or_pos s with h0 | h0
  · have HS := Lib.hid h0
    have hs0 : ¬ 0 < s := by omega
    clear h0
    go_enter Tryd.func66, Tryd.ntmps66
    go_wp2_with fail
    refine (cut_any (pre ++ X.take q) (X.drop q) post g (k + q) (n - q) (c - q) _ HN.out.2.2.2.2.1.symm HN.out.2.2.2.2.2.1.symm (by omega) (by omega) (HN.out.2.2.1.drop _) HN.out.2.2.2.1).mono ?_
    rintro e w' ⟨⟨X', post', rfl, hp, hv, ht, hl, hle⟩, rfl⟩
    have HF := Lib.hid (And.intro hp (And.intro hv (And.intro ht (And.intro hl hle)))); clear hp hv ht hl hle
    go_wp2_with fail
    go_ret
    refine ⟨⟨pre ++ X.take q, X', post', c - q, by rw [HN.out.2.2.2.2.1]; rfl, by have := HF.out.2.2.2.2; omega, by rw [← HF.out.1]; exact HN.out.2.2.2.1, ?_, HF.out.2.2.1, HF.out.2.2.2.1, by have := HF.out.2.2.2.2; omega⟩, World.grownBy.refl _ _⟩
    rw [HF.out.2.1, HN.out.2.2.2.2.2.2, HB.out.1, rt_pow, HS.out, Nat.pow_zero, Nat.mul_one]
  · have hs0 : 0 < s := h0
    clear h0
    go_enter Tryd.func66, Tryd.ntmps66
    go_wp2_with fail
    go_loopg [16] (n - q) (fun kk i wr => ∃ (j : Nat) (Z : List Nat), kk = n - q - j ∧ j ≤ n - q ∧ i = .int .i64 (j : Nat) ∧ Hid (w.grownBy wr (some g)) ∧ Hid (Blk wr g 88 (lcells ((pre ++ X.take q) ++ Z ++ post))) ∧ Hid (Z.length = n - q ∧ Lok Z ∧ Z.drop j = (X.drop q).drop j ∧ 2 ^ s * lval (Z.take j) + (X.drop q).getD 0 0 % 2 ^ s = lval ((X.drop q).take j) + 18446744073709551616 ^ j * ((X.drop q).getD j 0 % 2 ^ s)))
    case atStart =>
      refine ⟨0, X.drop q, rfl, Nat.zero_le _, rfl, World.grownBy.refl _ _, HN.out.2.2.2.1, HN.out.2.2.2.2.2.1, HN.out.2.2.1.drop _, rfl, ?_⟩
      rw [List.take_zero, Nat.pow_zero, Nat.one_mul]
      show 2 ^ s * 0 + _ = 0 + _
      rw [Nat.mul_zero]
    case round =>
      obtain ⟨j, Z, hgk, hj, rfl, hgr, hblk, hz⟩ := hrel
      have HGK := Lib.hid hgk; clear hgk
      by_cases hlt : j < n - q
      · obtain ⟨x, hxx⟩ := get_of_lt hz.out.1.symm hlt
        have hux := ll_drop_get hz.out.2.2.1 hxx (Nat.le_refl _)
        have kq : k + q + j = (pre ++ X.take q).length + j := by rw [HN.out.2.2.2.2.1]
        have c1 := (hblk.out.cell (k + q + j)).trans (lcells_get (show ((pre ++ X.take q) ++ Z ++ post)[k + q + j]? = some x by rw [kq]; exact win_get hxx))
        have f1 := hblk.out.frozen (k + q + j)
        have hxl := hz.out.2.1.get hxx
        have hxb : x / 2 ^ s ≤ x := Nat.div_le_self _ _
        obtain ⟨X1, hX1⟩ : ∃ X1, X1 = x / 2 ^ s := ⟨_, rfl⟩
        have eX : (x : Int) / 2 ^ s = (X1 : Int) := by rw [hX1]; push_cast; rfl
        have hXl : X1 < 18446744073709551616 := by omega
        have HX := Lib.hid (And.intro hxx (And.intro hux (And.intro hX1 kq))); clear hxx hux hX1 hxb kq
        have l1 : (j : Int) < (n : Int) - (q : Int) := by omega
        by_cases hj1 : j + 1 < n - q
        · obtain ⟨y, hyy⟩ := get_of_lt hz.out.1.symm hj1
          have huy := ll_drop_get hz.out.2.2.1 hyy (Nat.le_succ _)
          have c2 := (hblk.out.cell (k + q + (j + 1))).trans (lcells_get (show ((pre ++ X.take q) ++ Z ++ post)[k + q + (j + 1)]? = some y by rw [show k + q + (j + 1) = (pre ++ X.take q).length + (j + 1) by rw [HN.out.2.2.2.2.1]]; exact win_get hyy))
          have HY := Lib.hid (And.intro hyy huy); clear hyy huy
          have s1 : (0 : Int) ≤ 64 - (s : Int) := by omega
          have s2 : (64 - (s : Int)).toNat = 64 - s := by omega
          go_wp2_with fail
          obtain ⟨wy, hwy⟩ : ∃ wy, wy = wr.setCell ⟨g, k + q + j, none⟩ (.int .u64 X1) := ⟨_, rfl⟩
          rw [← hwy]
          have k0 : Blk wy g 88 (lcells ((pre ++ X.take q) ++ Z.set j X1 ++ post)) := by
            have h1 := hblk.out.set_ (k + q + j) (.int .u64 (X1 : Int))
            rw [lcells_set, HX.out.2.2.2, win_set (by rw [hz.out.1]; exact hlt), ← HX.out.2.2.2] at h1
            rw [hwy]; exact h1
          have k1 : wy.cell? ⟨g, k + q + j, none⟩ = some (.int .u64 X1) := (k0.cell _).trans (lcells_get (by rw [HX.out.2.2.2]; exact win_get (List.getElem?_set_self (by rw [hz.out.1]; exact hlt))))
          have k2 : wy.cell? ⟨g, k + q + (j + 1), none⟩ = some (.int .u64 y) := (k0.cell _).trans (lcells_get (by rw [show k + q + (j + 1) = (pre ++ X.take q).length + (j + 1) by rw [HN.out.2.2.2.2.1]]; exact win_get (by rw [List.getElem?_set_ne (by omega)]; exact HY.out.1)))
          have k3 : wy.frozen? ⟨g, k + q + j, none⟩ = false := k0.frozen _
          have k4 : w.grownBy wy (some g) := by rw [hwy]; exact grown_set hgr.out _ _
          have K := Lib.hid (And.intro k0 k4); clear k0 k4 hwy c1 c2 f1
          obtain ⟨D, hD⟩ : ∃ D, D = x / 2 ^ s + y * 2 ^ (64 - s) % 18446744073709551616 := ⟨_, rfl⟩
          have eB : bits .or .u64 (X1 : Int) (IntKind.u64.wrap ((y : Int) * 2 ^ (64 - s))) = (D : Int) := by rw [rt_wrap, HX.out.2.2.1, rt_or hs0 hs63 hxl, hD]
          have HDD := Lib.hid (And.intro hD eB); clear hD eB
          go_region
          rw [HDD.out.2]
          go_wp2_with fail
          go_roundg (n - q - (j + 1))
          case measure => rw [HGK.out]; omega
          case rel =>
            have hgd : (X.drop q).getD (j + 1) 0 = y := by rw [List.getD_eq_getElem?_getD, HY.out.2]; rfl
            refine ⟨j + 1, Z.set j D, rfl, by omega, by go_num, grown_drew (grown_set K.out.2 _ _), ?_, by rw [List.length_set]; exact hz.out.1, hz.out.2.1.set _ (by rw [HDD.out.1]; exact ll_or_lt hs63 hxl), ?_, ?_⟩
            · have h1 := (K.out.1.set_ (k + q + j) (.int .u64 (D : Int))).drew
              rw [lcells_set, HX.out.2.2.2, win_set (by rw [List.length_set, hz.out.1]; exact hlt), ← HX.out.2.2.2, List.set_set] at h1
              exact h1
            · rw [List.drop_set_of_lt (by omega)]
              have := congrArg (List.drop 1) hz.out.2.2.1
              rwa [List.drop_drop, List.drop_drop] at this
            · rw [HDD.out.1]
              exact rt_back hs63 (show j < Z.length by rw [hz.out.1]; exact hlt) HX.out.2.1 hgd hz.out.2.2.2
        · go_wp2_with fail
          go_roundg (n - q - (j + 1))
          case measure => rw [HGK.out]; omega
          case rel =>
            have hgd : (X.drop q).getD (j + 1) 0 = 0 := by rw [List.getD_eq_getElem?_getD, List.getElem?_eq_none (by rw [HN.out.2.2.2.2.2.1]; omega)]; rfl
            have e0 : x / 2 ^ s + 0 * 2 ^ (64 - s) % 18446744073709551616 = X1 := by rw [Nat.zero_mul, HX.out.2.2.1]; rfl
            refine ⟨j + 1, Z.set j X1, rfl, by omega, by go_num, grown_set hgr.out _ _, ?_, by rw [List.length_set]; exact hz.out.1, hz.out.2.1.set _ hXl, ?_, ?_⟩
            · have h1 := hblk.out.set_ (k + q + j) (.int .u64 (X1 : Int))
              rw [lcells_set, HX.out.2.2.2, win_set (by rw [hz.out.1]; exact hlt), ← HX.out.2.2.2] at h1
              exact h1
            · rw [List.drop_set_of_lt (by omega)]
              have := congrArg (List.drop 1) hz.out.2.2.1
              rwa [List.drop_drop, List.drop_drop] at this
            · have := rt_back (y := 0) hs63 (show j < Z.length by rw [hz.out.1]; exact hlt) HX.out.2.1 hgd hz.out.2.2.2
              rwa [e0] at this
      · obtain rfl : j = n - q := by omega
        obtain ⟨z1, z2, z3, z4⟩ := hz.out
        have hgd : (X.drop q).getD (n - q) 0 = 0 := by rw [List.getD_eq_getElem?_getD, List.getElem?_eq_none (by rw [HN.out.2.2.2.2.2.1]; omega)]; rfl
        rw [hgd, Nat.zero_mod, Nat.mul_zero, Nat.add_zero, List.take_of_length_le (by rw [z1]; exact Nat.le_refl _), List.take_of_length_le (by rw [HN.out.2.2.2.2.2.1]; exact Nat.le_refl _)] at z4
        have hzv := rt_end (Nat.pow_pos (by omega)) (Nat.mod_lt _ (Nat.pow_pos (by omega))) z4
        have HZ := Lib.hid (And.intro z1 (And.intro z2 hzv)); clear z1 z2 z3 z4 hzv hgd
        go_wp2_with fail
        refine (cut_any (pre ++ X.take q) Z post g (k + q) (n - q) (c - q) _ HN.out.2.2.2.2.1.symm HZ.out.1.symm (by omega) (by omega) HZ.out.2.1 hblk.out).mono ?_
        rintro e w' ⟨⟨X', post', rfl, hp, hv, ht, hl, hle⟩, rfl⟩
        have HF := Lib.hid (And.intro hp (And.intro hv (And.intro ht (And.intro hl hle)))); clear hp hv ht hl hle
        go_wp2_with fail
        go_ret
        refine ⟨⟨pre ++ X.take q, X', post', c - q, by rw [HN.out.2.2.2.2.1]; rfl, by have := HF.out.2.2.2.2; omega, by rw [← HF.out.1]; exact hblk.out, ?_, HF.out.2.2.1, HF.out.2.2.2.1, by have := HF.out.2.2.2.2; omega⟩, hgr.out⟩
        rw [HF.out.2.1, HZ.out.2.2, HN.out.2.2.2.2.2.2, Nat.div_div_eq_div_mul, ← rt_pow, ← HB.out.1]
end Go.Proofs.YtekbpiooecdopaaDoor

/- The greatest common divisor by halves: plain law. -/
namespace Go.Proofs.YtekbpiooecdopaaDoor
open Go.RowKit
set_option linter.unusedVariables false
set_option linter.unusedSimpArgs false

def Odd' (n : Nat) : Prop := ∃ q, n = 2 * q + 1
theorem Odd'.pos {n : Nat} (h : Odd' n) : 0 < n := by obtain ⟨q, rfl⟩ := h; omega
theorem Odd'.cop {n : Nat} (h : Odd' n) (k : Nat) : Nat.Coprime (2 ^ k) n := by
  obtain ⟨q, rfl⟩ := h
  exact Nat.Coprime.pow_left _ (show Nat.gcd 2 (2 * q + 1) = 1 by simp)
/-- powers of 2 struck beside an odd number -/
theorem gcd_half {o y k : Nat} (hy : Odd' y) : Nat.gcd (2 ^ k * o) y = Nat.gcd o y := Nat.Coprime.gcd_mul_left_cancel _ (hy.cop k)
theorem gcd_powers {a b m n : Nat} (ha : Odd' a) (hb : Odd' b) : Nat.gcd (2 ^ m * a) (2 ^ n * b) = 2 ^ (min m n) * Nat.gcd a b := by
  rcases Nat.le_total m n with h | h
  · obtain ⟨k, rfl⟩ : ∃ k, n = m + k := ⟨n - m, by omega⟩
    rw [Nat.min_eq_left h, Nat.pow_add, Nat.mul_assoc, Nat.gcd_mul_left, Nat.gcd_comm a, gcd_half ha, Nat.gcd_comm]
  · obtain ⟨k, rfl⟩ : ∃ k, m = n + k := ⟨m - n, by omega⟩
    rw [Nat.min_eq_right h, Nat.pow_add, Nat.mul_assoc, Nat.gcd_mul_left, gcd_half hb]
theorem odd_of {x b q : Nat} (h : x = 2 ^ b * (2 * q + 1)) : Odd' (x / 2 ^ b) ∧ x / 2 ^ b * 2 ^ b = x := by
  have : x / 2 ^ b = 2 * q + 1 := by rw [h, Nat.mul_div_cancel_left _ (Nat.pow_pos (by omega))]
  rw [this]
  exact ⟨⟨q, rfl⟩, by rw [h, Nat.mul_comm]⟩
/-- one round: X not less than Y, both odd; D the difference, struck of its powers of 2 -/
theorem gcd_round {X Y b q : Nat} (hY : Odd' Y) (hle : Y ≤ X) (hb : X - Y = 2 ^ b * (2 * q + 1)) : Nat.gcd ((X - Y) / 2 ^ b) Y = Nat.gcd X Y ∧ Odd' ((X - Y) / 2 ^ b) ∧ (X - Y) / 2 ^ b + Y < X + Y := by
  obtain ⟨h1, h2⟩ := odd_of hb
  refine ⟨?_, h1, ?_⟩
  · rw [← gcd_half (k := b) hY, Nat.mul_comm, h2, Nat.gcd_sub_self_left hle]
  · have h3 : (X - Y) / 2 ^ b ≤ X - Y := Nat.div_le_self _ _
    have := hY.pos
    omega
theorem len_of_lt {X : List Nat} (ht : Tp X) {n : Nat} (h : lval X < 18446744073709551616 ^ n) : X.length ≤ n := by
  rcases Nat.lt_or_ge n X.length with h1 | h1
  · have h2 := lval_pos_top ht (by rintro rfl; simp at h1)
    have h3 : 18446744073709551616 ^ n ≤ 18446744073709551616 ^ (X.length - 1) := Nat.pow_le_pow_right (by omega) (by omega)
    omega
  · exact h1
theorem gcd_le' {a b : Nat} (ha : 0 < a) : Nat.gcd a b ≤ a := Nat.le_of_dvd ha (Nat.gcd_dvd_left a b)

/-! ### the bytes of the result -/
theorem lb_step {x k : Nat} (hx : x < 18446744073709551616) (hk : k < 8) : x / 256 ^ (8 - k) * 256 + x / 256 ^ (7 - k) % 256 = x / 256 ^ (7 - k) := by
  have h1 : x / 256 ^ (8 - k) = x / 256 ^ (7 - k) / 256 := by
    rw [Nat.div_div_eq_div_mul, ← Nat.pow_succ]; congr 2; omega
  rw [h1]; omega
theorem lb_zero {x : Nat} (hx : x < 18446744073709551616) : x / 256 ^ 8 = 0 := Nat.div_eq_of_lt hx
theorem lb_byte {x k : Nat} (hk : k < 8) : (x : Int) / 2 ^ (56 - 8 * k) % 256 = (((UInt8.ofNat (x / 256 ^ (7 - k) % 256)).toNat : Nat) : Int) := by
  rw [ofNat_toNat, show (256 : Nat) ^ (7 - k) = 2 ^ (56 - 8 * k) by rw [show (256 : Nat) = 2 ^ 8 from rfl, ← Nat.pow_mul]; congr 1; omega]
  rw [Int.natCast_emod, Int.natCast_ediv, Int.natCast_pow]; rfl
theorem lb_set {cs : List UInt8} {p k : Nat} (c : UInt8) (h : p + k < cs.length) : ((cs.set (p + k) c).drop p).take (k + 1) = (cs.drop p).take k ++ [c] := by
  rw [List.drop_set, if_neg (by omega), Nat.add_sub_cancel_left, List.take_succ_eq_append_getElem (by rw [List.length_set, List.length_drop]; omega), List.take_set_of_le (Nat.le_refl _)]
  simp
theorem lb_round {cs : List UInt8} {p k x : Nat} (hx : x < 18446744073709551616) (hk : k < 8) (h : p + k < cs.length) (hv : bval ((cs.drop p).take k) = x / 256 ^ (8 - k)) :
    bval (((cs.set (p + k) (UInt8.ofNat (x / 256 ^ (7 - k) % 256))).drop p).take (k + 1)) = x / 256 ^ (8 - (k + 1)) := by
  rw [lb_set _ h, bval_snoc, hv, ofNat_toNat, lb_step hx hk, show 8 - (k + 1) = 7 - k by omega]
theorem lb_limb {cs bs : List UInt8} {Y : List Nat} {m j n x : Nat} (hl : cs.length = 8 * n) (hm : m + 1 + j = n) (hd : cs.drop (8 * (m + 1)) = bs.drop (8 * (m + 1))) (hb : bval (bs.drop (8 * (m + 1))) = lval (Y.take j)) (hx : Y[j]? = some x) (hv : bval ((cs.drop (8 * m)).take 8) = x) :
    bval (cs.drop (8 * m)) = lval (Y.take (j + 1)) := by
  rw [lval_take_succ hx, ← hb, ← hd]
  conv => lhs; rw [← List.take_append_drop 8 (cs.drop (8 * m))]
  rw [bval_append, List.drop_drop, hv, show 8 * m + 8 = 8 * (m + 1) by omega, List.length_drop, hl, show 8 * n - 8 * (m + 1) = 8 * j by omega, Nat.pow_mul, show (256 : Nat) ^ 8 = 18446744073709551616 from rfl, Nat.mul_comm, Nat.add_comm]
theorem bval_power (n : Nat) : bval (UInt8.ofNat (2 ^ (n % 8)) :: List.replicate (n / 8) 0) = 2 ^ n := by
  have h0 : ∀ k, bval (List.replicate k 0) = 0 := by
    intro k
    induction k with
    | zero => rfl
    | succ k ih => rw [List.replicate_succ, bval_zero_cons, ih]
  have h1 : 2 ^ (n % 8) ≤ 2 ^ 7 := Nat.pow_le_pow_right (by omega) (by omega)
  rw [bval_cons, h0, List.length_replicate, UInt8.toNat_ofNat_of_lt' (by simp [UInt8.size]; omega), Nat.add_zero, show (256 : Nat) = 2 ^ 8 from rfl, ← Nat.pow_mul, ← Nat.pow_add]
  congr 1; omega
end Go.Proofs.YtekbpiooecdopaaDoor

/- Walks of package nat: halves. -/
namespace Go.Proofs.YtekbpiooecdopaaDoor
open Go.RowKit
set_option linter.unusedVariables false
set_option linter.unusedSimpArgs false

/-- the state of the loop: X in block gx, Y in block gy, both odd, the divisor G -/
structure HSt (w wr : World) (gx gy kx ky nx ny : Nat) (X Y px rx py ry : List Nat) (G : Nat) : Prop where
  ekx : kx = px.length
  eky : ky = py.length
  enx : nx = X.length
  eny : ny = Y.length
  bx : Blk wr gx 88 (lcells (px ++ X ++ rx))
  by_ : Blk wr gy 88 (lcells (py ++ Y ++ ry))
  ox : Lok X
  oy : Lok Y
  tx : Tp X
  ty : Tp Y
  below : Below w.heap.size w wr
  ne : gx ≠ gy
  gx0 : w.heap.size ≤ gx
  gy0 : w.heap.size ≤ gy
  oddx : Odd' (lval X)
  oddy : Odd' (lval Y)
  gcd : Nat.gcd (lval X) (lval Y) = G
theorem HSt.swap {w wr : World} {gx gy kx ky nx ny : Nat} {X Y px rx py ry : List Nat} {G : Nat} (h : HSt w wr gx gy kx ky nx ny X Y px rx py ry G) : HSt w wr gy gx ky kx ny nx Y X py ry px rx G :=
  ⟨h.eky, h.ekx, h.eny, h.enx, h.by_, h.bx, h.oy, h.ox, h.ty, h.tx, h.below, fun e => h.ne e.symm, h.gy0, h.gx0, h.oddy, h.oddx, by rw [Nat.gcd_comm]; exact h.gcd⟩
theorem HSt.next {w wr wr' : World} {gx gy kx ky nx ny : Nat} {X Y px rx py ry : List Nat} {G : Nat} (h : HSt w wr gx gy kx ky nx ny X Y px rx py ry G) (hb : Below wr.heap.size wr wr') : HSt w wr' gx gy kx ky nx ny X Y px rx py ry G :=
  { h with bx := h.bx.belowB hb, by_ := h.by_.belowB hb, below := below_next h.below hb }
/-- behind the loop -/
structure HEn (w wr : World) (gx gy kx ky nx ny : Nat) (X Y px rx py ry : List Nat) (G : Nat) : Prop where
  ekx : kx = px.length
  eky : ky = py.length
  enx : nx = X.length
  eny : ny = Y.length
  bx : Blk wr gx 88 (lcells (px ++ X ++ rx))
  by_ : Blk wr gy 88 (lcells (py ++ Y ++ ry))
  ox : Lok X
  oy : Lok Y
  below : Below w.heap.size w wr
  ne : gx ≠ gy
  gx0 : w.heap.size ≤ gx
  gy0 : w.heap.size ≤ gy
  fin : (nx = 0 ∧ lval Y = G) ∨ (nx = 1 ∧ ny = 1 ∧ Nat.gcd (lval X) (lval Y) = G)

theorem Blk.lAtW {w : World} {g k : Nat} {pre X post : List Nat} (h : Blk w g 88 (lcells (pre ++ X ++ post))) (hk : k = pre.length) : LAt w w.heap.size (some ⟨g, k, none⟩) X := fun i x hx =>
  ⟨g, k, rfl, h.lt, by rw [hk, h.cell]; exact lcells_get (win_get hx)⟩

set_option maxHeartbeats 4000000 in
set_option maxRecDepth 20000 in
theorem halves_any (a b : Nat) (w : World) (ha : a ≠ 0) (hb : b ≠ 0) (hla : (bstr a).length ≤ 35184372088832) (hlb : (bstr b).length ≤ 35184372088832) (hT : Tab w) :
    Calls Tryd.prog 51 #[.string (S a), .string (S b)] w fun e w' => e = .returned (.string (S (Nat.gcd a b))) ∧ Below w.heap.size w w' := by
  have HN := Lib.hid (And.intro (And.intro ha hb) (And.intro (And.intro hla hlb) hT)); clear ha hb hla hlb hT
  go_enter Tryd.func51, Tryd.ntmps51
  go_wp2_with fail
  refine (limbs_any (S a) _ (by rw [S_size]; have := HN.out.2.1.1; omega)).mono ?_
  rintro e w1 ⟨g1, xs, rfl, hg1, hb1, hbel1, hok1, hv1, hl1⟩
  rw [toL_S, bval_bstr] at hv1
  rw [S_size] at hl1
  have hx4 : xs.length ≤ 4398046511105 := by have := HN.out.2.1.1; omega
  have HX := Lib.hid (And.intro hb1 (And.intro hbel1 (And.intro hok1 (And.intro hv1 hl1)))); clear hb1 hbel1 hok1 hv1 hl1
  go_wp2_with fail
  refine (limbs_any (S b) _ (by rw [S_size]; have := HN.out.2.1.2; omega)).mono ?_
  rintro e w2 ⟨g2, ys, rfl, hg2, hb2, hbel2, hok2, hv2, hl2⟩
  rw [toL_S, bval_bstr] at hv2
  rw [S_size] at hl2
  have hy4 : ys.length ≤ 4398046511105 := by have := HN.out.2.1.2; omega
  have hg12 : g1 < w1.heap.size := HX.out.1.lt
  have hb1 := HX.out.1.belowB hbel2
  have hbw := below_next HX.out.2.1 hbel2
  have HY := Lib.hid (And.intro hb2 (And.intro hbw (And.intro hok2 (And.intro hv2 (And.intro hl2 (And.intro hb1 (HN.out.2.2.next hbw))))))); clear hb2 hbel2 hok2 hv2 hl2 hb1 hbw
  go_wp2_with fail
  refine (evens_any xs (some ⟨g1, 0, none⟩) _ _ _ rfl (by omega) HX.out.2.2.1 (by rw [HX.out.2.2.2.1]; exact HN.out.1.1) HY.out.2.2.2.2.2.1.lAt HY.out.2.2.2.2.2.2).mono ?_
  rintro e w' ⟨⟨b1, q1, rfl, hb1, hq1⟩, rfl⟩
  have HQ1 := Lib.hid hq1; clear hq1
  go_wp2_with fail
  refine (evens_any ys (some ⟨g2, 0, none⟩) _ _ _ rfl (by omega) HY.out.2.2.1 (by rw [HY.out.2.2.2.1]; exact HN.out.1.2) HY.out.1.lAt HY.out.2.2.2.2.2.2).mono ?_
  rintro e w' ⟨⟨b2, q2, rfl, hb2, hq2⟩, rfl⟩
  have HQ2 := Lib.hid hq2; clear hq2
  go_wp2_with fail
  refine (right_any [] xs [] g1 0 _ _ b1 _ rfl rfl (by omega) (Nat.le_refl _) HX.out.2.2.1 hb1 (by rw [List.nil_append, List.append_nil]; exact HY.out.2.2.2.2.2.1)).mono ?_
  rintro e w3 ⟨⟨p1, X, r1, c1, rfl, hc1, hbx, hvx, htx, hox, hlx⟩, hgr3⟩
  have hne : (some g2 : Option Nat) ≠ some g1 := by intro e; cases e; omega
  have hby3 : Blk w3 g2 88 (lcells ys) := Blk.grown HY.out.1 hgr3 hne
  have hbe3 : Below w.heap.size w w3 := HY.out.2.1.trans (below_of_grown hgr3 HY.out.2.1.size (fun k hk => by cases hk; exact hg1))
  have H3 := Lib.hid (And.intro hbx (And.intro hvx (And.intro htx (And.intro hox (And.intro hby3 hbe3))))); clear hbx hvx htx hox hby3 hgr3 hbe3
  go_wp2_with fail
  refine (right_any [] ys [] g2 0 _ _ b2 _ rfl rfl (by omega) (Nat.le_refl _) HY.out.2.2.1 hb2 (by rw [List.nil_append, List.append_nil]; exact H3.out.2.2.2.2.1)).mono ?_
  rintro e w4 ⟨⟨p2, Y, r2, c2, rfl, hc2, hby, hvy, hty, hoy, hly⟩, hgr4⟩
  have hbx4 : Blk w4 g1 88 (lcells (p1 ++ X ++ r1)) := Blk.grown H3.out.1 hgr4 (fun e => hne e.symm)
  have hbe4 : Below w.heap.size w w4 := H3.out.2.2.2.2.2.trans (below_of_grown hgr4 H3.out.2.2.2.2.2.size (fun k hk => by cases hk; have := HX.out.2.1.size; omega))
  obtain ⟨o1, o2⟩ := odd_of HQ1.out
  obtain ⟨o3, o4⟩ := odd_of HQ2.out
  have H4 := Lib.hid (show HSt w w4 g1 g2 p1.length p2.length X.length Y.length X Y p1 r1 p2 r2 (Nat.gcd (lval X) (lval Y)) from
    ⟨rfl, rfl, rfl, rfl, hbx4, hby, H3.out.2.2.2.1, hoy, H3.out.2.2.1, hty, hbe4, (fun e => hne (by rw [e])), hg1, (by have := HX.out.2.1.size; omega), (by rw [H3.out.2.1]; exact o1), (by rw [hvy]; exact o3), rfl⟩)
  have hG : Nat.gcd a b = 2 ^ (min b1 b2) * Nat.gcd (lval X) (lval Y) := by
    rw [← gcd_powers (by rw [H3.out.2.1]; exact o1) (by rw [hvy]; exact o3), H3.out.2.1, hvy, Nat.mul_comm, o2, Nat.mul_comm, o4, HX.out.2.2.2.1, HY.out.2.2.2.1]
  have HG := Lib.hid hG; clear hG
  have hlx' : X.length ≤ 4398046511105 := by omega
  have hly' : Y.length ≤ 4398046511105 := by omega
  generalize hgg : Nat.gcd (lval X) (lval Y) = G at H4 HG
  have HGG := Lib.hid hgg; clear hgg
  clear hvy hty hoy hby hbx4 hbe4 o1 o2 o3 o4 hne hgr4
  have hbb : b1 < 64 * xs.length ∧ b2 < 64 * ys.length := ⟨hb1, hb2⟩
  have HBB := Lib.hid hbb; clear hbb
  have hb1' : b1 ≤ 281474976710720 := by omega
  have hb2' : b2 ≤ 281474976710720 := by omega
  go_upto_block 0 with (fail)
  go_cut [5, 6] (fun s5 s6 wc => ∃ gx gy kx ky nx ny cx cy X Y px rx py ry, s5 = .slice (some ⟨gx, kx, none⟩) nx cx ∧ s6 = .slice (some ⟨gy, ky, none⟩) ny cy ∧ ny ≤ 4398046511105 ∧ nx ≤ 4398046511105 ∧ Hid (HEn w wc gx gy kx ky nx ny X Y px rx py ry G))
  case first =>
    go_wp2_with fail
    go_loopg [5, 6] (lval X + lval Y) (fun kk s5 s6 wr => ∃ gx gy kx ky nx ny cx cy X Y px rx py ry, kk = lval X + lval Y ∧ s5 = .slice (some ⟨gx, kx, none⟩) nx cx ∧ s6 = .slice (some ⟨gy, ky, none⟩) ny cy ∧ nx ≤ cx ∧ ny ≤ cy ∧ ny ≤ 4398046511105 ∧ nx ≤ 4398046511105 ∧ Hid (HSt w wr gx gy kx ky nx ny X Y px rx py ry G))
    case atStart => exact ⟨_, _, _, _, _, _, _, _, X, Y, _, _, _, _, rfl, rfl, rfl, hc1, hc2, hly', hlx', H4.out⟩
    case round =>
      clear hc1 hc2
      obtain ⟨gx, gy, kx, ky, nx, ny, cx, cy, X, Y, px, rx, py, ry, hgk, rfl, rfl, hcx, hcy, hny, hnx, hst⟩ := hrel
      have HGK := Lib.hid hgk; clear hgk
      have hxp := hst.out.oddx.pos
      have hyp := hst.out.oddy.pos
      have hnx0 : 0 < nx := by
        rcases Nat.eq_zero_or_pos nx with h | h
        · rw [hst.out.enx] at h; rw [List.eq_nil_of_length_eq_zero h] at hxp; exact absurd hxp (Nat.lt_irrefl _)
        · exact h
      have hny0 : 0 < ny := by
        rcases Nat.eq_zero_or_pos ny with h | h
        · rw [hst.out.eny] at h; rw [List.eq_nil_of_length_eq_zero h] at hyp; exact absurd hyp (Nat.lt_irrefl _)
        · exact h
      by_cases hex : 1 < nx ∨ 1 < ny
      · have hgo : ∃ bb : Bool, (decide (1 < nx) || decide (1 < ny)) = bb := ⟨_, rfl⟩
        rcases Nat.lt_or_ge 1 nx with h1 | h1
        all_goals
          try have h2 : 1 < ny := by omega
          try have h3 : ¬ 1 < nx := by omega
          go_wp2_with fail
          refine (below_any X Y (some ⟨gx, kx, none⟩) (some ⟨gy, ky, none⟩) nx ny cx cy _ hst.out.enx hst.out.eny (by omega) (by omega) hst.out.ox hst.out.oy hst.out.tx hst.out.ty (hst.out.bx.lAtW hst.out.ekx) (hst.out.by_.lAtW hst.out.eky)).mono ?_
          rintro e w5 ⟨rfl, hb5⟩
          have hs5 := hst.out.next hb5
          have HS5 := Lib.hid hs5; clear hs5 hb5
          go_upto_if 38 with (fail)
          go_cut [5, 6] (fun s5 s6 wc => ∃ gx' gy' kx' ky' nx' ny' cx' cy' X' Y' px' rx' py' ry', s5 = .slice (some ⟨gx', kx', none⟩) nx' cx' ∧ s6 = .slice (some ⟨gy', ky', none⟩) ny' cy' ∧ nx' ≤ cx' ∧ ny' ≤ cy' ∧ ny' ≤ 4398046511105 ∧ nx' ≤ 4398046511105 ∧ Hid (lval Y' ≤ lval X') ∧ Hid (lval X' + lval Y' = lval X + lval Y) ∧ Hid (HSt w wc gx' gy' kx' ky' nx' ny' X' Y' px' rx' py' ry' G))
          case first =>
            by_cases hlt : lval X < lval Y
            · have hd : decide (lval X < lval Y) = true := decide_eq_true hlt
              go_wp2_with fail
              go_meet
              exact ⟨_, _, _, _, _, _, _, _, Y, X, _, _, _, _, rfl, rfl, hcy, hcx, hnx, hny, Nat.le_of_lt hlt, Nat.add_comm _ _, HS5.out.swap⟩
            · have hd : decide (lval X < lval Y) = false := decide_eq_false hlt
              go_wp2_with fail
              go_meet
              exact ⟨_, _, _, _, _, _, _, _, X, Y, _, _, _, _, rfl, rfl, hcx, hcy, hny, hnx, Nat.le_of_not_lt hlt, rfl, HS5.out⟩
          case rest =>
            obtain ⟨gx', gy', kx', ky', nx', ny', cx', cy', X', Y', px', rx', py', ry', rfl, rfl, hcx', hcy', hny', hnx', hle, hsum, hst'⟩ := hcut
            have hnm : ny' ≤ nx' := by
              rw [hst'.out.enx, hst'.out.eny]
              exact len_of_lt hst'.out.ty (Nat.lt_of_le_of_lt hle.out (lval_lt hst'.out.ox))
            go_wp2_with fail
            refine (minus_any px' X' rx' Y' gx' kx' nx' ny' cx' cy' (some ⟨gy', ky', none⟩) _ hst'.out.ekx hst'.out.enx hst'.out.eny (by omega) hcx' hst'.out.ox hst'.out.oy hst'.out.bx (hst'.out.by_.lAtW hst'.out.eky) (fun b' off h => by cases h; exact fun e => hst'.out.ne e.symm) hle.out hnm).mono ?_
            rintro e w6 ⟨⟨Z, rz, rfl, hbz, hvz, htz, hoz, hlz⟩, hgr6⟩
            have hyb6 : Blk w6 gy' 88 (lcells (py' ++ Y' ++ ry')) := Blk.grown hst'.out.by_ hgr6 (fun e => hst'.out.ne (by cases e; rfl))
            have hbe6 : Below w.heap.size w w6 := hst'.out.below.trans (below_of_grown hgr6 hst'.out.below.size (fun k hk => by cases hk; exact hst'.out.gx0))
            have HZ := Lib.hid (And.intro hbz (And.intro hvz (And.intro htz (And.intro hoz (And.intro hyb6 hbe6))))); clear hbz hvz htz hoz hyb6 hbe6 hgr6
            rcases Nat.eq_zero_or_pos Z.length with hz | hz
            · have hz1 : (Z.length == 0) = true := by rw [beq_iff_eq]; exact hz
              have hz0 := List.eq_nil_of_length_eq_zero hz
              have hee : lval X' = lval Y' := by
                have h1 := HZ.out.2.1
                rw [hz0] at h1
                have h2 := hle.out
                have h3 : lval [] = 0 := rfl
                omega
              have HEE := Lib.hid (And.intro hz0 hee); clear hz0 hee
              have hcz : Z.length ≤ 4398046511105 := by omega
              generalize hzl : Z.length = zl at *
              have HZL := Lib.hid hzl; clear hzl
              obtain rfl : zl = 0 := hz
              go_wp2_with fail
              go_meet
              exact ⟨_, _, _, _, _, _, _, _, Z, Y', _, _, _, _, rfl, rfl, hny', hcz, hst'.out.ekx, hst'.out.eky, HZL.out.symm, hst'.out.eny, HZ.out.1, HZ.out.2.2.2.2.1, HZ.out.2.2.2.1, hst'.out.oy, HZ.out.2.2.2.2.2, hst'.out.ne, hst'.out.gx0, hst'.out.gy0, .inl ⟨rfl, by rw [← hst'.out.gcd, HEE.out.2, Nat.gcd_self]⟩⟩
            · have hz1 : (Z.length == 0) = false := by rw [beq_eq_false_iff_ne]; omega
              have hz2 : ((Z.length : Int) == 0) = false := by rw [beq_eq_false_iff_ne]; omega
              have hz0 : lval Z ≠ 0 := fun h => by rw [(lval_zero_iff HZ.out.2.2.1).1 h] at hz; simp at hz
              go_wp2_with fail
              refine (evens_any Z (some ⟨gx', kx', none⟩) _ _ _ rfl (by omega) HZ.out.2.2.2.1 hz0 (HZ.out.1.lAtW hst'.out.ekx) (HN.out.2.2.next HZ.out.2.2.2.2.2)).mono ?_
              rintro e w' ⟨⟨bz, qz, rfl, hbz, hqz⟩, rfl⟩
              have HQZ := Lib.hid hqz; clear hqz
              go_wp2_with fail
              refine (right_any px' Z rz gx' kx' _ _ bz _ hst'.out.ekx rfl (by omega) (by omega) HZ.out.2.2.2.1 hbz HZ.out.1).mono ?_
              rintro e w7 ⟨⟨p7, X7, r7, c7, rfl, hc7, hbx7, hvx7, htx7, hox7, hlx7⟩, hgr7⟩
              have hyb7 : Blk w7 gy' 88 (lcells (py' ++ Y' ++ ry')) := Blk.grown HZ.out.2.2.2.2.1 hgr7 (fun e => hst'.out.ne (by cases e; rfl))
              have hbe7 : Below w.heap.size w w7 := HZ.out.2.2.2.2.2.trans (below_of_grown hgr7 HZ.out.2.2.2.2.2.size (fun k hk => by cases hk; exact hst'.out.gx0))
              obtain ⟨r1', r2', r3'⟩ := gcd_round (X := lval X') (Y := lval Y') hst'.out.oddy hle.out (by rw [← HZ.out.2.1]; exact HQZ.out)
              rw [← HZ.out.2.1, ← hvx7] at r1' r2' r3'
              have HF := Lib.hid (show HSt w w7 gx' gy' p7.length ky' X7.length ny' X7 Y' p7 r7 py' ry' G from ⟨rfl, hst'.out.eky, rfl, hst'.out.eny, hbx7, hyb7, hox7, hst'.out.oy, htx7, hst'.out.ty, hbe7, hst'.out.ne, hst'.out.gx0, hst'.out.gy0, r2', hst'.out.oddy, r1'.trans hst'.out.gcd⟩)
              have HR := Lib.hid r3'; clear r1' r2' r3' hbx7 hvx7 htx7 hox7 hyb7 hbe7 hgr7
              go_wp2_with fail
              go_roundg (lval X7 + lval Y')
              case measure => rw [HGK.out]; have h1 := HR.out; have h2 := hsum.out; omega
              case rel => exact ⟨_, _, _, _, _, _, _, _, X7, Y', _, _, _, _, rfl, rfl, rfl, hc7, hcy', hny', by omega, HF.out⟩
      · have h1 : ¬ 1 < nx := by omega
        have h2 : ¬ 1 < ny := by omega
        go_wp2_with fail
        go_meet
        exact ⟨_, _, _, _, _, _, _, _, X, Y, _, _, _, _, rfl, rfl, hny, hnx, hst.out.ekx, hst.out.eky, hst.out.enx, hst.out.eny, hst.out.bx, hst.out.by_, hst.out.ox, hst.out.oy, hst.out.below, hst.out.ne, hst.out.gx0, hst.out.gy0, .inr ⟨by omega, by omega, hst.out.gcd⟩⟩
  case rest =>
    obtain ⟨gx, gy, kx, ky, nx, ny, cx, cy, X, Y, px, rx, py, ry, rfl, rfl, hny, hnx, hen⟩ := hcut
    rcases hen.out.fin with ⟨hx0, hyG⟩ | ⟨hx1, hy1, hgG⟩
    case' inl =>
      have hn1 : (nx == 1) = false := by rw [beq_eq_false_iff_ne]; omega
      have hn2 : ((nx : Int) == 1) = false := by rw [beq_eq_false_iff_ne]; omega
      have HX0 := Lib.hid (And.intro hx0 hyG); clear hx0 hyG
      go_upto_if 58 with (fail)
      go_cut [] (fun wc => ∃ Y', Hid (Blk wc gy 88 (lcells (py ++ Y' ++ ry)) ∧ Y'.length = ny ∧ Lok Y' ∧ lval Y' = G ∧ Below w.heap.size w wc))
      case first =>
        go_wp2_with fail
        go_meet
        exact ⟨Y, hen.out.by_, hen.out.eny.symm, hen.out.oy, HX0.out.2, hen.out.below⟩
      clear hn1 hn2
    case' inr =>
      have hn1 : (nx == 1) = true := by rw [beq_iff_eq]; exact hx1
      have hn2 : (ny == 1) = true := by rw [beq_iff_eq]; exact hy1
      have hn3 : ((nx : Int) == 1) = true := by rw [beq_iff_eq]; omega
      have hn4 : ((ny : Int) == 1) = true := by rw [beq_iff_eq]; omega
      have i1 : (0 : Int) < (nx : Int) := by omega
      have i2 : (0 : Int) < (ny : Int) := by omega
      obtain ⟨x, hxx⟩ := get_of_lt hen.out.enx (show 0 < nx by omega)
      obtain ⟨y, hyy⟩ := get_of_lt hen.out.eny (show 0 < ny by omega)
      have cx0 := (hen.out.bx.cell kx).trans (lcells_get (show (px ++ X ++ rx)[kx]? = some x by rw [hen.out.ekx]; exact win_get hxx))
      have cy0 := (hen.out.by_.cell ky).trans (lcells_get (show (py ++ Y ++ ry)[ky]? = some y by rw [hen.out.eky]; exact win_get hyy))
      have fy0 := hen.out.by_.frozen ky
      have hxl := hen.out.ox.get hxx
      have hyl := hen.out.oy.get hyy
      have HXY := Lib.hid (And.intro hxx (And.intro hyy (And.intro hx1 (And.intro hy1 hgG)))); clear hxx hyy hx1 hy1 hgG
      go_upto_if 58 with (fail)
      go_cut [] (fun wc => ∃ Y', Hid (Blk wc gy 88 (lcells (py ++ Y' ++ ry)) ∧ Y'.length = ny ∧ Lok Y' ∧ lval Y' = G ∧ Below w.heap.size w wc))
      case first =>
        go_wp2_with fail
        go_region_with (go_at_call 50; refine (common_any x y _ hxl hyl).mono ?_; rintro e w' ⟨rfl, nq, rfl⟩)
        all_goals
          go_wp2_with fail
          go_meet
          have hX1 : X = [x] := by
            have h1 := hen.out.enx; rw [HXY.out.2.2.1] at h1
            match X, h1, HXY.out.1 with
            | [z], _, h => cases h; rfl
          have hY1 : Y = [y] := by
            have h1 := hen.out.eny; rw [HXY.out.2.2.2.1] at h1
            match Y, h1, HXY.out.2.1 with
            | [z], _, h => cases h; rfl
          have hgl : Nat.gcd x y < 18446744073709551616 := by
            have h1 := hen.out.by_
            rcases Nat.eq_zero_or_pos x with h0 | h0
            · rw [h0, Nat.gcd_zero_left]; exact hyl
            · exact Nat.lt_of_le_of_lt (gcd_le' h0) hxl
          refine ⟨[Nat.gcd x y], ?_, by rw [HXY.out.2.2.2.1]; rfl, fun z hz => by rw [List.mem_singleton] at hz; rw [hz]; exact hgl, ?_, (below_drewN hen.out.below _).setCell hen.out.gy0 _⟩
          · have h1 := (hen.out.by_.drewN (1 + nq)).set_ ky (.int .u64 ((Nat.gcd x y : Nat) : Int))
            rw [lcells_set, hen.out.eky, show py.length = py.length + 0 from rfl, win_set (by rw [hY1]; exact Nat.zero_lt_one), hY1] at h1
            rw [hen.out.eky]
            exact h1
          · have := HXY.out.2.2.2.2
            rw [hX1, hY1] at this
            simpa [lval] using this
      clear hn1 hn2 hn3 hn4 i1 i2 cx0 cy0 fy0 hxl hyl
    all_goals
      obtain ⟨Y', hY'⟩ := hcut
      obtain ⟨wo, rfl⟩ : ∃ wo : World, wo = wc := ⟨_, rfl⟩
      have hmk := make_bytes (8 * ny) (by omega)
      have ec : ((8 * ny : Nat) : Int) = 8 * (ny : Int) := by omega
      rw [ec] at hmk
      go_wp2_with fail
      clear hmk
      have hgyl : gy < wo.heap.size := hY'.out.1.lt
      go_loopg [74] ny (fun kk i wr => ∃ (j : Nat) (bs : List UInt8), kk = ny - j ∧ j ≤ ny ∧ i = .int .i64 (j : Nat) ∧ Hid (Below wo.heap.size wo wr) ∧ Hid (Blk wr wo.heap.size 5 (bcells bs)) ∧ Hid (bs.length = 8 * ny ∧ bval (bs.drop (8 * (ny - j))) = lval (Y'.take j)))
      case atStart =>
        refine ⟨0, List.replicate (8 * ny) 0, rfl, Nat.zero_le _, rfl, (Below.refl _ _).alloc (Nat.le_refl _) _, Blk.new _ _ _, by simp, ?_⟩
        rw [Nat.sub_zero, List.drop_of_length_le (by simp)]; rfl
      case round =>
        obtain ⟨j, bs, hgk, hj, rfl, hbe, hbs, hbl⟩ := hrel
        have HGK := Lib.hid hgk; clear hgk
        by_cases hlt : j < ny
        · obtain ⟨x, hxx⟩ := get_of_lt hY'.out.2.1.symm hlt
          have c0 := ((hY'.out.1.belowB hbe.out).cell (ky + j)).trans (lcells_get (show (py ++ Y' ++ ry)[ky + j]? = some x by rw [hen.out.eky]; exact win_get hxx))
          have hxl := hY'.out.2.2.1.get hxx
          have HX2 := Lib.hid hxx; clear hxx
          have ek : (ny : Int) - 1 - (j : Int) = ((ny - 1 - j : Nat) : Int) := by omega
          obtain ⟨m, hm⟩ : ∃ m, m = ny - 1 - j := ⟨_, rfl⟩
          rw [← hm] at ek
          have hm1 : m + 1 + j = ny := by omega
          have HM := Lib.hid hm1
          have hm2 : 8 * m + 8 ≤ 8 * ny := by omega
          clear hm hm1
          go_wp2_with fail
          obtain ⟨wu, rfl⟩ : ∃ wu : World, wu = wr := ⟨_, rfl⟩
          go_loopg [79] 8 (fun kk s79 wi => ∃ (k : Nat) (cs : List UInt8), kk = 8 - k ∧ k ≤ 8 ∧ s79 = .int .i64 (k : Nat) ∧ Hid (Below wo.heap.size wo wi) ∧ Hid (Blk wi wo.heap.size 5 (bcells cs)) ∧ Hid (cs.length = 8 * ny ∧ cs.drop (8 * (m + 1)) = bs.drop (8 * (m + 1)) ∧ bval ((cs.drop (8 * m)).take k) = x / 256 ^ (8 - k)))
          case atStart => exact ⟨0, bs, rfl, by omega, rfl, hbe.out, hbs.out, hbl.out.1, rfl, (lb_zero hxl).symm⟩
          case round =>
            obtain ⟨k, cs, hgk2, hk8, rfl, hbe2, hcs, hcl⟩ := hrel
            have HGK2 := Lib.hid hgk2; clear hgk2
            by_cases hk : k < 8
            · obtain ⟨c, hc⟩ := get_of_lt hcl.out.1.symm (show 8 * m + k < 8 * ny by omega)
              have d0 := (hcs.out.cell (8 * m + k)).trans (bcells_get hc)
              have f0 := hcs.out.frozen (8 * m + k)
              clear hc
              have s1 : (0 : Int) ≤ 56 - 8 * (k : Int) := by omega
              have s2 : (56 - 8 * (k : Int)).toNat = 56 - 8 * k := by omega
              have s3 : (8 : Int) * (m : Int) + (k : Int) < 8 * (ny : Int) := by omega
              go_wp2_with fail
              rw [lb_byte hk]
              go_roundg (8 - (k + 1))
              case measure => rw [HGK2.out]; omega
              case rel =>
                refine ⟨k + 1, cs.set (8 * m + k) (UInt8.ofNat (x / 256 ^ (7 - k) % 256)), rfl, by omega, by go_num, hbe2.out.setCell (Nat.le_refl _) _, ?_, by rw [List.length_set]; exact hcl.out.1, ?_, lb_round hxl hk (by rw [hcl.out.1]; omega) hcl.out.2.2⟩
                · rw [← bcells_set]; exact hcs.out.set_ _ _
                · rw [List.drop_set_of_lt (by omega)]; exact hcl.out.2.1
            · obtain rfl : k = 8 := by omega
              go_wp2_with fail
              go_roundg (ny - (j + 1))
              case measure => rw [HGK.out]; omega
              case rel =>
                refine ⟨j + 1, cs, rfl, by omega, by go_num, hbe2.out, hcs.out, hcl.out.1, ?_⟩
                have h9 := HM.out
                rw [show ny - (j + 1) = m by omega]
                have h8 := hcl.out.2.2
                rw [Nat.sub_self, Nat.pow_zero, Nat.div_one] at h8
                exact lb_limb hcl.out.1 HM.out hcl.out.2.1 (by rw [show m + 1 = ny - j by omega]; exact hbl.out.2) HX2.out h8
        · obtain rfl : j = ny := by omega
          have hbv : bval bs = G := by
            have := hbl.out.2
            rw [Nat.sub_self, Nat.mul_zero, List.drop_zero, List.take_of_length_le (by rw [hY'.out.2.1]; exact Nat.le_refl _), hY'.out.2.2.2.1] at this
            exact this
          have HBV := Lib.hid hbv; clear hbv
          obtain ⟨nn, hnn⟩ : ∃ nn, nn = min b1 b2 := ⟨_, rfl⟩
          have emin : min (b1 : Int) (b2 : Int) = (nn : Int) := by rw [hnn]; omega
          have hnl : nn ≤ 281474976710720 := by omega
          have HNN := Lib.hid hnn; clear hnn
          have hmk := make_bytes (nn / 8 + 1) (by omega)
          have ec : ((nn / 8 + 1 : Nat) : Int) = (nn : Int) / 8 + 1 := by omega
          rw [ec] at hmk
          have t1 : (0 : Int) < (nn : Int) / 8 + 1 := by omega
          obtain ⟨ps, hps⟩ : ∃ ps : List UInt8, ps = UInt8.ofNat (2 ^ (nn % 8)) :: List.replicate (nn / 8) 0 := ⟨_, rfl⟩
          have hcs : (bcells (List.replicate (nn / 8 + 1) 0)).setIfInBounds 0 (Value.int .u8 ((2 : Int) ^ (nn % 8) % 256)) = bcells ps := by
            have h1 : 2 ^ (nn % 8) ≤ 2 ^ 7 := Nat.pow_le_pow_right (by omega) (by omega)
            have h2 : ((2 : Int) ^ (nn % 8) % 256) = ((UInt8.ofNat (2 ^ (nn % 8))).toNat : Int) := by
              rw [UInt8.toNat_ofNat_of_lt' (by simp [UInt8.size]; omega)]
              have h3 : ((2 : Int) ^ (nn % 8)) = ((2 ^ (nn % 8) : Nat) : Int) := by rw [Int.natCast_pow]; rfl
              rw [h3]; generalize 2 ^ (nn % 8) = z at h1 ⊢; omega
            rw [h2, bcells_set, hps, List.replicate_succ]; rfl
          have hpl : ps.length = nn / 8 + 1 := by rw [hps, List.length_cons, List.length_replicate]
          have hpv : bval ps = 2 ^ nn := by rw [hps]; exact bval_power nn
          have hB1 : Blk (wr.alloc (.cells ((bcells (List.replicate (nn / 8 + 1) 0)).setIfInBounds 0 (Value.int .u8 ((2 : Int) ^ (nn % 8) % 256))) 5)) wo.heap.size 5 (bcells bs) := hbs.out.alloc _
          have hB2 : Blk (wr.alloc (.cells ((bcells (List.replicate (nn / 8 + 1) 0)).setIfInBounds 0 (Value.int .u8 ((2 : Int) ^ (nn % 8) % 256))) 5)) wr.heap.size 5 (bcells ps) := hcs ▸ Blk.new _ _ _
          have hst1 := bytes_back _ wo.heap.size (8 * j) bs hbl.out.1.symm (8 * j) _ hB1
          have hst2 := bytes_back _ wr.heap.size (nn / 8 + 1) ps hpl.symm (nn / 8 + 1) _ hB2
          have hW : Below w.heap.size w (wr.alloc (.cells ((bcells (List.replicate (nn / 8 + 1) 0)).setIfInBounds 0 (Value.int .u8 ((2 : Int) ^ (nn % 8) % 256))) 5)) := by
            have h1 := below_next hY'.out.2.2.2.2 hbe.out
            exact h1.alloc h1.size _
          have hgab : 2 ^ nn * G = Nat.gcd a b := by rw [HG.out, HNN.out]
          have hgp : 0 < Nat.gcd a b := Nat.gcd_pos_of_pos_left _ (Nat.pos_of_ne_zero HN.out.1.1)
          have hga := gcd_le' (b := b) (Nat.pos_of_ne_zero HN.out.1.1)
          have hG0 : 0 < G := by
            rcases Nat.eq_zero_or_pos G with h | h
            · rw [h, Nat.mul_zero] at hgab; omega
            · exact h
          have hGl : (bstr G).length ≤ 35184372088832 := Nat.le_trans (len_le_of_le (show G ≤ a from Nat.le_trans (by rw [← hgab]; exact Nat.le_mul_of_pos_left _ (Nat.pow_pos (by omega))) hga)) HN.out.2.1.1
          have hPl : (bstr (2 ^ nn)).length ≤ 35184372088832 := Nat.le_trans (len_le_of_le (show 2 ^ nn ≤ a from Nat.le_trans (by rw [← hgab]; exact Nat.le_mul_of_pos_right _ hG0) hga)) HN.out.2.1.1
          have hM1 : (⟨bs.toArray⟩ : ByteArray).size ≤ maxLen := by show bs.length ≤ _; rw [hbl.out.1]; unfold maxLen; omega
          have hM2 : (⟨ps.toArray⟩ : ByteArray).size ≤ maxLen := by show ps.length ≤ _; rw [hpl]; unfold maxLen; omega
          have HM9 := Lib.hid (And.intro (And.intro hpv (And.intro hM1 hM2)) (And.intro hGl (And.intro hPl (And.intro hgab hW)))); clear hps hcs hpl hpv hB1 hB2 hW hgab hgp hga hG0 hGl hPl hM1 hM2
          go_wp2_with fail
          refine (mul_any ⟨bs.toArray⟩ ⟨ps.toArray⟩ G (2 ^ nn) _ ⟨HBV.out, HM9.out.1.1, HM9.out.1.2.1, HM9.out.1.2.2⟩ HM9.out.2.1 HM9.out.2.2.1).mono ?_
          rw [Nat.mul_comm G, HM9.out.2.2.2.1]
          rintro e w9 ⟨rfl, hb9⟩
          have HB9 := Lib.hid hb9; clear hb9
          go_wp2_with fail
          go_ret
          exact ⟨rfl, below_next HM9.out.2.2.2.2 HB9.out⟩
end Go.Proofs.YtekbpiooecdopaaDoor

/- Walks of package nat: Gcd. -/
namespace Go.Proofs.YtekbpiooecdopaaDoor
open Go.RowKit
set_option linter.unusedVariables false
set_option linter.unusedSimpArgs false

theorem S_cat0 (n : Nat) : S n ++ S 0 = S n := by
  apply ba_eq
  show (S n ++ S 0).data.toList = _
  simp [S]
  rfl
theorem S_0cat (n : Nat) : S 0 ++ S n = S n := by
  apply ba_eq
  show (S 0 ++ S n).data.toList = _
  simp [S]
  rfl
theorem gcd_short {a b : Nat} (h : (bstr b).length ≤ (bstr a).length) (ha : (bstr a).length ≤ 8) : a < 256 ^ 8 ∧ b < 256 ^ 8 := ⟨bstr_length_le.1 ha, bstr_length_le.1 (Nat.le_trans h ha)⟩

set_option maxHeartbeats 4000000 in
set_option maxRecDepth 20000 in
theorem gcd_S (m n : Nat) (w : World) (hm : (bstr m).length ≤ 35184372088832) (hn : (bstr n).length ≤ 35184372088832) (hT : Tab w) :
    Calls Tryd.prog 39 #[.string (S m), .string (S n)] w fun e w' => e = .returned (.string (S (Nat.gcd m n))) ∧ Below w.heap.size w w' := by
  have hmx : (bstr m).length ≤ maxLen := by unfold maxLen; omega
  have hnx : (bstr n).length ≤ maxLen := by unfold maxLen; omega
  have HX := Lib.hid (And.intro (And.intro hm hn) (And.intro hmx (And.intro hnx hT))); clear hm hn hmx hnx hT
  go_enter Tryd.func39, Tryd.ntmps39
  go_wp2_with fail
  refine (trim_S m _ HX.out.2.1).mono ?_
  rintro e w' ⟨rfl, rfl⟩
  go_wp2_with fail
  refine (trim_S n _ HX.out.2.2.1).mono ?_
  rintro e w' ⟨rfl, rfl⟩
  go_wp2_with fail
  go_loopg [0, 1] (m + n) (fun kk s0 s1 wr => ∃ a b : Nat, kk = a + b ∧ s0 = .string (S a) ∧ s1 = .string (S b) ∧ Hid ((bstr a).length ≤ 35184372088832 ∧ (bstr b).length ≤ 35184372088832 ∧ Nat.gcd a b = Nat.gcd m n) ∧ Hid (Below w.heap.size w wr))
  case atStart => exact ⟨m, n, rfl, rfl, rfl, ⟨HX.out.1.1, HX.out.1.2, rfl⟩, Below.refl _ _⟩
  case round =>
    obtain ⟨a, b, hgk, rfl, rfl, hab, hbe⟩ := hrel
    have HGK := Lib.hid hgk; clear hgk
    have hs0 : (S 0).size ≤ 1 := by rw [S_size]; decide
    have hsa : (S a).size ≤ 35184372088832 := by rw [S_size]; exact hab.out.1
    have hsb : (S b).size ≤ 35184372088832 := by rw [S_size]; exact hab.out.2.1
    by_cases ha : a = 0
    · subst ha
      have he : (S 0).toList.isEmpty = true := by rw [S_list]; rfl
      go_wp2_with fail
      go_ret
      exact ⟨by rw [← hab.out.2.2, Nat.gcd_zero_left]; exact congrArg (fun s => Ending.returned (.string s)) (S_0cat b), hbe.out⟩
    · by_cases hb : b = 0
      · subst hb
        have he : (S 0).toList.isEmpty = true := by rw [S_list]; rfl
        have he2 := S_empty_of ha
        go_wp2_with fail
        go_ret
        exact ⟨by rw [← hab.out.2.2, Nat.gcd_zero_right]; exact congrArg (fun s => Ending.returned (.string s)) (S_cat0 a), hbe.out⟩
      · have he := S_empty_of ha
        have he2 := S_empty_of hb
        go_upto_if 22 with (fail)
        go_cut [0, 1] (fun s0 s1 wc => wr = wc ∧ ∃ a' b', s0 = .string (S a') ∧ s1 = .string (S b') ∧ Hid ((bstr a').length ≤ 35184372088832 ∧ (bstr b').length ≤ 35184372088832 ∧ Nat.gcd a' b' = Nat.gcd m n ∧ a' ≠ 0 ∧ b' ≠ 0 ∧ a' + b' = a + b ∧ (bstr b').length ≤ (bstr a').length))
        case first =>
          by_cases hlt : (S a).size < (S b).size
          · go_wp2_with fail
            go_meet
            exact ⟨rfl, b, a, rfl, rfl, hab.out.2.1, hab.out.1, by rw [Nat.gcd_comm]; exact hab.out.2.2, hb, ha, Nat.add_comm _ _, by rw [S_size, S_size] at hlt; omega⟩
          · go_wp2_with fail
            go_meet
            exact ⟨rfl, a, b, rfl, rfl, hab.out.1, hab.out.2.1, hab.out.2.2, ha, hb, rfl, by rw [S_size, S_size] at hlt; omega⟩
        case rest =>
          obtain ⟨rfl, a', b', rfl, rfl, hc⟩ := hcut
          clear he he2 hs0 hsa hsb ha hb
          have hsa : (S a').size ≤ 35184372088832 := by rw [S_size]; exact hc.out.1
          have hsb : (S b').size ≤ 35184372088832 := by rw [S_size]; exact hc.out.2.1
          by_cases h8 : (bstr a').length ≤ 8
          · have hs8 : (S a').size ≤ 8 := by rw [S_size]; exact h8
            have hb8 : (bstr b').length ≤ 8 := Nat.le_trans hc.out.2.2.2.2.2.2 h8
            have hl := gcd_short hc.out.2.2.2.2.2.2 h8
            have HL := Lib.hid (And.intro (And.intro h8 hb8) hl); clear h8 hb8 hl
            go_wp2_with fail
            refine (short_S a' _ HL.out.1.1).mono ?_
            rintro e w' ⟨rfl, rfl⟩
            go_wp2_with fail
            refine (short_S b' _ HL.out.1.2).mono ?_
            rintro e w' ⟨rfl, rfl⟩
            go_wp2_with fail
            refine (common_any a' b' _ HL.out.2.1 HL.out.2.2).mono ?_
            rintro e w' ⟨rfl, nq, rfl⟩
            go_wp2_with fail
            refine (fromShort_any (Nat.gcd a' b') _ (Nat.lt_of_le_of_lt (gcd_le' (Nat.pos_of_ne_zero hc.out.2.2.2.1)) HL.out.2.1)).mono ?_
            rintro e w5 ⟨rfl, hb5⟩
            have HB5 := Lib.hid hb5; clear hb5
            go_wp2_with fail
            go_ret
            exact ⟨by rw [hc.out.2.2.1]; rfl, below_next (below_drewN hbe.out _) HB5.out⟩
          · have hs8 : ¬ (S a').size ≤ 8 := by rw [S_size]; exact h8
            clear h8
            by_cases hh : (bstr a').length ≤ (bstr b').length + 8
            · have hsh : (S a').size ≤ (S b').size + 8 := by rw [S_size, S_size]; exact hh
              clear hh
              go_wp2_with fail
              refine (halves_any a' b' _ hc.out.2.2.2.1 hc.out.2.2.2.2.1 hc.out.1 hc.out.2.1 (HX.out.2.2.2.next hbe.out)).mono ?_
              rintro e w5 ⟨rfl, hb5⟩
              have HB5 := Lib.hid hb5; clear hb5
              go_wp2_with fail
              go_ret
              exact ⟨by rw [hc.out.2.2.1]; rfl, below_next hbe.out HB5.out⟩
            · have hsh : ¬ (S a').size ≤ (S b').size + 8 := by rw [S_size, S_size]; exact hh
              clear hh
              go_wp2_with fail
              refine (div_S a' b' _ hc.out.2.2.2.2.1 hc.out.1 hc.out.2.1).mono ?_
              rintro e w5 ⟨rfl, hb5⟩
              have HB5 := Lib.hid hb5; clear hb5
              go_wp2_with fail
              have hml : a' % b' < b' := Nat.mod_lt _ (Nat.pos_of_ne_zero hc.out.2.2.2.2.1)
              have hba : b' ≤ a' := by
                refine Nat.le_of_not_lt fun h => ?_
                have := len_le_of_le (Nat.le_of_lt h)
                rw [S_size, S_size] at hsh; omega
              go_roundg (b' + a' % b')
              case measure => rw [HGK.out]; have := hc.out.2.2.2.2.2.1; omega
              case rel => exact ⟨b', a' % b', rfl, rfl, rfl, ⟨hc.out.2.1, Nat.le_trans (len_le_of_le (Nat.mod_le _ _)) hc.out.1, by rw [← hc.out.2.2.1, Nat.gcd_comm b', ← Nat.gcd_rec, Nat.gcd_comm]⟩, below_next hbe.out HB5.out⟩
end Go.Proofs.YtekbpiooecdopaaDoor

/- The de Bruijn table, from a row that lists it first. -/
namespace Go.Proofs.YtekbpiooecdopaaDoor
open Go.RowKit
set_option linter.unusedVariables false

theorem tab_data : (Rows.laid_math_bits_deBruijn64tab : DataW Unit) = Lib.tabData .u8 (Lib.deBruijn64tab.map fun (n : Nat) => (n : Int)) := by kernel_rfl
theorem tab_of {rest : List (String × DataW Unit)} {W : World} (hp : ((("math/bits.deBruijn64tab", Rows.laid_math_bits_deBruijn64tab) :: rest).filter fun x => x.2.handleName?.isSome) = []) (h : laidMetH Tryd.prog (("math/bits.deBruijn64tab", Rows.laid_math_bits_deBruijn64tab) :: rest) W) : Tab W := by
  unfold laidMetH at h
  rw [hp, tab_data] at h
  have h1 := Lib.tabIs_of_head (g := 1) (by kernel_rfl) (by kernel_rfl) Tryd.underlying140 Tryd.underlying5 (by kernel_rfl) (by kernel_rfl) h
  have hc : ∀ j, j < 64 → W.cell? ⟨1, j, none⟩ = some (.int .u8 ((Lib.deBruijn64tab.getD j 0 : Nat) : Int)) := fun j hj => by
    have h2 := h1.cell (g := 1) (by kernel_rfl) j (by rw [List.length_map]; exact hj)
    rw [h2]
    have hj2 : j < Lib.deBruijn64tab.length := hj
    simp [List.getD_eq_getElem?_getD, List.getElem?_map, List.getElem?_eq_getElem hj2]
  exact ⟨World.block_lt_of_cell? W _ (hc 0 (by omega)), hc⟩
end Go.Proofs.YtekbpiooecdopaaDoor

/- The walk of NatDivisors. -/
namespace Go.Proofs.YtekbpiooecdopaaDoor
open Go.RowKit
set_option linter.unusedVariables false
set_option linter.unusedSimpArgs false


end Go.Proofs.YtekbpiooecdopaaDoor
