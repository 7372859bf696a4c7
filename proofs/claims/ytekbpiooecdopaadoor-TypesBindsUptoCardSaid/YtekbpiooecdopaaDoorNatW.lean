/- Joined texts. -/
import Derived.Test.YtekbpiooecdopaaDoorNatQ
import Derived.Test.YtekbpiooecdopaaDoorBunNatA

/- Long division: the state between two digits, and the shift back of the rest. No program in sight. -/
namespace Go.Proofs.YtekbpiooecdopaaDoor
open Go.RowKit
set_option linter.unusedVariables false
set_option linter.unusedSimpArgs false

theorem lg_split (U : List Nat) (k n : Nat) : U = U.take k ++ (U.drop k).take (n + 1) ++ U.drop (k + n + 1) := by
  rw [List.append_assoc, show k + n + 1 = k + (n + 1) by omega, ← List.drop_drop, List.take_append_drop, List.take_append_drop]
theorem lg_val {pre win post : List Nat} {k n : Nat} (hk : pre.length = k) (hn : win.length = n + 1) : wval (pre ++ win ++ post) = wval pre + 4294967296 ^ k * wval win + 4294967296 ^ (k + (n + 1)) * wval post := by
  rw [wval_append, wval_append, List.length_append, hk, hn]
/-- what stands above the window is 0 -/
theorem lg_post {pre win post : List Nat} {k n V : Nat} (hk : pre.length = k) (hn : win.length = n + 1) (h : wval (pre ++ win ++ post) < 4294967296 ^ (k + 1) * V) (hV : V < 4294967296 ^ n) : wval post = 0 := by
  rw [lg_val hk hn] at h
  rcases Nat.eq_zero_or_pos (wval post) with h0 | h0
  · exact h0
  · have h1 : 4294967296 ^ (k + (n + 1)) * 1 ≤ 4294967296 ^ (k + (n + 1)) * wval post := Nat.mul_le_mul_left _ h0
    have h2 : 4294967296 ^ (k + 1) * V ≤ 4294967296 ^ (k + 1) * 4294967296 ^ n := Nat.mul_le_mul_left _ (Nat.le_of_lt hV)
    rw [← Nat.pow_add, show k + 1 + n = k + (n + 1) by omega] at h2
    omega
theorem lg_win {pre win post : List Nat} {k n V : Nat} (hk : pre.length = k) (hn : win.length = n + 1) (h : wval (pre ++ win ++ post) < 4294967296 ^ (k + 1) * V) : wval win < V * 4294967296 := by
  rw [lg_val hk hn, Nat.pow_succ, Nat.mul_assoc] at h
  have h1 : 4294967296 ^ k * wval win < 4294967296 ^ k * (4294967296 * V) := by omega
  rw [Nat.mul_comm V]
  exact Nat.lt_of_mul_lt_mul_left h1
/-- the next state -/
theorem lg_next {pre win zs post : List Nat} {k n V U0 d Qh : Nat} (hok : Wok pre) (hk : pre.length = k) (hn : win.length = n + 1) (hz : zs.length = n + 1) (hV : V < 4294967296 ^ n) (hV0 : 0 < V)
    (h : wval (pre ++ win ++ post) < 4294967296 ^ (k + 1) * V) (h0 : U0 = wval (pre ++ win ++ post) + V * (4294967296 ^ (k + 1) * Qh))
    (hd : wval win = V * d + wval zs) (hr : wval zs < V) :
    wval (pre ++ zs ++ post) < 4294967296 ^ k * V ∧ U0 = wval (pre ++ zs ++ post) + V * (4294967296 ^ k * (d + 4294967296 * Qh)) := by
  have hp := lg_post hk hn h hV
  rw [lg_val hk hn, hp, Nat.mul_zero, Nat.add_zero] at h0
  rw [lg_val hk hz, hp, Nat.mul_zero, Nat.add_zero]
  have hpl := wval_lt hok
  rw [hk] at hpl
  refine ⟨?_, ?_⟩
  · have h1 : 4294967296 ^ k * (wval zs + 1) ≤ 4294967296 ^ k * V := Nat.mul_le_mul_left _ hr
    rw [Nat.mul_add, Nat.mul_one] at h1
    omega
  · rw [h0, hd, Nat.pow_succ]
    grind
theorem lg_digit {Q : List Nat} {k d : Nat} (hk : k < Q.length) : wval ((Q.set k d).drop k) = d + 4294967296 * wval (Q.drop (k + 1)) := by
  have h1 : (Q.set k d).drop k = d :: (Q.set k d).drop (k + 1) := by
    rw [List.drop_eq_getElem_cons (by rw [List.length_set]; exact hk)]
    simp
  rw [h1, List.drop_set_of_lt (by omega)]
  rfl
/-- at the end -/
theorem lg_end {X Y p R Q : Nat} (hp : 0 < p) (hY : 0 < Y) (h : R < Y * p) (h0 : X * p = R + Y * p * Q) : Q = X / Y ∧ R = X % Y * p := by
  have h1 : X * p / (Y * p) = Q := by
    rw [h0, Nat.add_mul_div_left _ _ (Nat.mul_pos hY hp), Nat.div_eq_of_lt h, Nat.zero_add]
  have h2 : X * p % (Y * p) = R := by
    rw [h0, Nat.add_mul_mod_self_left, Nat.mod_eq_of_lt h]
  rw [Nat.mul_div_mul_right _ _ hp] at h1
  rw [Nat.mul_mod_mul_right] at h2
  exact ⟨h1.symm, h2.symm⟩
theorem lg_begin {X Y p yt n m : Nat} (hX : X < 4294967296 ^ m) (hp : p ≤ 2147483648) (hy : 4294967296 ^ (n - 1) * yt ≤ Y) (hn : 1 ≤ n) (hnm : n ≤ m) (h1 : 2147483648 ≤ yt * p) : X * p < 4294967296 ^ (m + 1 - n) * (Y * p) := by
  have h2 : 4294967296 ^ (n - 1) * (yt * p) ≤ Y * p := by rw [← Nat.mul_assoc]; exact Nat.mul_le_mul_right _ hy
  have h3 : 4294967296 ^ (n - 1) * 2147483648 ≤ Y * p := Nat.le_trans (Nat.mul_le_mul_left _ h1) h2
  have h4 := Nat.mul_le_mul_left (4294967296 ^ (m + 1 - n)) h3
  rw [← Nat.mul_assoc, ← Nat.pow_add, show m + 1 - n + (n - 1) = m by omega] at h4
  have h5 : X * p ≤ X * 2147483648 := Nat.mul_le_mul_left _ hp
  have h6 : X * 2147483648 < 4294967296 ^ m * 2147483648 := Nat.mul_lt_mul_of_pos_right hX (by omega)
  omega
/-- the high digits of a number -/
theorem lg_top2 {V : List Nat} {n a b : Nat} (hok : Wok V) (hl : V.length = n) (hn : 2 ≤ n) (h1 : V[n - 1]? = some a) (h2 : V[n - 2]? = some b) :
    (a * 4294967296 + b) * 4294967296 ^ (n - 2) ≤ wval V ∧ wval V < (a * 4294967296 + b + 1) * 4294967296 ^ (n - 2) := by
  have e1 := wval_take_succ h1
  rw [show n - 1 + 1 = n by omega, List.take_of_length_le (by omega)] at e1
  have e2 := wval_take_succ h2
  rw [show n - 2 + 1 = n - 1 by omega] at e2
  have e3 := wval_lt (hok.take (n - 2))
  rw [List.length_take, Nat.min_eq_left (by omega)] at e3
  rw [e1, e2, show n - 1 = n - 2 + 1 by omega, Nat.pow_succ]
  generalize 4294967296 ^ (n - 2) = P at *
  constructor <;> grind
theorem lg_top3 {W : List Nat} {n a b c : Nat} (hok : Wok W) (hl : W.length = n + 1) (hn : 2 ≤ n) (h0 : W[n]? = some a) (h1 : W[n - 1]? = some b) (h2 : W[n - 2]? = some c) :
    ((a * 4294967296 + b) * 4294967296 + c) * 4294967296 ^ (n - 2) ≤ wval W ∧ wval W < ((a * 4294967296 + b) * 4294967296 + c + 1) * 4294967296 ^ (n - 2) := by
  have e0 := wval_take_succ h0
  rw [List.take_of_length_le (by omega)] at e0
  have e1 := wval_take_succ h1
  rw [show n - 1 + 1 = n by omega] at e1
  have e2 := wval_take_succ h2
  rw [show n - 2 + 1 = n - 1 by omega] at e2
  have e3 := wval_lt (hok.take (n - 2))
  rw [List.length_take, Nat.min_eq_left (by omega)] at e3
  rw [e0, e1, e2, show 4294967296 ^ n = 4294967296 ^ (n - 2) * 4294967296 * 4294967296 by rw [← Nat.pow_succ, ← Nat.pow_succ]; congr 1; omega, show 4294967296 ^ (n - 1) = 4294967296 ^ (n - 2) * 4294967296 by rw [← Nat.pow_succ]; congr 1; omega]
  generalize 4294967296 ^ (n - 2) = P at *
  constructor <;> grind
theorem lg_est {vs win : List Nat} {n v1 v2 a b c : Nat} (hv : Wok vs) (hw : Wok win) (hvl : vs.length = n) (hwl : win.length = n + 1) (hn : 2 ≤ n)
    (hv1 : vs[n - 1]? = some v1) (hv2 : vs[n - 2]? = some v2) (h0 : win[n]? = some a) (h1 : win[n - 1]? = some b) (h2 : win[n - 2]? = some c) (hh : 4294967296 ≤ 2 * v1) (hW : wval win < wval vs * 4294967296) :
    Est 4294967296 (4294967296 ^ (n - 2)) (wval win) (wval vs) v1 v2 (a * 4294967296 + b) c := by
  obtain ⟨p1, p2⟩ := lg_top2 hv hvl hn hv1 hv2
  obtain ⟨p3, p4⟩ := lg_top3 hw hwl hn h0 h1 h2
  exact ⟨by omega, Nat.pow_pos (by omega), hv.get hv1, hh, hv.get hv2, hw.get h2, p1, p2, p3, p4, hW⟩
/-- the number's top digit is small when the number is -/
theorem lg_high {U : List Nat} {n : Nat} (h : wval U < 4294967296 ^ n) {i x : Nat} (hi : n ≤ i) (hx : U[i]? = some x) : x = 0 := by
  have h1 := wval_ge hx
  rcases Nat.eq_zero_or_pos x with h0 | h0
  · exact h0
  · have h2 : 4294967296 ^ n ≤ 4294967296 ^ i := Nat.pow_le_pow_right (by omega) hi
    have h3 : 4294967296 ^ i * 1 ≤ 4294967296 ^ i * x := Nat.mul_le_mul_left _ h0
    omega
theorem lg_low {U : List Nat} {n : Nat} (h : wval U < 4294967296 ^ n) (hn : n ≤ U.length) : wval (U.take n) = wval U := by
  have h1 : wval U = wval (U.take n) + 4294967296 ^ n * wval (U.drop n) := by
    have h2 := wval_append (U.take n) (U.drop n)
    rw [List.take_append_drop, List.length_take, Nat.min_eq_left hn] at h2
    exact h2
  rcases Nat.eq_zero_or_pos (wval (U.drop n)) with h0 | h0
  · rw [h1, h0, Nat.mul_zero, Nat.add_zero]
  · have h3 : 4294967296 ^ n * 1 ≤ 4294967296 ^ n * wval (U.drop n) := Nat.mul_le_mul_left _ h0
    omega
/-- one digit shifted back: x the digit, y the next one -/
theorem lg_shift {x y b : Nat} (hb : b ≤ 31) : 2 ^ b * (x / 2 ^ b + y * 2 ^ (32 - b) % 4294967296) + x % 2 ^ b = x + 4294967296 * (y % 2 ^ b) := by
  have e : (4294967296 : Nat) = 2 ^ (32 - b) * 2 ^ b := by rw [← Nat.pow_add, show 32 - b + b = 32 by omega]
  have h1 : y * 2 ^ (32 - b) % 4294967296 = 2 ^ (32 - b) * (y % 2 ^ b) := by
    conv => lhs; rw [e, Nat.mul_comm y]
    rw [Nat.mul_mod_mul_left]
  have h2 := Nat.div_add_mod x (2 ^ b)
  rw [h1]
  have h3 : 2 ^ b * (2 ^ (32 - b) * (y % 2 ^ b)) = 4294967296 * (y % 2 ^ b) := by
    rw [← Nat.mul_assoc, Nat.mul_comm (2 ^ b), ← e]
  rw [Nat.mul_add, h3]; omega
theorem lg_shift_step {Z U B p x z cx c0 cy : Nat} (h : p * Z + c0 = U + B * cx) (hz : p * z + cx = x + 4294967296 * cy) : p * (Z + B * z) + c0 = (U + B * x) + B * 4294967296 * cy := by
  have h2 := congrArg (B * ·) hz
  simp only [Nat.mul_add] at h2
  have h3 : p * (B * z) = B * (p * z) := Nat.mul_left_comm _ _ _
  rw [Nat.mul_add, h3, Nat.mul_assoc]
  omega
theorem lg_shift_end {Z p c0 R r : Nat} (hp : 0 < p) (hc : c0 < p) (h : p * Z + c0 = R) (hr : R = r * p) : Z = r := by
  have h1 : (p * Z + c0) / p = Z := by rw [Nat.mul_add_div hp, Nat.div_eq_of_lt hc, Nat.add_zero]
  rw [h, hr, Nat.mul_div_cancel _ hp] at h1
  exact h1.symm
/-- the shifted divisor -/
theorem lg_div {Y : List Nat} {V : List Nat} {n b yt : Nat} (hY : Wok Y) (hYl : n = Y.length) (hn : 2 ≤ n) (hyt : Y[n - 1]? = some yt) (hb : b ≤ 31) (hb1 : 2147483648 ≤ yt * 2 ^ b) (hb2 : yt * 2 ^ b < 4294967296)
    (hVl : V.length = n + 1) (hV : Wok V) (hv : wval V = wval Y * 2 ^ b) :
    (V.take n).length = n ∧ Wok (V.take n) ∧ wval (V.take n) = wval Y * 2 ^ b ∧ 0 < wval (V.take n) ∧ wval (V.take n) < 4294967296 ^ n ∧ 4294967296 ^ (n - 1) * yt ≤ wval Y ∧ ∀ v1, (V.take n)[n - 1]? = some v1 → 4294967296 ≤ 2 * v1 := by
  have h1 := wval_take_succ hyt
  rw [show n - 1 + 1 = n by omega, List.take_of_length_le (by omega)] at h1
  have h2 := wval_lt (hY.take (n - 1))
  rw [List.length_take, Nat.min_eq_left (by omega)] at h2
  have hp : (4294967296 : Nat) = 2 ^ (32 - b) * 2 ^ b := by rw [← Nat.pow_add, show 32 - b + b = 32 by omega]
  have hp0 : 0 < 2 ^ b := Nat.pow_pos (by omega)
  have h3 : (yt + 1) * 2 ^ b ≤ 4294967296 := by
    rw [hp] at hb2 ⊢
    exact Nat.mul_le_mul_right _ (Nat.lt_of_mul_lt_mul_right hb2)
  have e4 : 4294967296 ^ n = 4294967296 ^ (n - 1) * 4294967296 := by rw [← Nat.pow_succ]; congr 1; omega
  have hlt : wval V < 4294967296 ^ n := by
    rw [hv, h1, e4]
    have h5 : (wval (Y.take (n - 1)) + 4294967296 ^ (n - 1) * yt) * 2 ^ b < (4294967296 ^ (n - 1) * (yt + 1)) * 2 ^ b := Nat.mul_lt_mul_of_pos_right (by rw [Nat.mul_add, Nat.mul_one]; omega) hp0
    have h6 : (4294967296 ^ (n - 1) * (yt + 1)) * 2 ^ b ≤ 4294967296 ^ (n - 1) * 4294967296 := by rw [Nat.mul_assoc]; exact Nat.mul_le_mul_left _ h3
    omega
  have hlow := lg_low hlt (by omega)
  have hge : 4294967296 ^ (n - 1) * 2147483648 ≤ wval V := by
    rw [hv, h1]
    have h5 : 4294967296 ^ (n - 1) * 2147483648 ≤ 4294967296 ^ (n - 1) * (yt * 2 ^ b) := Nat.mul_le_mul_left _ hb1
    rw [← Nat.mul_assoc] at h5
    have h6 : (4294967296 ^ (n - 1) * yt) * 2 ^ b ≤ (wval (Y.take (n - 1)) + 4294967296 ^ (n - 1) * yt) * 2 ^ b := Nat.mul_le_mul_right _ (Nat.le_add_left _ _)
    omega
  have hP0 : 0 < 4294967296 ^ (n - 1) := Nat.pow_pos (by omega)
  refine ⟨by rw [List.length_take]; omega, hV.take n, by rw [hlow, hv], by rw [hlow]; omega, by rw [hlow]; exact hlt, by omega, ?_⟩
  intro v1 hv1
  have h7 := wval_take_succ hv1
  rw [show n - 1 + 1 = n by omega, List.take_take, Nat.min_self, List.take_take, Nat.min_eq_left (by omega), hlow] at h7
  have h8 := wval_lt (hV.take (n - 1))
  rw [List.length_take, Nat.min_eq_left (by omega)] at h8
  have h9 : 4294967296 ^ (n - 1) * 2147483648 < 4294967296 ^ (n - 1) * (v1 + 1) := by rw [Nat.mul_add, Nat.mul_one]; omega
  have := Nat.lt_of_mul_lt_mul_left h9
  omega
theorem lg_take_get {V : List Nat} {n i x : Nat} (h : (V.take n)[i]? = some x) : V[i]? = some x := by
  rw [List.getElem?_take] at h
  split at h
  · exact h
  · cases h
theorem lg_win_get {U : List Nat} {j n i x : Nat} (hi : i ≤ n) (h : U[j + i]? = some x) : ((U.drop j).take (n + 1))[i]? = some x := by
  rw [List.getElem?_take, if_pos (by omega), List.getElem?_drop]; exact h
theorem lg_est' {U vs : List Nat} {n p j v1 v2 a b c : Nat} (hU : Wok U) (hv : Wok vs) (hvl : vs.length = n) (hUl : U.length = n + p + 1) (hn : 2 ≤ n) (hj : j ≤ p)
    (hv1 : vs[n - 1]? = some v1) (hv2 : vs[n - 2]? = some v2) (h0 : U[j + n]? = some a) (h1 : U[j + n - 1]? = some b) (h2 : U[j + n - 2]? = some c) (hh : 4294967296 ≤ 2 * v1) (hV : wval vs < 4294967296 ^ n) (hW : wval U < 4294967296 ^ (j + 1) * wval vs) :
    Est 4294967296 (4294967296 ^ (n - 2)) (wval ((U.drop j).take (n + 1))) (wval vs) v1 v2 (a * 4294967296 + b) c := by
  have hwl : ((U.drop j).take (n + 1)).length = n + 1 := by rw [List.length_take, List.length_drop]; omega
  refine lg_est hv ((hU.drop j).take (n + 1)) hvl hwl hn hv1 hv2 (lg_win_get (Nat.le_refl _) h0) (lg_win_get (by omega) (by rw [← h1]; congr 1; omega)) (lg_win_get (by omega) (by rw [← h2]; congr 1; omega)) hh ?_
  have hs := lg_split U j n
  rw [hs] at hW
  exact lg_win (by rw [List.length_take]; omega) hwl hW
theorem lg_dec {d v t T : Nat} (h1 : 1 ≤ d) (h : d * v + t = T) : (d - 1) * v + (t + v) = T := by
  obtain ⟨c, rfl⟩ : ∃ c, d = c + 1 := ⟨d - 1, by omega⟩
  rw [Nat.add_mul, Nat.one_mul] at h
  rw [Nat.add_sub_cancel]; omega
theorem lg_pos {d v M L : Nat} (hM : M = d * v) (h : L < M) : 1 ≤ d := by
  rcases Nat.eq_zero_or_pos d with h0 | h0
  · subst h0; rw [Nat.zero_mul] at hM; omega
  · exact h0
theorem lg_fit {W V d z : Nat} (hV : 0 < V) (h1 : W / V ≤ d) (h2 : d * V < W + V) (hz : z + d * V = W) : W / V = d ∧ z = W % V := by
  obtain ⟨e1, e2⟩ := digit_eq hV h1 h2 (by omega)
  exact ⟨e1, by omega⟩
theorem lg_over {W V d z z' cc Bn : Nat} (hV : 0 < V) (h1 : W / V ≤ d) (h2 : d * V < W + V) (hz : z + d * V = W + Bn) (hzl : z < Bn) (hp : z' + Bn * cc = z + V) (hz'l : z' < Bn) (hVB : V < Bn) : 1 ≤ d ∧ W / V = d - 1 ∧ z' = W % V := by
  obtain ⟨e0, e1, e2⟩ := digit_less hV h1 h2 (by omega)
  refine ⟨e0, e1, ?_⟩
  have hm : W % V < V := Nat.mod_lt _ hV
  have h3 : z' + Bn * cc = W % V + Bn := by omega
  rcases Nat.lt_trichotomy cc 1 with hc | hc | hc
  · obtain rfl : cc = 0 := by omega
    omega
  · subst hc; omega
  · have : Bn * 2 ≤ Bn * cc := Nat.mul_le_mul_left _ hc
    omega
theorem lg_fit0 {W V d z Bn : Nat} (hV : 0 < V) (h1 : W / V ≤ d) (h2 : d * V < W + V) (hz : z + d * V = W + Bn * Bool.toNat false) : W / V = d ∧ z = W % V :=
  lg_fit hV h1 h2 (by simpa using hz)
theorem lg_over1 {W V d z z' cc Bn : Nat} (hV : 0 < V) (h1 : W / V ≤ d) (h2 : d * V < W + V) (hz : z + d * V = W + Bn * Bool.toNat true) (hzl : z < Bn) (hp : z' + Bn * cc = z + V) (hz'l : z' < Bn) (hVB : V < Bn) : 1 ≤ d ∧ W / V = d - 1 ∧ z' = W % V :=
  lg_over hV h1 h2 (by simpa using hz) hzl hp hz'l hVB
theorem lg_lt_next {V n : Nat} (h : V < 4294967296 ^ n) : V < 4294967296 ^ (n + 1) := Nat.lt_of_lt_of_le h (Nat.pow_le_pow_right (by omega) (Nat.le_succ _))
theorem lg_len {z : List Nat} {n : Nat} (h : Wok z) (hl : z.length = n) : wval z < 4294967296 ^ n := hl ▸ wval_lt h
theorem lg_round {U zs Q : List Nat} {n p j d V U0 : Nat} (hst : U.length = n + p + 1 ∧ Wok U ∧ Q.length = p + 1 ∧ Wok Q ∧ wval U < 4294967296 ^ (j + 1) * V ∧ U0 = wval U + V * (4294967296 ^ (j + 1) * wval (Q.drop (j + 1))))
    (hj : j ≤ p) (hV : V < 4294967296 ^ n) (hV0 : 0 < V) (hzl : zs.length = n + 1) (hz : Wok zs) (hd : wval ((U.drop j).take (n + 1)) / V = d) (hr : wval zs = wval ((U.drop j).take (n + 1)) % V) (hdl : d < 4294967296) :
    (U.take j ++ zs ++ U.drop (j + n + 1)).length = n + p + 1 ∧ Wok (U.take j ++ zs ++ U.drop (j + n + 1)) ∧ (Q.set j d).length = p + 1 ∧ Wok (Q.set j d) ∧ wval (U.take j ++ zs ++ U.drop (j + n + 1)) < 4294967296 ^ j * V ∧ U0 = wval (U.take j ++ zs ++ U.drop (j + n + 1)) + V * (4294967296 ^ j * wval ((Q.set j d).drop j)) := by
  obtain ⟨h1, h2, h3, h4, h5, h6⟩ := hst
  have hs := lg_split U j n
  have hwl : ((U.drop j).take (n + 1)).length = n + 1 := by rw [List.length_take, List.length_drop]; omega
  have hpl : (U.take j).length = j := by rw [List.length_take]; omega
  rw [hs] at h5 h6
  have hm := Nat.div_add_mod (wval ((U.drop j).take (n + 1))) V
  rw [hd, ← hr] at hm
  obtain ⟨k1, k2⟩ := lg_next (zs := zs) (h2.take j) hpl hwl hzl hV hV0 h5 h6 hm.symm (by rw [hr]; exact Nat.mod_lt _ hV0)
  refine ⟨by simp only [List.length_append, hpl, hzl, List.length_drop]; omega, ((h2.take j).append hz).append (h2.drop _), by rw [List.length_set]; exact h3, h4.set _ hdl, k1, ?_⟩
  rw [lg_digit (by omega)]
  exact k2
/-- the digits shifted back -/
theorem lg_or {x y b : Nat} (hb : b ≤ 31) (hx : x < 4294967296) : bits .or .u32 (((x / 2 ^ b : Nat)) : Int) (((y * 2 ^ (32 - b) % 4294967296 : Nat)) : Int) = ((x / 2 ^ b + y * 2 ^ (32 - b) % 4294967296 : Nat) : Int) := by
  have e : (4294967296 : Nat) = 2 ^ (32 - b) * 2 ^ b := by rw [← Nat.pow_add, show 32 - b + b = 32 by omega]
  have h1 : x / 2 ^ b < 2 ^ (32 - b) := by
    rw [Nat.div_lt_iff_lt_mul (Nat.pow_pos (by omega)), ← e]; exact hx
  have h2 : y * 2 ^ (32 - b) % 4294967296 % 2 ^ (32 - b) = 0 := by
    rw [Nat.mod_mod_of_dvd _ ⟨2 ^ b, e⟩]; exact Nat.mul_mod_left _ _
  have h3 : x / 2 ^ b ≤ x := Nat.div_le_self _ _
  rw [u32_or_nat _ _ (by omega) (Nat.mod_lt _ (by omega)), Nat.or_comm, nat_join (32 - b) _ _ h2 h1, Nat.add_comm]
theorem lg_or_lt {x y b : Nat} (hb : b ≤ 31) (hx : x < 4294967296) : x / 2 ^ b + y * 2 ^ (32 - b) % 4294967296 < 4294967296 := by
  have h := lg_shift (x := x) (y := y) hb
  have e : (4294967296 : Nat) = 2 ^ b * 2 ^ (32 - b) := by rw [← Nat.pow_add, show b + (32 - b) = 32 by omega]
  have hp : 0 < 2 ^ b := Nat.pow_pos (by omega)
  have h1 : y % 2 ^ b + 1 ≤ 2 ^ b := Nat.mod_lt _ hp
  have h2 : 4294967296 * (y % 2 ^ b) + 4294967296 ≤ 4294967296 * 2 ^ b := by have := Nat.mul_le_mul_left 4294967296 h1; rw [Nat.mul_add, Nat.mul_one] at this; exact this
  have h3 : 2 ^ b * (x / 2 ^ b + y * 2 ^ (32 - b) % 4294967296) < 2 ^ b * 4294967296 := by rw [Nat.mul_comm (2 ^ b) 4294967296]; omega
  exact Nat.lt_of_mul_lt_mul_left h3
theorem lg_back {Z U : List Nat} {i L x y b c0 : Nat} (hb : b ≤ 31) (hZl : Z.length = L) (hi : i < L) (hx : U[i]? = some x) (h : 2 ^ b * wval (Z.take i) + c0 = wval (U.take i) + 4294967296 ^ i * (x % 2 ^ b)) :
    2 ^ b * wval ((Z.set i (x / 2 ^ b + y * 2 ^ (32 - b) % 4294967296)).take (i + 1)) + c0 = wval (U.take (i + 1)) + 4294967296 ^ (i + 1) * (y % 2 ^ b) := by
  have h2 : (Z.set i (x / 2 ^ b + y * 2 ^ (32 - b) % 4294967296))[i]? = some (x / 2 ^ b + y * 2 ^ (32 - b) % 4294967296) := List.getElem?_set_self (by omega)
  rw [wval_take_succ h2, List.take_set_of_le (Nat.le_refl _), wval_take_succ hx, Nat.pow_succ]
  exact lg_shift_step h (lg_shift hb)
theorem lg_drop_get {Z U : List Nat} {i k x : Nat} (h : Z.drop i = U.drop i) (hx : Z[k]? = some x) (hk : i ≤ k) : U[k]? = some x := by
  have h1 := congrArg (fun l => l[k - i]?) h
  simp only [List.getElem?_drop, show i + (k - i) = k by omega] at h1
  rw [← h1]; exact hx
theorem lg_wrap {y b : Nat} (hy : y < 4294967296) : IntKind.u64.wrap ((y : Int) * 2 ^ (32 - b)) % 4294967296 = ((y * 2 ^ (32 - b) % 4294967296 : Nat) : Int) := by
  have h1 : 2 ^ (32 - b) ≤ 2 ^ 32 := Nat.pow_le_pow_right (by omega) (Nat.sub_le _ _)
  have h2 : y * 2 ^ (32 - b) ≤ 4294967295 * 4294967296 := Nat.mul_le_mul (by omega) h1
  have h3 : (y : Int) * 2 ^ (32 - b) = ((y * 2 ^ (32 - b) : Nat) : Int) := by rw [Int.natCast_mul, Int.natCast_pow]; rfl
  rw [h3, u64_wrap_nat (by omega)]; omega
theorem lg_ctr (j : Nat) : (j = 0 ∧ Value.int .i64 ((j : Int) - 1) = .int .i64 (-1)) ∨ ∃ i : Nat, j = i + 1 ∧ Value.int .i64 ((j : Int) - 1) = .int .i64 (i : Int) := by
  cases j with
  | zero => exact .inl ⟨rfl, rfl⟩
  | succ i => exact .inr ⟨i, rfl, by rw [show (((i + 1 : Nat) : Int) - 1) = (i : Int) by omega]⟩
theorem or32 {a b : Nat} (ha : a < 4294967296) (hb : b < 4294967296) : bits .or .u64 ((a : Int) * 4294967296) (b : Int) = ((a * 4294967296 + b : Nat) : Int) := by
  have e : (a : Int) * 4294967296 = ((a * 4294967296 : Nat) : Int) := by omega
  rw [e, u64_or_nat (a * 4294967296) b (by omega) (by omega), nat_join 32 (a * 4294967296) b (by omega) (by omega)]
end Go.Proofs.YtekbpiooecdopaaDoor
