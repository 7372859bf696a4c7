/- Joined texts: NatQ NatR NatS. -/
import Derived.Test.YtmchjmflkaiakaaGreatDoorBunNatA
/- Long division, digit by digit (base 2^32). No program in sight. -/
set_option maxHeartbeats 1000000
set_option maxRecDepth 20000
namespace Go.Proofs.YtmchjmflkaiakaaGreatDoor
open Go.RowKit
set_option linter.unusedVariables false
set_option linter.unusedSimpArgs false
structure Est (B P W V v1 v2 top u2 : Nat) : Prop where
 hB : 2 ≤ B
 hP : 0 < P
 v1B : v1 < B
 v1h : B ≤ 2 * v1
 v2B : v2 < B
 u2B : u2 < B
 vlo : (v1 * B + v2) * P ≤ V
 vhi : V < (v1 * B + v2 + 1) * P
 wlo : (top * B + u2) * P ≤ W
 whi : W < (top * B + u2 + 1) * P
 wV : W < V * B
section
variable {B P W V v1 v2 top u2 : Nat}
theorem Est.vpos (h : Est B P W V v1 v2 top u2) : 0 < V := by
 have h1 : 0 < v1 := by have := h.v1h; have := h.hB; omega
 have h2 : 0 < (v1 * B + v2) * P := Nat.mul_pos (Nat.lt_of_lt_of_le (Nat.mul_pos h1 (by have := h.hB; omega)) (Nat.le_add_right _ _)) h.hP
 exact Nat.lt_of_lt_of_le h2 h.vlo
theorem Est.top_lt (h : Est B P W V v1 v2 top u2) : top < (v1 + 1) * B := by
 have h1 : (top * B + u2) * P < (v1 * B + v2 + 1) * P * B := Nat.lt_of_le_of_lt h.wlo (Nat.lt_of_lt_of_le h.wV (Nat.mul_le_mul_right _ (Nat.le_of_lt h.vhi)))
 have h2 : top * B + u2 < (v1 * B + v2 + 1) * B := by
  rw [Nat.mul_right_comm] at h1
  exact Nat.lt_of_mul_lt_mul_right h1
 have h3 : (v1 * B + v2 + 1) * B ≤ ((v1 + 1) * B) * B := Nat.mul_le_mul_right _ (by rw [Nat.add_mul, Nat.one_mul]; have := h.v2B; omega)
 have h4 : top * B < (v1 + 1) * B * B := by omega
 exact Nat.lt_of_mul_lt_mul_right h4
theorem Est.first (h : Est B P W V v1 v2 top u2) : W / V ≤ top / v1 := by
 have h1 : 0 < v1 := by have := h.v1h; have := h.hB; omega
 rw [Nat.le_div_iff_mul_le h1]
 have h2 : W / V * V ≤ W := Nat.div_mul_le_self W V
 have h3 : W / V * ((v1 * B + v2) * P) < (top * B + u2 + 1) * P := Nat.lt_of_le_of_lt (Nat.le_trans (Nat.mul_le_mul_left _ h.vlo) h2) h.whi
 rw [← Nat.mul_assoc] at h3
 have h4 := Nat.lt_of_mul_lt_mul_right h3
 rw [Nat.mul_add, ← Nat.mul_assoc] at h4
 have h5 : W / V * v1 * B < (top + 1) * B := by rw [Nat.add_mul, Nat.one_mul]; have := h.u2B; omega
 have := Nat.lt_of_mul_lt_mul_right h5
 omega
theorem Est.lt (h : Est B P W V v1 v2 top u2) : W / V < B := by
 rw [Nat.div_lt_iff_lt_mul h.vpos, Nat.mul_comm]; exact h.wV
theorem Est.refuse (h : Est B P W V v1 v2 top u2) {d rest : Nat} (hd : W / V ≤ d) (hr : d * v1 + rest = top) (ht : B ≤ d ∨ rest * B + u2 < d * v2) : W / V ≤ d - 1 := by
 rcases ht with ht | ht
 ·have := h.lt; omega
 ·have h2 : W / V * V ≤ W := Nat.div_mul_le_self W V
  have h3 : W / V * ((v1 * B + v2) * P) < (top * B + u2 + 1) * P := Nat.lt_of_le_of_lt (Nat.le_trans (Nat.mul_le_mul_left _ h.vlo) h2) h.whi
  rw [← Nat.mul_assoc] at h3
  have h4 := Nat.lt_of_mul_lt_mul_right h3
  have h5 : top * B + u2 < d * (v1 * B + v2) := by
   rw [← hr, Nat.mul_add, Nat.add_mul, ← Nat.mul_assoc]; omega
  have h6 : W / V * (v1 * B + v2) < d * (v1 * B + v2) := by omega
  have := Nat.lt_of_mul_lt_mul_right h6
  omega
theorem Est.pass (h : Est B P W V v1 v2 top u2) {d rest : Nat} (hdB : d < B) (hr : d * v1 + rest = top) (ht : d * v2 ≤ rest * B + u2) : d * V < W + V := by
 have h1 : d * (v1 * B + v2) ≤ top * B + u2 := by
  rw [← hr, Nat.mul_add, Nat.add_mul, ← Nat.mul_assoc]; omega
 have h2 : d * (v1 * B + v2) * P ≤ W := Nat.le_trans (Nat.mul_le_mul_right _ h1) h.wlo
 have h3 : d * V ≤ d * ((v1 * B + v2 + 1) * P) := Nat.mul_le_mul_left _ (Nat.le_of_lt h.vhi)
 have h4 : d * ((v1 * B + v2 + 1) * P) = d * (v1 * B + v2) * P + d * P := by rw [← Nat.mul_assoc, Nat.mul_add, Nat.mul_one, Nat.add_mul]
 have h5 : d * P < V := by
  have h6 : d * P < B * P := Nat.mul_lt_mul_of_pos_right hdB h.hP
  have h7 : 1 * B ≤ v1 * B := Nat.mul_le_mul_right _ (by have := h.v1h; have := h.hB; omega)
  have h8 : B * P ≤ (v1 * B + v2) * P := Nat.mul_le_mul_right _ (by omega)
  have := h.vlo
  omega
 omega
theorem Est.brk (h : Est B P W V v1 v2 top u2) {d rest : Nat} (hr : d * v1 + rest = top) (hb : B ≤ rest) : d < B := by
 have h1 := h.top_lt
 rw [Nat.add_mul, Nat.one_mul] at h1
 have h2 : d * v1 < v1 * B := by omega
 rw [Nat.mul_comm v1 B] at h2
 exact Nat.lt_of_mul_lt_mul_right h2
theorem Est.brk_pass (h : Est B P W V v1 v2 top u2) {d rest : Nat} (hr : d * v1 + rest = top) (hb : B ≤ rest) : d * v2 ≤ rest * B + u2 := by
 have h1 := h.brk hr hb
 have h2 : d * v2 ≤ B * B := Nat.mul_le_mul (Nat.le_of_lt h1) (Nat.le_of_lt h.v2B)
 have h3 : B * B ≤ rest * B := Nat.mul_le_mul_right _ hb
 omega
theorem Est.d_le (h : Est B P W V v1 v2 top u2) : top / v1 < 2 * B + 2 := by
 have h1 : 0 < v1 := by have := h.v1h; have := h.hB; omega
 rw [Nat.div_lt_iff_lt_mul h1]
 have h2 := h.top_lt
 rw [Nat.add_mul, Nat.one_mul] at h2
 have h3 : (2 * B + 2) * v1 = v1 * B + v1 * B + 2 * v1 := by rw [Nat.add_mul, Nat.mul_comm v1 B, Nat.two_mul, Nat.add_mul]
 have := h.v1h
 have h4 : v1 * B + v1 * B + 2 * v1 ≥ v1 * B + B := by omega
 omega
end
theorem digit_eq {W V d : Nat} (hV : 0 < V) (h1 : W / V ≤ d) (h2 : d * V < W + V) (h3 : ¬ W < d * V) : W / V = d ∧ W - d * V = W % V := by
 have h4 : d ≤ W / V := (Nat.le_div_iff_mul_le hV).2 (Nat.le_of_not_lt h3)
 have e : W / V = d := Nat.le_antisymm h1 h4
 have := Nat.div_add_mod W V
 rw [e, Nat.mul_comm] at this
 exact ⟨e, by omega⟩
theorem digit_less {W V d : Nat} (hV : 0 < V) (h1 : W / V ≤ d) (h2 : d * V < W + V) (h3 : W < d * V) : 1 ≤ d ∧ W / V = d - 1 ∧ W + V - d * V = W % V := by
 have hd : 1 ≤ d := by
  rcases Nat.eq_zero_or_pos d with h | h
  ·subst h; omega
  ·exact h
 obtain ⟨c, rfl⟩ : ∃ c, d = c + 1 := ⟨d - 1, by omega⟩
 rw [Nat.add_mul, Nat.one_mul] at h2 h3 ⊢
 have h4 : c ≤ W / V := (Nat.le_div_iff_mul_le hV).2 (by omega)
 have h5 : W / V < c + 1 := by rw [Nat.div_lt_iff_lt_mul hV, Nat.add_mul, Nat.one_mul]; exact h3
 have e : W / V = c := by omega
 have := Nat.div_add_mod W V
 rw [e, Nat.mul_comm] at this
 exact ⟨hd, by omega, by omega⟩
theorem take_step {L D U B p c z x bw bw' c' : Nat} (h : L + D = U + B * (c + bw)) (hz : z + 4294967296 * ((c + p) / 4294967296) + (c + p) % 4294967296 + bw = x + 4294967296 * bw' + 4294967296 * ((c + p) / 4294967296)) (hc : c' = (c + p) / 4294967296) :
  (L + B * z) + (D + B * p) = (U + B * x) + B * 4294967296 * (c' + bw') := by
 subst hc
 have e : z + (c + p) + bw = x + 4294967296 * bw' + 4294967296 * ((c + p) / 4294967296) := by omega
 have h2 := congrArg (B * ·) e
 simp only [Nat.mul_add] at h2
 rw [Nat.mul_add] at h
 rw [Nat.mul_add, Nat.mul_assoc, Nat.mul_assoc]
 omega
theorem left_step {L X B b w c lo hi : Nat} (h : L + B * c = X * b) (hw : w * b = lo + 4294967296 * hi) : (L + B * (lo + c)) + B * 4294967296 * hi = (X + B * w) * b := by
 rw [Nat.add_mul, Nat.mul_assoc B w b, hw, ← h]
 simp only [Nat.mul_add, Nat.mul_assoc]
 omega
theorem win_get {pre win post : List Nat} {i x : Nat} (h : win[i]? = some x) : (pre ++ win ++ post)[pre.length + i]? = some x := by
 have hl := (List.getElem?_eq_some_iff.1 h).1
 rw [List.append_assoc, List.getElem?_append_right (by omega), Nat.add_sub_cancel_left, List.getElem?_append_left hl, h]
theorem win_set {pre win post : List Nat} {i x : Nat} (h : i < win.length) : (pre ++ win ++ post).set (pre.length + i) x = pre ++ win.set i x ++ post := by
 rw [List.append_assoc, List.set_append_right _ _ (by omega), Nat.add_sub_cancel_left, List.set_append_left _ _ h, List.append_assoc]
theorem ts_word {x b y : Nat} (hx : x < 4294967296) (hb : b ≤ 1) (hy : y < 4294967296) : IntKind.u64.wrap (IntKind.u64.wrap ((x : Int) - y) - b) % 4294967296 = ((sbW x b y : Nat) : Int) := by
 rw [IntKind.wrap_u64, IntKind.wrap_u64]; unfold sbW; split <;> omega
theorem ts_borrow {x b y : Nat} (hx : x < 4294967296) (hb : b ≤ 1) (hy : y < 4294967296) : IntKind.u64.wrap (IntKind.u64.wrap ((x : Int) - y) - b) / 9223372036854775808 = ((sbB x b y : Nat) : Int) := by
 rw [IntKind.wrap_u64, IntKind.wrap_u64]; unfold sbB; split <;> omega
theorem takeAway_any (pre win post vs : List Nat) (g n k cu cv d : Nat) (Av : Option Addr) (w : World) (hk : k = pre.length) (hn : n = vs.length) (hwl : win.length = n + 1) (hn2 : n ≤ 35184372088832) (hd : d < 4294967296) (hw1 : Wok win) (hw2 : Wok vs)
  (hb : Blk w g 159 (wcells (pre ++ win ++ post))) (hv : WAt w w.heap.size Av vs) (hne : ∀ b off, Av = some ⟨b, off, none⟩ → b ≠ g) :
  Calls Tryz.prog 191 #[.slice (some ⟨g, k, none⟩) ((n + 1 : Nat)) cu, .slice Av n cv, .int .u64 d] w fun e w' => ∃ neg zs, e = .returned (.bool neg) ∧ w.grownBy w' (some g) ∧ Blk w' g 159 (wcells (pre ++ zs ++ post)) ∧ zs.length = n + 1 ∧ Wok zs ∧ wval zs + d * wval vs = wval win + 4294967296 ^ (n + 1) * neg.toNat := by
 have HN := yh (And.intro hk (And.intro hn hwl)); clear hk hn hwl
 have HV := yh hv; clear hv
 have HNE := yh hne; clear hne
 have HOK := yh (And.intro hw1 hw2); clear hw1 hw2
 have HB := yh hb; clear hb
 go_enter Tryz.func191, Tryz.ntmps191
 go_wp2_with fail
 go_loopg [7, 8, 15] n (fun kk cy bo i wr => ∃ (p c b : Nat) (zs : List Nat), kk = n - p ∧ p ≤ n ∧ c < 4294967296 ∧ b ≤ 1 ∧ cy = .int .u64 c ∧ bo = .int .u64 b ∧ i = .int .i64 p ∧ Hid (w.grownBy wr (some g)) ∧ Hid (Blk wr g 159 (wcells (pre ++ zs ++ post))) ∧ Hid (zs.length = n + 1 ∧ Wok zs ∧ zs.drop p = win.drop p ∧ wval (zs.take p) + d * wval (vs.take p) = wval (win.take p) + 4294967296 ^ p * (c + b)))
 case atStart => exact ⟨0, 0, 0, win, rfl, Nat.zero_le _, by omega, by omega, rfl, rfl, rfl, World.grownBy.refl _ _, HB.out, HN.out.2.2, HOK.out.1, rfl, by rw [List.take_zero, List.take_zero]; rfl⟩
 case round =>
  obtain ⟨p, c, b, zs, hgk, hp, hc, hbb, rfl, rfl, rfl, hgr, hblk, hzs⟩ := hrel
  have HGK := yh hgk; clear hgk
  by_cases hlt : p < n
  ·obtain ⟨v, hvv⟩ := get_of_lt HN.out.2.1 hlt
   obtain ⟨gv, off, rfl, hgv, h0⟩ := HV.out p v hvv
   have c1 := (hgr.out.block gv hgv (fun e => HNE.out gv off rfl (Option.some.inj e)))
   have c2 : wr.cell? ⟨gv, off + p, none⟩ = some (.int .u32 v) := (World.cell?_of_block c1).trans h0
   obtain ⟨x, hx⟩ := get_of_lt hzs.out.1.symm (show p < n + 1 by omega)
   have c3 := (hblk.out.cell (pre.length + p)).trans (wcells_get (win_get hx))
   rw [← HN.out.1] at c3
   have f0 := hblk.out.frozen (k + p)
   have hvlt := HOK.out.2.get hvv
   have hxlt := hzs.out.2.1.get hx
   have HX := yh (And.intro hvv hx); clear hvv hx c1 h0
   have hm : d * v ≤ 18446744065119617025 := by
    have : d * v ≤ 4294967295 * 4294967295 := Nat.mul_le_mul (by omega) (by omega)
    omega
   have hm1 : (d : Int) * v ≤ 18446744065119617025 := by rw [← Int.natCast_mul]; omega
   have hm0 : 0 ≤ (d : Int) * v := by rw [← Int.natCast_mul]; omega
   have HM := yh hm; clear hm
   go_wp2_with fail
   have em : (c : Int) + (d : Int) * (v : Int) = ((c + d * v : Nat) : Int) := by rw [Int.natCast_add, Int.natCast_mul]
   have em2 : (((c + d * v : Nat) : Int)) % 4294967296 = (((c + d * v) % 4294967296 : Nat) : Int) := by omega
   have em3 : (((c + d * v : Nat) : Int)) / 4294967296 = (((c + d * v) / 4294967296 : Nat) : Int) := by omega
   have hylt : (c + d * v) % 4294967296 < 4294967296 := Nat.mod_lt _ (by omega)
   have hc'lt : (c + d * v) / 4294967296 < 4294967296 := by have := HM.out; omega
   rw [em, em2, em3, ts_borrow hxlt hbb hylt, ts_word hxlt hbb hylt]
   go_roundg (n - (p + 1))
   case measure => rw [HGK.out]; omega
   case rel =>
    obtain ⟨z1, z2, z3, z4⟩ := hzs.out
    obtain ⟨hs1, hs2, hs3⟩ := sb_sum hxlt hbb hylt
    refine ⟨p + 1, (c + d * v) / 4294967296, sbB x b ((c + d * v) % 4294967296), zs.set p (sbW x b ((c + d * v) % 4294967296)), rfl, by omega, hc'lt, hs3, rfl, rfl, by go_num, grown_set hgr.out _ _, ?_, by rw [List.length_set]; exact z1, z2.set _ hs2, ?_, ?_⟩
    ·have h1 := hblk.out.set_ (pre.length + p) (.int .u32 (sbW x b ((c + d * v) % 4294967296)))
     rw [wcells_set, win_set (by rw [z1]; omega)] at h1
     rw [HN.out.1]; exact h1
    ·rw [List.drop_set_of_lt (by omega)]
     have := congrArg (List.drop 1) z3
     rwa [List.drop_drop, List.drop_drop] at this
    ·have hwx : win[p]? = some x := by
      have h1 := congrArg (fun l => l[0]?) z3
      simp only [List.getElem?_drop, Nat.add_zero] at h1
      rw [← h1]; exact HX.out.2
     have h2 : (zs.set p (sbW x b ((c + d * v) % 4294967296)))[p]? = some (sbW x b ((c + d * v) % 4294967296)) := List.getElem?_set_self (by rw [z1]; omega)
     rw [wval_take_succ h2, List.take_set_of_le (Nat.le_refl _), wval_take_succ hwx, wval_take_succ HX.out.1, Nat.pow_succ, Nat.mul_add]
     have h3 : d * (4294967296 ^ p * v) = 4294967296 ^ p * (d * v) := Nat.mul_left_comm _ _ _
     rw [h3]
     exact take_step z4 (by omega) rfl
  ·obtain rfl : p = n := by omega
   obtain ⟨x, hx⟩ := get_of_lt hzs.out.1.symm (show p < p + 1 by omega)
   have c3 := (hblk.out.cell (pre.length + p)).trans (wcells_get (win_get hx))
   rw [← HN.out.1] at c3
   have f0 := hblk.out.frozen (k + p)
   have hxlt := hzs.out.2.1.get hx
   have HX := yh hx; clear hx hlt
   go_wp2_with fail
   rw [ts_borrow hxlt hbb hc, ts_word hxlt hbb hc]
   go_ret
   obtain ⟨hs1, hs2, hs3⟩ := sb_sum hxlt hbb hc
   obtain ⟨z1, z2, z3, z4⟩ := hzs.out
   refine ⟨decide (0 < sbB x b c), zs.set p (sbW x b c), ?_, grown_set hgr.out _ _, ?_, by rw [List.length_set]; exact z1, z2.set _ hs2, ?_⟩
   ·have : decide ((0 : Int) < ((sbB x b c : Nat) : Int)) = decide (0 < sbB x b c) := by simp
    rw [← this]; rfl
   ·have h1 := hblk.out.set_ (pre.length + p) (.int .u32 (sbW x b c))
    rw [wcells_set, win_set (by rw [z1]; omega)] at h1
    rw [HN.out.1]; exact h1
   ·have e1 : (decide (0 < sbB x b c)).toNat = sbB x b c := by
     unfold sbB; split <;> rfl
    have hwx : win[p]? = some x := by
     have h1 := congrArg (fun l => l[0]?) z3
     simp only [List.getElem?_drop, Nat.add_zero] at h1
     rw [← h1]; exact HX.out
    have h2 : (zs.set p (sbW x b c))[p]? = some (sbW x b c) := List.getElem?_set_self (by rw [z1]; omega)
    have h3 : wval (zs.set p (sbW x b c)) = wval (zs.take p) + 4294967296 ^ p * sbW x b c := by
     have := wval_take_succ h2
     rw [List.take_of_length_le (by rw [List.length_set, z1]; exact Nat.le_refl _), List.take_set_of_le (Nat.le_refl _)] at this
     exact this
    have h4 : wval win = wval (win.take p) + 4294967296 ^ p * x := by
     have := wval_take_succ hwx
     rw [List.take_of_length_le (by rw [HN.out.2.2]; exact Nat.le_refl _)] at this
     exact this
    rw [List.take_of_length_le (show vs.length ≤ p by rw [← HN.out.2.1]; exact Nat.le_refl _)] at z4
    rw [e1, h3, h4, Nat.pow_succ]
    have h5 := congrArg (4294967296 ^ p * ·) hs1
    simp only [Nat.mul_add] at h5
    rw [Nat.mul_add] at z4
    rw [Nat.mul_assoc]
    omega
theorem put_step {L U D B c x v z c' : Nat} (h : L + B * c = U + D) (hz : c + (x + v) = z + 4294967296 * c') : (L + B * z) + B * 4294967296 * c' = (U + B * x) + (D + B * v) := by
 have h2 := congrArg (B * ·) hz
 simp only [Nat.mul_add] at h2
 rw [Nat.mul_assoc]
 omega
theorem putBack_any (pre win post vs : List Nat) (g n k cu cv : Nat) (Av : Option Addr) (w : World) (hk : k = pre.length) (hn : n = vs.length) (hwl : win.length = n + 1) (hn2 : n ≤ 35184372088832) (hw1 : Wok win) (hw2 : Wok vs)
  (hb : Blk w g 159 (wcells (pre ++ win ++ post))) (hv : WAt w w.heap.size Av vs) (hne : ∀ b off, Av = some ⟨b, off, none⟩ → b ≠ g) :
  Calls Tryz.prog 192 #[.slice (some ⟨g, k, none⟩) ((n + 1 : Nat)) cu, .slice Av n cv] w fun e w' => e = .returned (.tuple #[]) ∧ ∃ cc zs, w.grownBy w' (some g) ∧ Blk w' g 159 (wcells (pre ++ zs ++ post)) ∧ zs.length = n + 1 ∧ Wok zs ∧ wval zs + 4294967296 ^ (n + 1) * cc = wval win + wval vs := by
 have HN := yh (And.intro hk (And.intro hn hwl)); clear hk hn hwl
 have HV := yh hv; clear hv
 have HNE := yh hne; clear hne
 have HOK := yh (And.intro hw1 hw2); clear hw1 hw2
 have HB := yh hb; clear hb
 go_enter Tryz.func192, Tryz.ntmps192
 go_wp2_with fail
 go_loopg [4, 9] n (fun kk cy i wr => ∃ (p c : Nat) (zs : List Nat), kk = n - p ∧ p ≤ n ∧ c ≤ 1 ∧ cy = .int .u64 c ∧ i = .int .i64 p ∧ Hid (w.grownBy wr (some g)) ∧ Hid (Blk wr g 159 (wcells (pre ++ zs ++ post))) ∧ Hid (zs.length = n + 1 ∧ Wok zs ∧ zs.drop p = win.drop p ∧ wval (zs.take p) + 4294967296 ^ p * c = wval (win.take p) + wval (vs.take p)))
 case atStart => exact ⟨0, 0, win, rfl, Nat.zero_le _, by omega, rfl, rfl, World.grownBy.refl _ _, HB.out, HN.out.2.2, HOK.out.1, rfl, rfl⟩
 case round =>
  obtain ⟨p, c, zs, hgk, hp, hc, rfl, rfl, hgr, hblk, hzs⟩ := hrel
  have HGK := yh hgk; clear hgk
  by_cases hlt : p < n
  ·obtain ⟨v, hvv⟩ := get_of_lt HN.out.2.1 hlt
   obtain ⟨gv, off, rfl, hgv, h0⟩ := HV.out p v hvv
   have c1 := (hgr.out.block gv hgv (fun e => HNE.out gv off rfl (Option.some.inj e)))
   have c2 : wr.cell? ⟨gv, off + p, none⟩ = some (.int .u32 v) := (World.cell?_of_block c1).trans h0
   obtain ⟨x, hx⟩ := get_of_lt hzs.out.1.symm (show p < n + 1 by omega)
   have c3 := (hblk.out.cell (pre.length + p)).trans (wcells_get (win_get hx))
   rw [← HN.out.1] at c3
   have f0 := hblk.out.frozen (k + p)
   have hvlt := HOK.out.2.get hvv
   have hxlt := hzs.out.2.1.get hx
   have HX := yh (And.intro hvv hx); clear hvv hx c1 h0
   go_wp2_with fail
   have em2 : ((c : Int) + ((x : Int) + (v : Int))) % 4294967296 = (((c + (x + v)) % 4294967296 : Nat) : Int) := by omega
   have em3 : ((c : Int) + ((x : Int) + (v : Int))) / 4294967296 = (((c + (x + v)) / 4294967296 : Nat) : Int) := by omega
   rw [em2, em3]
   go_roundg (n - (p + 1))
   case measure => rw [HGK.out]; omega
   case rel =>
    obtain ⟨z1, z2, z3, z4⟩ := hzs.out
    refine ⟨p + 1, (c + (x + v)) / 4294967296, zs.set p ((c + (x + v)) % 4294967296), rfl, by omega, by omega, rfl, by go_num, grown_set hgr.out _ _, ?_, by rw [List.length_set]; exact z1, z2.set _ (Nat.mod_lt _ (by omega)), ?_, ?_⟩
    ·have h1 := hblk.out.set_ (pre.length + p) (.int .u32 (((c + (x + v)) % 4294967296 : Nat) : Int))
     rw [wcells_set, win_set (by rw [z1]; omega)] at h1
     rw [HN.out.1]; exact h1
    ·rw [List.drop_set_of_lt (by omega)]
     have := congrArg (List.drop 1) z3
     rwa [List.drop_drop, List.drop_drop] at this
    ·have hwx : win[p]? = some x := by
      have h1 := congrArg (fun l => l[0]?) z3
      simp only [List.getElem?_drop, Nat.add_zero] at h1
      rw [← h1]; exact HX.out.2
     have h2 : (zs.set p ((c + (x + v)) % 4294967296))[p]? = some ((c + (x + v)) % 4294967296) := List.getElem?_set_self (by rw [z1]; omega)
     rw [wval_take_succ h2, List.take_set_of_le (Nat.le_refl _), wval_take_succ hwx, wval_take_succ HX.out.1, Nat.pow_succ]
     exact put_step z4 (by omega)
  ·obtain rfl : p = n := by omega
   obtain ⟨x, hx⟩ := get_of_lt hzs.out.1.symm (show p < p + 1 by omega)
   have c3 := (hblk.out.cell (pre.length + p)).trans (wcells_get (win_get hx))
   rw [← HN.out.1] at c3
   have f0 := hblk.out.frozen (k + p)
   have hxlt := hzs.out.2.1.get hx
   have HX := yh hx; clear hx hlt
   go_wp2_with fail
   have em : ((x : Int) + (c : Int)) % 4294967296 = (((x + c) % 4294967296 : Nat) : Int) := by omega
   rw [em]
   go_end0
   obtain ⟨z1, z2, z3, z4⟩ := hzs.out
   refine ⟨rfl, (x + c) / 4294967296, zs.set p ((x + c) % 4294967296), grown_set hgr.out _ _, ?_, by rw [List.length_set]; exact z1, z2.set _ (Nat.mod_lt _ (by omega)), ?_⟩
   ·have h1 := hblk.out.set_ (pre.length + p) (.int .u32 (((x + c) % 4294967296 : Nat) : Int))
    rw [wcells_set, win_set (by rw [z1]; omega)] at h1
    rw [HN.out.1]; exact h1
   ·have hwx : win[p]? = some x := by
     have h1 := congrArg (fun l => l[0]?) z3
     simp only [List.getElem?_drop, Nat.add_zero] at h1
     rw [← h1]; exact HX.out
    have h2 : (zs.set p ((x + c) % 4294967296))[p]? = some ((x + c) % 4294967296) := List.getElem?_set_self (by rw [z1]; omega)
    have h3 : wval (zs.set p ((x + c) % 4294967296)) = wval (zs.take p) + 4294967296 ^ p * ((x + c) % 4294967296) := by
     have := wval_take_succ h2
     rw [List.take_of_length_le (by rw [List.length_set, z1]; exact Nat.le_refl _), List.take_set_of_le (Nat.le_refl _)] at this
     exact this
    have h4 : wval win = wval (win.take p) + 4294967296 ^ p * x := by
     have := wval_take_succ hwx
     rw [List.take_of_length_le (by rw [HN.out.2.2]; exact Nat.le_refl _)] at this
     exact this
    rw [List.take_of_length_le (show vs.length ≤ p by rw [← HN.out.2.1]; exact Nat.le_refl _)] at z4
    rw [h3, h4, Nat.pow_succ]
    have := put_step (v := 0) z4 (show c + (x + 0) = (x + c) % 4294967296 + 4294967296 * ((x + c) / 4294967296) by omega)
    rw [Nat.mul_zero, Nat.add_zero] at this
    omega
end Go.Proofs.YtmchjmflkaiakaaGreatDoor
