/- Walks of package nat: evens, below, minus. -/
import Derived.Test.YtlfddhiimcophaaDoorNatLc
import Derived.Deep.QuietTactic
import Derived.BigQuiet
import Derived.Shelf.Spec.BitsCarry
namespace Go.Proofs.YtlfddhiimcophaaDoor
open Go.RowKit
set_option linter.unusedVariables false
set_option linter.unusedSimpArgs false

theorem ev_odd {x R t q i : Nat} (ht : t < 64) (hx : x = 2 ^ t * (2 * q + 1)) : 18446744073709551616 ^ i * (x + 18446744073709551616 * R) = 2 ^ (64 * i + t) * (2 * (q + 2 ^ (63 - t) * R) + 1) := by
  have e1 : (18446744073709551616 : Nat) = 2 ^ t * (2 * 2 ^ (63 - t)) := by
    rw [← Nat.pow_succ', ← Nat.pow_add, show t + (63 - t + 1) = 64 by omega]
  have e2 : (18446744073709551616 : Nat) ^ i = 2 ^ (64 * i) := by
    rw [show (18446744073709551616 : Nat) = 2 ^ 64 from rfl, ← Nat.pow_mul]
  rw [e2, Nat.pow_add, hx]
  conv => lhs; rw [e1]
  generalize 2 ^ (64 * i) = P
  generalize 2 ^ t = Q
  generalize 2 ^ (63 - t) = T
  grind

set_option maxHeartbeats 1000000 in
theorem evens_any (X : List Nat) (A : Option Addr) (n c : Nat) (w : World) (hn : n = X.length) (hn2 : n ≤ 35184372088832) (hok : Lok X) (h0 : lval X ≠ 0) (h : LAt w w.heap.size A X) (hT : Tab w) :
    Calls Tryd.prog 78 #[.slice A n c] w fun e w' => (∃ b q : Nat, e = .returned (.int .i64 b) ∧ b < 64 * n ∧ lval X = 2 ^ b * (2 * q + 1)) ∧ w = w' := by
  have HN := Lib.hid (And.intro hn (And.intro hok (And.intro h0 (And.intro h hT)))); clear hn hok h0 h hT
  go_enter Tryd.func78, Tryd.ntmps78
  go_wp2_with fail
  go_loopg [3] n (fun kk x wr => ∃ (i : Nat), kk = n - i ∧ i < n ∧ x = .int .i64 (i : Nat) ∧ Hid (∀ j < i, X[j]? = some 0) ∧ w = wr)
  case atStart =>
    refine ⟨0, rfl, ?_, rfl, (fun j hj => absurd hj (Nat.not_lt_zero _)), rfl⟩
    rcases Nat.eq_zero_or_pos n with h | h
    · rw [HN.out.1] at h
      exact absurd (by rw [List.eq_nil_of_length_eq_zero h]; rfl) HN.out.2.2.1
    · exact h
  case round =>
    obtain ⟨i, hgk, hi, rfl, hz, rfl⟩ := hrel
    have HGK := Lib.hid hgk; clear hgk
    obtain ⟨x, hx⟩ := get_of_lt HN.out.1 hi
    obtain ⟨gx, off, rfl, hgx, c0⟩ := HN.out.2.2.2.1 i x hx
    have hxl := HN.out.2.1.get hx
    have HX := Lib.hid hx; clear hx
    by_cases h0 : x = 0
    · subst h0
      have hi1 : i + 1 < n := by
        rcases Nat.lt_or_ge (i + 1) n with h | h
        · exact h
        · refine absurd (lval_all_zero (X := X) fun j hj => ?_) HN.out.2.2.1
          rw [← HN.out.1] at hj
          rcases Nat.lt_or_ge j i with h1 | h1
          · exact hz.out j h1
          · rw [show j = i by omega]; exact HX.out
      go_wp2_with fail
      go_roundg (n - (i + 1))
      case measure => rw [HGK.out]; omega
      case rel => exact ⟨i + 1, rfl, hi1, by go_num, forall_lt_succ hz.out HX.out, rfl⟩
    · have hz1 : ((x : Int) == 0) = false := by rw [beq_eq_false_iff_ne]; omega
      have hz2 : (x == 0) = false := by rw [beq_eq_false_iff_ne]; omega
      go_wp2_with fail
      refine (tz64_any x _ hxl h0 HN.out.2.2.2.2).mono ?_
      rintro e w' ⟨⟨t, q, rfl, ht, hq⟩, rfl⟩
      have HQ := Lib.hid hq; clear hq
      go_wp2_with fail
      go_ret
      exact ⟨⟨64 * i + t, _, by go_num, by omega, (lval_low hz.out HX.out).trans (ev_odd ht HQ.out)⟩, rfl⟩

set_option maxHeartbeats 1000000 in
theorem below_walk (X Y : List Nat) (A B : Option Addr) (m n c d : Nat) (w : World) (hm : m = X.length) (hn : n = Y.length) (hm2 : m ≤ 35184372088832) (hn2 : n ≤ 35184372088832) (hX : Lok X) (hY : Lok Y) (tX : Tp X) (tY : Tp Y)
    (hx : LAt w w.heap.size A X) (hy : LAt w w.heap.size B Y) :
    Calls Tryd.prog 80 #[.slice A m c, .slice B n d] w fun e w' => e = .returned (.bool (decide (lval X < lval Y))) ∧ ∃ k, w' = w.drewN k := by
  have HN := Lib.hid (And.intro (And.intro hm hn) (And.intro (And.intro hX hY) (And.intro hx hy))); clear hx hy
  rcases Nat.lt_trichotomy m n with h | h | h
  · have hr : decide (lval X < lval Y) = true := decide_eq_true (lval_lt_of_len hX tY (by omega))
    rw [hr]
    have h1 : (m == n) = false := by rw [beq_eq_false_iff_ne]; omega
    have h2 : ((m : Int) == n) = false := by rw [beq_eq_false_iff_ne]; omega
    clear hm hn hX hY tX tY hr
    go_enter Tryd.func80, Tryd.ntmps80
    go_wp2_with fail
    go_ret
    exact ⟨by first | (simp; done) | (simp; omega), 0, rfl⟩
  · obtain rfl : m = n := h
    clear hX hY tX tY hm hn
    go_enter Tryd.func80, Tryd.ntmps80
    go_wp2_with fail
    go_loopg [5] m (fun kk i wr => ∃ j p : Nat, kk = j ∧ j ≤ m ∧ i = .int .i64 ((j : Int) - 1) ∧ Hid (X.drop j = Y.drop j) ∧ w.drewN p = wr)
    case atStart =>
      refine ⟨m, 0, rfl, Nat.le_refl _, rfl, ?_, rfl⟩
      show X.drop m = Y.drop m
      rw [List.drop_of_length_le (by rw [← HN.out.1.1]; exact Nat.le_refl _), List.drop_of_length_le (by rw [← HN.out.1.2]; exact Nat.le_refl _)]
    case round =>
      obtain ⟨j, p, hgk, hj, rfl, hd, rfl⟩ := hrel
      have HGK := Lib.hid hgk; clear hgk
      rcases j with _ | j
      · have e0 : ((0 : Nat) : Int) - 1 = -1 := rfl
        rw [e0]; clear e0
        have hr : decide (lval X < lval Y) = false := by
          have h1 := hd.out
          rw [List.drop_zero, List.drop_zero] at h1
          rw [h1]; exact decide_eq_false (Nat.lt_irrefl _)
        have HR := Lib.hid hr; clear hr
        go_wp2_with fail
        go_ret
        exact ⟨by rw [HR.out]; rfl, p, rfl⟩
      · rw [show (((j + 1 : Nat) : Int) - 1) = (j : Int) by omega]
        obtain ⟨x, hxx⟩ := get_of_lt HN.out.1.1 (show j < m by omega)
        obtain ⟨y, hyy⟩ := get_of_lt HN.out.1.2 (show j < m by omega)
        obtain ⟨g1, o1, rfl, hg1, c1⟩ := HN.out.2.2.1 j x hxx
        obtain ⟨g2, o2, rfl, hg2, c2⟩ := HN.out.2.2.2 j y hyy
        have hxl := HN.out.2.1.1.get hxx
        have hyl := HN.out.2.1.2.get hyy
        have i1 : (j : Int) < (m : Int) := by omega
        have HXY := Lib.hid (And.intro hxx hyy); clear hxx hyy
        by_cases he : x = y
        · subst he
          go_wp2_with fail
          go_quiet (fail)
          go_wp2_with fail
          go_roundg j
          case measure => rw [HGK.out]; omega
          case rel =>
            refine ⟨j, _, rfl, by omega, rfl, ?_, by first | rfl | exact (World.drewN_drewN _ _ _).symm⟩
            have h1 := (List.getElem?_eq_some_iff.1 HXY.out.1)
            have h2 := (List.getElem?_eq_some_iff.1 HXY.out.2)
            show X.drop j = Y.drop j
            rw [List.drop_eq_getElem_cons h1.1, List.drop_eq_getElem_cons h2.1, hd.out, h1.2, h2.2]
        · have hz1 : ((x : Int) == (y : Int)) = false := by rw [beq_eq_false_iff_ne]; omega
          have hz2 : (x == y) = false := by rw [beq_eq_false_iff_ne]; omega
          have hr : decide (lval X < lval Y) = decide (x < y) := by
            have hll : X.length = Y.length := by rw [← HN.out.1.1, ← HN.out.1.2]
            by_cases hlt : x < y
            · rw [decide_eq_true hlt, decide_eq_true (lval_lt_at HN.out.2.1.1 hll hd.out HXY.out.1 HXY.out.2 hlt)]
            · have := lval_lt_at HN.out.2.1.2 hll.symm hd.out.symm HXY.out.2 HXY.out.1 (by omega)
              rw [decide_eq_false hlt, decide_eq_false (by omega)]
          have HR := Lib.hid hr; clear hr
          go_wp2_with fail
          go_quiet (fail)
          go_wp2_with fail
          go_quiet (fail)
          go_wp2_with fail
          go_ret
          refine ⟨?_, _, by first | rfl | exact World.drewN_drewN _ _ _ | (rw [World.drewN_drewN, World.drewN_drewN])⟩
          rw [HR.out]; simp
  · have hr : decide (lval X < lval Y) = false := decide_eq_false (by have := lval_lt_of_len hY tX (by omega); omega)
    rw [hr]
    have h1 : (m == n) = false := by rw [beq_eq_false_iff_ne]; omega
    have h2 : ((m : Int) == n) = false := by rw [beq_eq_false_iff_ne]; omega
    clear hm hn hX hY tX tY hr
    go_enter Tryd.func80, Tryd.ntmps80
    go_wp2_with fail
    go_ret
    exact ⟨by first | (simp; done) | (simp; omega), 0, rfl⟩
theorem below_any (X Y : List Nat) (A B : Option Addr) (m n c d : Nat) (w : World) (hm : m = X.length) (hn : n = Y.length) (hm2 : m ≤ 35184372088832) (hn2 : n ≤ 35184372088832) (hX : Lok X) (hY : Lok Y) (tX : Tp X) (tY : Tp Y)
    (hx : LAt w w.heap.size A X) (hy : LAt w w.heap.size B Y) :
    Calls Tryd.prog 80 #[.slice A m c, .slice B n d] w fun e w' => e = .returned (.bool (decide (lval X < lval Y))) ∧ Below w.heap.size w w' :=
  (below_walk X Y A B m n c d w hm hn hm2 hn2 hX hY tX tY hx hy).mono fun e w' ⟨h1, k, h2⟩ => ⟨h1, h2 ▸ below_drewN (Below.refl _ _) k⟩

theorem sub64_run (x y b : Nat) (hb : b ≤ 1) (w : World) :
    (callFunc 97 #[.int .u64 x, .int .u64 y, .int .u64 b]).run Tryd.prog w = .ok (.value (.tuple #[.int .u64 (((x + 18446744073709551616 - y - b) % 18446744073709551616 : Nat) : Int), .int .u64 ((if x < y + b then 1 else 0 : Nat) : Int)])) w := by
  rw [run_callFunc_extern Tryd.func97 (by kernel_rfl) (by kernel_rfl) (by kernel_rfl) (e := sub64Entry) (by kernel_rfl), run_sub64 x y b hb]
  rfl
theorem sub64_sum {x y b : Nat} (hx : x < 18446744073709551616) (hy : y < 18446744073709551616) (hb : b ≤ 1) : (x + 18446744073709551616 - y - b) % 18446744073709551616 + y + b = x + 18446744073709551616 * (if x < y + b then 1 else 0) := by
  split <;> omega
theorem ms_end {Z Y X P b : Nat} (hz : Z < P) (h : Z + Y = X + P * b) (hle : Y ≤ X) : Z = X - Y := by
  rcases Nat.eq_zero_or_pos b with h0 | h0
  · subst h0; omega
  · have : P * 1 ≤ P * b := Nat.mul_le_mul_left _ h0
    omega
theorem ms_step {Z X Y B b x y z b' : Nat} (h : Z + Y = X + B * b) (hz : z + y + b = x + 18446744073709551616 * b') : (Z + B * z) + (Y + B * y) = (X + B * x) + B * 18446744073709551616 * b' := by
  have h2 := congrArg (B * ·) hz
  simp only [Nat.mul_add] at h2
  rw [Nat.mul_assoc]
  omega

set_option maxHeartbeats 1000000 in
set_option maxRecDepth 20000 in
theorem minus_any (pre X post Y : List Nat) (g k m n c d : Nat) (A : Option Addr) (w : World) (hk : k = pre.length) (hm : m = X.length) (hn : n = Y.length) (hm2 : m ≤ 35184372088832) (hc : m ≤ c) (hX : Lok X) (hY : Lok Y)
    (hb : Blk w g 59 (lcells (pre ++ X ++ post))) (hy : LAt w w.heap.size A Y) (hne : ∀ b off, A = some ⟨b, off, none⟩ → b ≠ g) (hle : lval Y ≤ lval X) (hnm : n ≤ m) :
    Calls Tryd.prog 81 #[.slice (some ⟨g, k, none⟩) m c, .slice A n d] w fun e w' => (∃ Z post', e = .returned (.slice (some ⟨g, k, none⟩) (List.length Z) c) ∧ Blk w' g 59 (lcells (pre ++ Z ++ post')) ∧ lval Z = lval X - lval Y ∧ Tp Z ∧ Lok Z ∧ Z.length ≤ m) ∧ w.grownBy w' (some g) := by
  have HN := Lib.hid (And.intro (And.intro hk (And.intro hm hn)) (And.intro (And.intro hX hY) (And.intro hb (And.intro hy (And.intro hne hle))))); clear hk hm hn hX hY hb hy hne hle
  go_enter Tryd.func81, Tryd.ntmps81
  go_wp2_with fail
  go_loopg [5, 10] m (fun kk bo i wr => ∃ (j b : Nat) (Z : List Nat), kk = m - j ∧ j ≤ m ∧ b ≤ 1 ∧ bo = .int .u64 (b : Nat) ∧ i = .int .i64 (j : Nat) ∧ Hid (w.grownBy wr (some g)) ∧ Hid (Blk wr g 59 (lcells (pre ++ Z ++ post))) ∧ Hid (Z.length = m ∧ Lok Z ∧ Z.drop j = X.drop j ∧ lval (Z.take j) + lval (Y.take j) = lval (X.take j) + 18446744073709551616 ^ j * b))
  case atStart => exact ⟨0, 0, X, rfl, Nat.zero_le _, by omega, rfl, rfl, World.grownBy.refl _ _, HN.out.2.2.1, HN.out.1.2.1.symm, HN.out.2.1.1, rfl, rfl⟩
  case round =>
    obtain ⟨j, b, Z, hgk, hj, hb1, rfl, rfl, hgr, hblk, hz⟩ := hrel
    have HGK := Lib.hid hgk; clear hgk
    by_cases hlt : j < m
    · obtain ⟨x, hxx⟩ := get_of_lt hz.out.1.symm hlt
      have c0 := (hblk.out.cell (k + j)).trans (lcells_get (show (pre ++ Z ++ post)[k + j]? = some x by rw [HN.out.1.1]; exact win_get hxx))
      have f0 := hblk.out.frozen (k + j)
      have hxl := hz.out.2.1.get hxx
      have hux := ll_drop_get hz.out.2.2.1 hxx (Nat.le_refl _)
      have HX := Lib.hid (And.intro hxx hux); clear hxx hux
      by_cases hjn : j < n
      · obtain ⟨y, hyy⟩ := get_of_lt HN.out.1.2.2 hjn
        obtain ⟨g2, o2, rfl, hg2, c2⟩ := HN.out.2.2.2.1 j y hyy
        have c4 := hgr.out.block g2 hg2 (fun e => HN.out.2.2.2.2.1 g2 o2 rfl (Option.some.inj e))
        have c3 : wr.cell? ⟨g2, o2 + j, none⟩ = some (.int .u64 (y : Int)) := (World.cell?_of_block c4).trans c2
        clear c4
        have hyl := HN.out.2.1.2.get hyy
        have HY := Lib.hid hyy; clear hyy c2
        go_wp2_with fail
        rw [sub64_run x y b hb1]
        rw [Oper.upon_value]
        obtain ⟨z, hzz⟩ : ∃ z, z = (x + 18446744073709551616 - y - b) % 18446744073709551616 := ⟨_, rfl⟩
        obtain ⟨b', hbb⟩ : ∃ b', b' = (if x < y + b then 1 else 0 : Nat) := ⟨_, rfl⟩
        have hb1' : b' ≤ 1 := by rw [hbb]; split <;> omega
        have hsum : z + y + b = x + 18446744073709551616 * b' := by rw [hzz, hbb]; exact sub64_sum hxl hyl hb1
        have hzl : z < 18446744073709551616 := by rw [hzz]; exact Nat.mod_lt _ (by omega)
        rw [← hzz, ← hbb]
        have HS := Lib.hid hsum; clear hsum hzz hbb
        go_wp2_with fail
        go_roundg (m - (j + 1))
        case measure => rw [HGK.out]; omega
        case rel =>
          obtain ⟨z1, z2, z3, z4⟩ := hz.out
          refine ⟨j + 1, b', Z.set j z, rfl, by omega, hb1', rfl, by go_num, grown_set hgr.out _ _, ?_, by rw [List.length_set]; exact z1, z2.set _ hzl, ?_, ?_⟩
          · have h1 := hblk.out.set_ (pre.length + j) (.int .u64 (z : Int))
            rw [lcells_set, win_set (by rw [z1]; exact hlt)] at h1
            rw [HN.out.1.1]; exact h1
          · rw [List.drop_set_of_lt (by omega)]
            have := congrArg (List.drop 1) z3
            rwa [List.drop_drop, List.drop_drop] at this
          · have h2 : (Z.set j z)[j]? = some z := List.getElem?_set_self (by rw [z1]; exact hlt)
            rw [lval_take_succ h2, List.take_set_of_le (Nat.le_refl _), lval_take_succ HX.out.2, lval_take_succ HY.out, Nat.pow_succ]
            exact ms_step z4 HS.out
      · go_wp2_with fail
        rw [show (Value.int IntKind.u64 0) = .int .u64 ((0 : Nat) : Int) from rfl, sub64_run x 0 b hb1]
        rw [Oper.upon_value]
        obtain ⟨z, hzz⟩ : ∃ z, z = (x + 18446744073709551616 - 0 - b) % 18446744073709551616 := ⟨_, rfl⟩
        obtain ⟨b', hbb⟩ : ∃ b', b' = (if x < 0 + b then 1 else 0 : Nat) := ⟨_, rfl⟩
        have hb1' : b' ≤ 1 := by rw [hbb]; split <;> omega
        have hsum : z + 0 + b = x + 18446744073709551616 * b' := by rw [hzz, hbb]; exact sub64_sum hxl (by omega) hb1
        have hzl : z < 18446744073709551616 := by rw [hzz]; exact Nat.mod_lt _ (by omega)
        rw [← hzz, ← hbb]
        have HS := Lib.hid hsum; clear hsum hzz hbb
        go_wp2_with fail
        go_roundg (m - (j + 1))
        case measure => rw [HGK.out]; omega
        case rel =>
          obtain ⟨z1, z2, z3, z4⟩ := hz.out
          refine ⟨j + 1, b', Z.set j z, rfl, by omega, hb1', rfl, by go_num, grown_set hgr.out _ _, ?_, by rw [List.length_set]; exact z1, z2.set _ hzl, ?_, ?_⟩
          · have h1 := hblk.out.set_ (pre.length + j) (.int .u64 (z : Int))
            rw [lcells_set, win_set (by rw [z1]; exact hlt)] at h1
            rw [HN.out.1.1]; exact h1
          · rw [List.drop_set_of_lt (by omega)]
            have := congrArg (List.drop 1) z3
            rwa [List.drop_drop, List.drop_drop] at this
          · have h2 : (Z.set j z)[j]? = some z := List.getElem?_set_self (by rw [z1]; exact hlt)
            have h3 : lval (Y.take (j + 1)) = lval (Y.take j) + 18446744073709551616 ^ j * 0 := by
              rw [List.take_of_length_le (by rw [← HN.out.1.2.2]; omega), List.take_of_length_le (by rw [← HN.out.1.2.2]; omega)]; rfl
            rw [lval_take_succ h2, List.take_set_of_le (Nat.le_refl _), lval_take_succ HX.out.2, h3, Nat.pow_succ]
            exact ms_step z4 HS.out
    · obtain rfl : j = m := by omega
      obtain ⟨z1, z2, z3, z4⟩ := hz.out
      rw [List.take_of_length_le (by rw [z1]; exact Nat.le_refl _), List.take_of_length_le (by rw [← HN.out.1.2.2]; exact hnm), List.take_of_length_le (by rw [← HN.out.1.2.1]; exact Nat.le_refl _)] at z4
      have hzv := ms_end (z1 ▸ lval_lt z2) z4 HN.out.2.2.2.2.2
      have HZ := Lib.hid (And.intro (And.intro z1 z2) hzv); clear z1 z2 z3 z4 hzv
      go_wp2_with fail
      refine (cut_any pre Z post g k j c _ HN.out.1.1 HZ.out.1.1.symm (by omega) hc HZ.out.1.2 hblk.out).mono ?_
      rintro e w' ⟨⟨X', post', rfl, hp, hv, ht, hl, hle⟩, rfl⟩
      have HF := Lib.hid (And.intro hp (And.intro hv (And.intro ht (And.intro hl hle)))); clear hp hv ht hl hle
      go_wp2_with fail
      go_ret
      exact ⟨⟨X', post', rfl, by rw [← HF.out.1]; exact hblk.out, by rw [HF.out.2.1]; exact HZ.out.2, HF.out.2.2.1, HF.out.2.2.2.1, HF.out.2.2.2.2⟩, hgr.out⟩
end Go.Proofs.YtlfddhiimcophaaDoor
