/- Joined texts. -/
import Derived.Test.YtekbpiooecdopaaDoorNatQ
import Derived.Test.YtekbpiooecdopaaDoorBunNatA

/- Walks of package nat: takeAway, putBack. -/
namespace Go.Proofs.YtekbpiooecdopaaDoor
open Go.RowKit
set_option linter.unusedVariables false
set_option linter.unusedSimpArgs false

/-- the window of a row of words: win lies from k on -/
theorem win_get {pre win post : List Nat} {i x : Nat} (h : win[i]? = some x) : (pre ++ win ++ post)[pre.length + i]? = some x := by
  have hl := (List.getElem?_eq_some_iff.1 h).1
  rw [List.append_assoc, List.getElem?_append_right (by omega), Nat.add_sub_cancel_left, List.getElem?_append_left hl, h]
theorem win_set {pre win post : List Nat} {i x : Nat} (h : i < win.length) : (pre ++ win ++ post).set (pre.length + i) x = pre ++ win.set i x ++ post := by
  rw [List.append_assoc, List.set_append_right _ _ (by omega), Nat.add_sub_cancel_left, List.set_append_left _ _ h, List.append_assoc]

theorem ts_word {x b y : Nat} (hx : x < 4294967296) (hb : b ≤ 1) (hy : y < 4294967296) : IntKind.u64.wrap (IntKind.u64.wrap ((x : Int) - y) - b) % 4294967296 = ((sbW x b y : Nat) : Int) := by
  rw [IntKind.wrap_u64, IntKind.wrap_u64]; unfold sbW; split <;> omega
theorem ts_borrow {x b y : Nat} (hx : x < 4294967296) (hb : b ≤ 1) (hy : y < 4294967296) : IntKind.u64.wrap (IntKind.u64.wrap ((x : Int) - y) - b) / 9223372036854775808 = ((sbB x b y : Nat) : Int) := by
  rw [IntKind.wrap_u64, IntKind.wrap_u64]; unfold sbB; split <;> omega

set_option maxHeartbeats 1000000 in
set_option maxRecDepth 20000 in
theorem takeAway_any (pre win post vs : List Nat) (g n k cu cv d : Nat) (Av : Option Addr) (w : World) (hk : k = pre.length) (hn : n = vs.length) (hwl : win.length = n + 1) (hn2 : n ≤ 35184372088832) (hd : d < 4294967296) (hw1 : Wok win) (hw2 : Wok vs)
    (hb : Blk w g 92 (wcells (pre ++ win ++ post))) (hv : WAt w w.heap.size Av vs) (hne : ∀ b off, Av = some ⟨b, off, none⟩ → b ≠ g) :
    Calls Tryd.prog 84 #[.slice (some ⟨g, k, none⟩) ((n + 1 : Nat)) cu, .slice Av n cv, .int .u64 d] w fun e w' => ∃ neg zs, e = .returned (.bool neg) ∧ w.grownBy w' (some g) ∧ Blk w' g 92 (wcells (pre ++ zs ++ post)) ∧ zs.length = n + 1 ∧ Wok zs ∧ wval zs + d * wval vs = wval win + 4294967296 ^ (n + 1) * neg.toNat := by
  have HN := Lib.hid (And.intro hk (And.intro hn hwl)); clear hk hn hwl
  have HV := Lib.hid hv; clear hv
  have HNE := Lib.hid hne; clear hne
  have HOK := Lib.hid (And.intro hw1 hw2); clear hw1 hw2
  have HB := Lib.hid hb; clear hb
  go_enter Tryd.func84, Tryd.ntmps84
  go_wp2_with fail
  go_loopg [7, 8, 15] n (fun kk cy bo i wr => ∃ (p c b : Nat) (zs : List Nat), kk = n - p ∧ p ≤ n ∧ c < 4294967296 ∧ b ≤ 1 ∧ cy = .int .u64 c ∧ bo = .int .u64 b ∧ i = .int .i64 p ∧ Hid (w.grownBy wr (some g)) ∧ Hid (Blk wr g 92 (wcells (pre ++ zs ++ post))) ∧ Hid (zs.length = n + 1 ∧ Wok zs ∧ zs.drop p = win.drop p ∧ wval (zs.take p) + d * wval (vs.take p) = wval (win.take p) + 4294967296 ^ p * (c + b)))
  case atStart => exact ⟨0, 0, 0, win, rfl, Nat.zero_le _, by omega, by omega, rfl, rfl, rfl, World.grownBy.refl _ _, HB.out, HN.out.2.2, HOK.out.1, rfl, by rw [List.take_zero, List.take_zero]; rfl⟩
  case round =>
    obtain ⟨p, c, b, zs, hgk, hp, hc, hbb, rfl, rfl, rfl, hgr, hblk, hzs⟩ := hrel
    have HGK := Lib.hid hgk; clear hgk
    by_cases hlt : p < n
    · obtain ⟨v, hvv⟩ := get_of_lt HN.out.2.1 hlt
      obtain ⟨gv, off, rfl, hgv, h0⟩ := HV.out p v hvv
      have c1 := (hgr.out.block gv hgv (fun e => HNE.out gv off rfl (Option.some.inj e)))
      have c2 : wr.cell? ⟨gv, off + p, none⟩ = some (.int .u32 v) := (World.cell?_of_block c1).trans h0
      obtain ⟨x, hx⟩ := get_of_lt hzs.out.1.symm (show p < n + 1 by omega)
      have c3 := (hblk.out.cell (pre.length + p)).trans (wcells_get (win_get hx))
      rw [← HN.out.1] at c3
      have f0 := hblk.out.frozen (k + p)
      have hvlt := HOK.out.2.get hvv
      have hxlt := hzs.out.2.1.get hx
      have HX := Lib.hid (And.intro hvv hx); clear hvv hx c1 h0
      have hm : d * v ≤ 18446744065119617025 := by
        have : d * v ≤ 4294967295 * 4294967295 := Nat.mul_le_mul (by omega) (by omega)
        omega
      have hm1 : (d : Int) * v ≤ 18446744065119617025 := by rw [← Int.natCast_mul]; omega
      have hm0 : 0 ≤ (d : Int) * v := by rw [← Int.natCast_mul]; omega
      have HM := Lib.hid hm; clear hm
      go_wp2_with fail
      have em : (c : Int) + (d : Int) * (v : Int) = ((c + d * v : Nat) : Int) := by rw [Int.natCast_add, Int.natCast_mul]
      have em2 : (((c + d * v : Nat) : Int)) % 4294967296 = (((c + d * v) % 4294967296 : Nat) : Int) := by omega
      have em3 : (((c + d * v : Nat) : Int)) / 4294967296 = (((c + d * v) / 4294967296 : Nat) : Int) := by omega
      have hylt : (c + d * v) % 4294967296 < 4294967296 := Nat.mod_lt _ (by omega)
      have hc'lt : (c + d * v) / 4294967296 < 4294967296 := by have := HM.out; omega
      rw [em, em2, em3, ts_borrow hxlt hbb hylt, ts_word hxlt hbb hylt]
      go_roundg (n - (p + 1))
      case measure => rw [HGK.out]; omega
      case rel =>
        obtain ⟨z1, z2, z3, z4⟩ := hzs.out
        obtain ⟨hs1, hs2, hs3⟩ := sb_sum hxlt hbb hylt
        refine ⟨p + 1, (c + d * v) / 4294967296, sbB x b ((c + d * v) % 4294967296), zs.set p (sbW x b ((c + d * v) % 4294967296)), rfl, by omega, hc'lt, hs3, rfl, rfl, by go_num, grown_set hgr.out _ _, ?_, by rw [List.length_set]; exact z1, z2.set _ hs2, ?_, ?_⟩
        · have h1 := hblk.out.set_ (pre.length + p) (.int .u32 (sbW x b ((c + d * v) % 4294967296)))
          rw [wcells_set, win_set (by rw [z1]; omega)] at h1
          rw [HN.out.1]; exact h1
        · rw [List.drop_set_of_lt (by omega)]
          have := congrArg (List.drop 1) z3
          rwa [List.drop_drop, List.drop_drop] at this
        · have hwx : win[p]? = some x := by
            have h1 := congrArg (fun l => l[0]?) z3
            simp only [List.getElem?_drop, Nat.add_zero] at h1
            rw [← h1]; exact HX.out.2
          have h2 : (zs.set p (sbW x b ((c + d * v) % 4294967296)))[p]? = some (sbW x b ((c + d * v) % 4294967296)) := List.getElem?_set_self (by rw [z1]; omega)
          rw [wval_take_succ h2, List.take_set_of_le (Nat.le_refl _), wval_take_succ hwx, wval_take_succ HX.out.1, Nat.pow_succ, Nat.mul_add]
          have h3 : d * (4294967296 ^ p * v) = 4294967296 ^ p * (d * v) := Nat.mul_left_comm _ _ _
          rw [h3]
          exact take_step z4 (by omega) rfl
    · obtain rfl : p = n := by omega
      obtain ⟨x, hx⟩ := get_of_lt hzs.out.1.symm (show p < p + 1 by omega)
      have c3 := (hblk.out.cell (pre.length + p)).trans (wcells_get (win_get hx))
      rw [← HN.out.1] at c3
      have f0 := hblk.out.frozen (k + p)
      have hxlt := hzs.out.2.1.get hx
      have HX := Lib.hid hx; clear hx hlt
      go_wp2_with fail
      rw [ts_borrow hxlt hbb hc, ts_word hxlt hbb hc]
      go_ret
      obtain ⟨hs1, hs2, hs3⟩ := sb_sum hxlt hbb hc
      obtain ⟨z1, z2, z3, z4⟩ := hzs.out
      refine ⟨decide (0 < sbB x b c), zs.set p (sbW x b c), ?_, grown_set hgr.out _ _, ?_, by rw [List.length_set]; exact z1, z2.set _ hs2, ?_⟩
      · have : decide ((0 : Int) < ((sbB x b c : Nat) : Int)) = decide (0 < sbB x b c) := by simp
        rw [← this]; rfl
      · have h1 := hblk.out.set_ (pre.length + p) (.int .u32 (sbW x b c))
        rw [wcells_set, win_set (by rw [z1]; omega)] at h1
        rw [HN.out.1]; exact h1
      · have e1 : (decide (0 < sbB x b c)).toNat = sbB x b c := by
          unfold sbB; split <;> rfl
        have hwx : win[p]? = some x := by
          have h1 := congrArg (fun l => l[0]?) z3
          simp only [List.getElem?_drop, Nat.add_zero] at h1
          rw [← h1]; exact HX.out
        have h2 : (zs.set p (sbW x b c))[p]? = some (sbW x b c) := List.getElem?_set_self (by rw [z1]; omega)
        have h3 : wval (zs.set p (sbW x b c)) = wval (zs.take p) + 4294967296 ^ p * sbW x b c := by
          have := wval_take_succ h2
          rw [List.take_of_length_le (by rw [List.length_set, z1]; exact Nat.le_refl _), List.take_set_of_le (Nat.le_refl _)] at this
          exact this
        have h4 : wval win = wval (win.take p) + 4294967296 ^ p * x := by
          have := wval_take_succ hwx
          rw [List.take_of_length_le (by rw [HN.out.2.2]; exact Nat.le_refl _)] at this
          exact this
        rw [List.take_of_length_le (show vs.length ≤ p by rw [← HN.out.2.1]; exact Nat.le_refl _)] at z4
        rw [e1, h3, h4, Nat.pow_succ]
        have h5 := congrArg (4294967296 ^ p * ·) hs1
        simp only [Nat.mul_add] at h5
        rw [Nat.mul_add] at z4
        rw [Nat.mul_assoc]
        omega
end Go.Proofs.YtekbpiooecdopaaDoor
