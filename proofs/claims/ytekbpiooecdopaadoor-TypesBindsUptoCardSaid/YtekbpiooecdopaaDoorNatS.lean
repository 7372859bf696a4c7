/- Joined texts. -/
import Derived.Test.YtekbpiooecdopaaDoorNatR

/- Walks of package nat: putBack, left. -/
namespace Go.Proofs.YtekbpiooecdopaaDoor
open Go.RowKit
set_option linter.unusedVariables false
set_option linter.unusedSimpArgs false

theorem put_step {L U D B c x v z c' : Nat} (h : L + B * c = U + D) (hz : c + (x + v) = z + 4294967296 * c') : (L + B * z) + B * 4294967296 * c' = (U + B * x) + (D + B * v) := by
  have h2 := congrArg (B * ·) hz
  simp only [Nat.mul_add] at h2
  rw [Nat.mul_assoc]
  omega

set_option maxHeartbeats 1000000 in
set_option maxRecDepth 20000 in
theorem putBack_any (pre win post vs : List Nat) (g n k cu cv : Nat) (Av : Option Addr) (w : World) (hk : k = pre.length) (hn : n = vs.length) (hwl : win.length = n + 1) (hn2 : n ≤ 35184372088832) (hw1 : Wok win) (hw2 : Wok vs)
    (hb : Blk w g 92 (wcells (pre ++ win ++ post))) (hv : WAt w w.heap.size Av vs) (hne : ∀ b off, Av = some ⟨b, off, none⟩ → b ≠ g) :
    Calls Tryd.prog 85 #[.slice (some ⟨g, k, none⟩) ((n + 1 : Nat)) cu, .slice Av n cv] w fun e w' => e = .returned (.tuple #[]) ∧ ∃ cc zs, w.grownBy w' (some g) ∧ Blk w' g 92 (wcells (pre ++ zs ++ post)) ∧ zs.length = n + 1 ∧ Wok zs ∧ wval zs + 4294967296 ^ (n + 1) * cc = wval win + wval vs := by
  have HN := Lib.hid (And.intro hk (And.intro hn hwl)); clear hk hn hwl
  have HV := Lib.hid hv; clear hv
  have HNE := Lib.hid hne; clear hne
  have HOK := Lib.hid (And.intro hw1 hw2); clear hw1 hw2
  have HB := Lib.hid hb; clear hb
  go_enter Tryd.func85, Tryd.ntmps85
  go_wp2_with fail
  go_loopg [4, 9] n (fun kk cy i wr => ∃ (p c : Nat) (zs : List Nat), kk = n - p ∧ p ≤ n ∧ c ≤ 1 ∧ cy = .int .u64 c ∧ i = .int .i64 p ∧ Hid (w.grownBy wr (some g)) ∧ Hid (Blk wr g 92 (wcells (pre ++ zs ++ post))) ∧ Hid (zs.length = n + 1 ∧ Wok zs ∧ zs.drop p = win.drop p ∧ wval (zs.take p) + 4294967296 ^ p * c = wval (win.take p) + wval (vs.take p)))
  case atStart => exact ⟨0, 0, win, rfl, Nat.zero_le _, by omega, rfl, rfl, World.grownBy.refl _ _, HB.out, HN.out.2.2, HOK.out.1, rfl, rfl⟩
  case round =>
    obtain ⟨p, c, zs, hgk, hp, hc, rfl, rfl, hgr, hblk, hzs⟩ := hrel
    have HGK := Lib.hid hgk; clear hgk
    by_cases hlt : p < n
    · obtain ⟨v, hvv⟩ := get_of_lt HN.out.2.1 hlt
      obtain ⟨gv, off, rfl, hgv, h0⟩ := HV.out p v hvv
      have c1 := (hgr.out.block gv hgv (fun e => HNE.out gv off rfl (Option.some.inj e)))
      have c2 : wr.cell? ⟨gv, off + p, none⟩ = some (.int .u32 v) := (World.cell?_of_block c1).trans h0
      obtain ⟨x, hx⟩ := get_of_lt hzs.out.1.symm (show p < n + 1 by omega)
      have c3 := (hblk.out.cell (pre.length + p)).trans (wcells_get (win_get hx))
      rw [← HN.out.1] at c3
      have f0 := hblk.out.frozen (k + p)
      have hvlt := HOK.out.2.get hvv
      have hxlt := hzs.out.2.1.get hx
      have HX := Lib.hid (And.intro hvv hx); clear hvv hx c1 h0
      go_wp2_with fail
      have em2 : ((c : Int) + ((x : Int) + (v : Int))) % 4294967296 = (((c + (x + v)) % 4294967296 : Nat) : Int) := by omega
      have em3 : ((c : Int) + ((x : Int) + (v : Int))) / 4294967296 = (((c + (x + v)) / 4294967296 : Nat) : Int) := by omega
      rw [em2, em3]
      go_roundg (n - (p + 1))
      case measure => rw [HGK.out]; omega
      case rel =>
        obtain ⟨z1, z2, z3, z4⟩ := hzs.out
        refine ⟨p + 1, (c + (x + v)) / 4294967296, zs.set p ((c + (x + v)) % 4294967296), rfl, by omega, by omega, rfl, by go_num, grown_set hgr.out _ _, ?_, by rw [List.length_set]; exact z1, z2.set _ (Nat.mod_lt _ (by omega)), ?_, ?_⟩
        · have h1 := hblk.out.set_ (pre.length + p) (.int .u32 (((c + (x + v)) % 4294967296 : Nat) : Int))
          rw [wcells_set, win_set (by rw [z1]; omega)] at h1
          rw [HN.out.1]; exact h1
        · rw [List.drop_set_of_lt (by omega)]
          have := congrArg (List.drop 1) z3
          rwa [List.drop_drop, List.drop_drop] at this
        · have hwx : win[p]? = some x := by
            have h1 := congrArg (fun l => l[0]?) z3
            simp only [List.getElem?_drop, Nat.add_zero] at h1
            rw [← h1]; exact HX.out.2
          have h2 : (zs.set p ((c + (x + v)) % 4294967296))[p]? = some ((c + (x + v)) % 4294967296) := List.getElem?_set_self (by rw [z1]; omega)
          rw [wval_take_succ h2, List.take_set_of_le (Nat.le_refl _), wval_take_succ hwx, wval_take_succ HX.out.1, Nat.pow_succ]
          exact put_step z4 (by omega)
    · obtain rfl : p = n := by omega
      obtain ⟨x, hx⟩ := get_of_lt hzs.out.1.symm (show p < p + 1 by omega)
      have c3 := (hblk.out.cell (pre.length + p)).trans (wcells_get (win_get hx))
      rw [← HN.out.1] at c3
      have f0 := hblk.out.frozen (k + p)
      have hxlt := hzs.out.2.1.get hx
      have HX := Lib.hid hx; clear hx hlt
      go_wp2_with fail
      have em : ((x : Int) + (c : Int)) % 4294967296 = (((x + c) % 4294967296 : Nat) : Int) := by omega
      rw [em]
      go_end0
      obtain ⟨z1, z2, z3, z4⟩ := hzs.out
      refine ⟨rfl, (x + c) / 4294967296, zs.set p ((x + c) % 4294967296), grown_set hgr.out _ _, ?_, by rw [List.length_set]; exact z1, z2.set _ (Nat.mod_lt _ (by omega)), ?_⟩
      · have h1 := hblk.out.set_ (pre.length + p) (.int .u32 (((x + c) % 4294967296 : Nat) : Int))
        rw [wcells_set, win_set (by rw [z1]; omega)] at h1
        rw [HN.out.1]; exact h1
      · have hwx : win[p]? = some x := by
          have h1 := congrArg (fun l => l[0]?) z3
          simp only [List.getElem?_drop, Nat.add_zero] at h1
          rw [← h1]; exact HX.out
        have h2 : (zs.set p ((x + c) % 4294967296))[p]? = some ((x + c) % 4294967296) := List.getElem?_set_self (by rw [z1]; omega)
        have h3 : wval (zs.set p ((x + c) % 4294967296)) = wval (zs.take p) + 4294967296 ^ p * ((x + c) % 4294967296) := by
          have := wval_take_succ h2
          rw [List.take_of_length_le (by rw [List.length_set, z1]; exact Nat.le_refl _), List.take_set_of_le (Nat.le_refl _)] at this
          exact this
        have h4 : wval win = wval (win.take p) + 4294967296 ^ p * x := by
          have := wval_take_succ hwx
          rw [List.take_of_length_le (by rw [HN.out.2.2]; exact Nat.le_refl _)] at this
          exact this
        rw [List.take_of_length_le (show vs.length ≤ p by rw [← HN.out.2.1]; exact Nat.le_refl _)] at z4
        rw [h3, h4, Nat.pow_succ]
        have := put_step (v := 0) z4 (show c + (x + 0) = (x + c) % 4294967296 + 4294967296 * ((x + c) / 4294967296) by omega)
        rw [Nat.mul_zero, Nat.add_zero] at this
        omega
end Go.Proofs.YtekbpiooecdopaaDoor
