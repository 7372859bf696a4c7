/- Walks of package nat: less. -/
import Derived.Test.YtlfddhiimcophaaDoorNatE
namespace Go.Proofs.YtlfddhiimcophaaDoor
open Go.RowKit
set_option linter.unusedVariables false
set_option linter.unusedSimpArgs false

theorem grown_drewN {a w : World} {row : Option Nat} (h : a.grownBy w row) (n : Nat) : a.grownBy (w.drewN n) row := ⟨h.os, h.tape, h.output, h.size, h.block⟩
theorem grown_set {a w : World} {g : Nat} (h : a.grownBy w (some g)) (i : Nat) (u : Value) : a.grownBy (w.setCell ⟨g, i, none⟩ u) (some g) :=
  ⟨h.os, h.tape, h.output, by simpa [World.setCell] using h.size, fun k hk hne => (Below.heap_setCell w _ u k (by rintro rfl; exact hne rfl)).trans (h.block k hk hne)⟩
theorem WAt.grown {w w' : World} {g B : Nat} {A : Option Addr} {ws : List Nat} (h : WAt w B A ws) (hg : w.grownBy w' (some g)) (hne : ∀ b off, A = some ⟨b, off, none⟩ → b ≠ g) (hB : B ≤ w.heap.size) : WAt w' B A ws := by
  intro i x hx
  obtain ⟨b, off, hA, hb, hc⟩ := h i x hx
  refine ⟨b, off, hA, hb, (World.cell?_of_block (hg.block b (by omega) ?_)).trans hc⟩
  intro e; injection e with e; exact hne b off hA e

/-- digit y at place i; 0 behind the end -/
def wd (ys : List Nat) (i : Nat) : Nat := ys[i]?.getD 0
theorem wd_take (ys : List Nat) (i : Nat) : wval (ys.take (i+1)) = wval (ys.take i) + 4294967296 ^ i * wd ys i := by
  unfold wd
  cases h : ys[i]? with
  | some y => rw [wval_take_succ h]; rfl
  | none =>
    have : ys.length ≤ i := List.getElem?_eq_none_iff.1 h
    rw [List.take_of_length_le (by omega), List.take_of_length_le this]; simp
theorem wd_lt {ys : List Nat} (h : Wok ys) (i : Nat) : wd ys i < 4294967296 := by
  unfold wd
  cases h' : ys[i]? with
  | some y => exact h.get h'
  | none => simp
def sbW (x b y : Nat) : Nat := if b + y ≤ x then x - b - y else 4294967296 + x - b - y
def sbB (x b y : Nat) : Nat := if b + y ≤ x then 0 else 1
theorem sb_word {x b y : Nat} (hx : x < 4294967296) (hb : b ≤ 1) (hy : y < 4294967296) : IntKind.u64.wrap (IntKind.u64.wrap ((x : Int) - b) - y) % 4294967296 = ((sbW x b y : Nat) : Int) := by
  rw [IntKind.wrap_u64, IntKind.wrap_u64]; unfold sbW; split <;> omega
theorem sb_borrow {x b y : Nat} (hx : x < 4294967296) (hb : b ≤ 1) (hy : y < 4294967296) : IntKind.u64.wrap (IntKind.u64.wrap ((x : Int) - b) - y) / 9223372036854775808 = ((sbB x b y : Nat) : Int) := by
  rw [IntKind.wrap_u64, IntKind.wrap_u64]; unfold sbB; split <;> omega
theorem sb_sum {x b y : Nat} (hx : x < 4294967296) (hb : b ≤ 1) (hy : y < 4294967296) : sbW x b y + b + y = x + 4294967296 * sbB x b y ∧ sbW x b y < 4294967296 ∧ sbB x b y ≤ 1 := by
  unfold sbW sbB; split <;> omega

theorem sb_word0 {x b : Nat} (hx : x < 4294967296) (hb : b ≤ 1) : IntKind.u64.wrap ((x : Int) - b) % 4294967296 = ((sbW x b 0 : Nat) : Int) := by
  rw [IntKind.wrap_u64]; unfold sbW; split <;> omega
theorem sb_borrow0 {x b : Nat} (hx : x < 4294967296) (hb : b ≤ 1) : IntKind.u64.wrap ((x : Int) - b) / 9223372036854775808 = ((sbB x b 0 : Nat) : Int) := by
  rw [IntKind.wrap_u64]; unfold sbB; split <;> omega
theorem less_step {xs ys zs : List Nat} {j b x : Nat} (hl : zs.length = xs.length) (hz : Wok zs) (hd : zs.drop j = xs.drop j) (hv : wval (zs.take j) + wval (ys.take j) = wval (xs.take j) + 4294967296 ^ j * b)
    (hx : xs[j]? = some x) (hzx : zs[j]? = some x) (hxl : x < 4294967296) (hb : b ≤ 1) (hy : wd ys j < 4294967296) :
    (zs.set j (sbW x b (wd ys j))).length = xs.length ∧ Wok (zs.set j (sbW x b (wd ys j))) ∧ (zs.set j (sbW x b (wd ys j))).drop (j+1) = xs.drop (j+1) ∧
      wval ((zs.set j (sbW x b (wd ys j))).take (j+1)) + wval (ys.take (j+1)) = wval (xs.take (j+1)) + 4294967296 ^ (j+1) * sbB x b (wd ys j) := by
  obtain ⟨h1, h2, h3⟩ := sb_sum hxl hb hy
  have hjl : j < zs.length := (List.getElem?_eq_some_iff.1 hzx).1
  refine ⟨by rw [List.length_set, hl], hz.set j h2, ?_, ?_⟩
  · rw [List.drop_set_of_lt (by omega)]
    have := congrArg (List.drop 1) hd
    rwa [List.drop_drop, List.drop_drop] at this
  · have e1 : (zs.set j (sbW x b (wd ys j)))[j]? = some (sbW x b (wd ys j)) := by rw [List.getElem?_set_self hjl]
    rw [wval_take_succ e1, wd_take, wval_take_succ hx, List.take_set_of_le (Nat.le_refl _), Nat.pow_succ]
    grind

theorem less_any (xs ys : List Nat) (g : Nat) (A : Option Addr) (n m c d : Nat) (w : World) (hn : n = xs.length) (hm : m = ys.length) (hn2 : n ≤ 35184372088832) (hm2 : m ≤ 35184372088832) (hx : Wok xs) (hy : Wok ys)
    (hb : Blk w g 61 (wcells xs)) (h : WAt w w.heap.size A ys) (hne : ∀ b off, A = some ⟨b, off, none⟩ → b ≠ g) (hle : wval ys ≤ wval xs) (hlen : ys.length ≤ xs.length) :
    Calls Tryd.prog 51 #[.slice (some ⟨g, 0, none⟩) n c, .slice A m d] w fun e w' => e = .returned (.tuple #[]) ∧ w.grownBy w' (some g) ∧ ∃ zs, zs.length = xs.length ∧ Wok zs ∧ Blk w' g 61 (wcells zs) ∧ wval zs = wval xs - wval ys := by
  have HN := Lib.hid (And.intro hn hm); clear hn hm
  have H := Lib.hid h; clear h
  have HB := Lib.hid hb; clear hb
  have HXY := Lib.hid (And.intro hx hy); clear hx hy
  have HNE := Lib.hid hne; clear hne
  have HLE := Lib.hid (And.intro hle hlen); clear hle hlen
  go_enter Tryd.func51, Tryd.ntmps51
  go_wp2_with fail
  go_loopg [4, 10] n (fun k bo i wr => ∃ (j b : Nat) (zs : List Nat), k = n - j ∧ j ≤ n ∧ b ≤ 1 ∧ i = .int .i64 j ∧ bo = .int .u64 b ∧ Hid (w.grownBy wr (some g)) ∧ Hid (Blk wr g 61 (wcells zs)) ∧ Hid (zs.length = xs.length ∧ Wok zs ∧ zs.drop j = xs.drop j ∧ wval (zs.take j) + wval (ys.take j) = wval (xs.take j) + 4294967296 ^ j * b))
  case atStart => exact ⟨0, 0, xs, rfl, Nat.zero_le _, Nat.zero_le _, rfl, rfl, World.grownBy.refl _ _, HB.out, rfl, HXY.out.1, rfl, rfl⟩
  case round =>
    obtain ⟨j, b, zs, hgk, hj, hb1, rfl, rfl, hgr, hblk, hzs⟩ := hrel
    have HGK := Lib.hid hgk; clear hgk
    by_cases hlt : j < n
    · obtain ⟨x, hx⟩ := get_of_lt HN.out.1 hlt
      have hzx : zs[j]? = some x := by
        obtain ⟨_, _, hd, _⟩ := hzs.out
        have := congrArg (fun l => l[0]?) hd
        simpa [List.getElem?_drop, hx] using this
      have e1 := (hblk.out.cell j).trans (wcells_get hzx)
      have e2 := hblk.out.frozen j
      have hxlt := HXY.out.1.get hx
      have hylt := wd_lt HXY.out.2 j
      have HX := Lib.hid (And.intro hx hzx); clear hx hzx
      by_cases hjm : j < m
      · obtain ⟨y, hy⟩ := get_of_lt HN.out.2 hjm
        obtain ⟨b', off, rfl, hbb, h0⟩ := H.out j y hy
        have g0 := (World.cell?_of_block (w := w) (a := ⟨b', off + j, none⟩) (hgr.out.block b' hbb (by intro e; injection e with e; exact HNE.out b' off rfl e))).trans h0
        clear h0
        have hwd : wd ys j = y := by simp [wd, hy]
        rw [hwd] at hylt
        have HWD := Lib.hid hwd; clear hwd hy
        go_wp2_with fail
        rw [sb_borrow hxlt hb1 hylt, sb_word hxlt hb1 hylt, ← HWD.out]
        go_roundg (n - (j + 1))
        case measure => rw [HGK.out]; omega
        case rel =>
          obtain ⟨z1, z2, z3, z4⟩ := hzs.out
          rw [← HWD.out] at hylt
          obtain ⟨t1, t2, t3, t4⟩ := less_step z1 z2 z3 z4 HX.out.1 HX.out.2 hxlt hb1 hylt
          exact ⟨j + 1, sbB x b (wd ys j), _, rfl, by omega, (sb_sum hxlt hb1 hylt).2.2, by go_num, rfl, grown_set hgr.out _ _, by rw [← wcells_set]; exact hblk.out.set_ _ _, t1, t2, t3, t4⟩
      · have hwd : wd ys j = 0 := by
          unfold wd; rw [List.getElem?_eq_none (by rw [← HN.out.2]; omega)]; rfl
        have HWD := Lib.hid hwd; clear hwd
        go_wp2_with fail
        rw [sb_borrow0 hxlt hb1, sb_word0 hxlt hb1, show sbB x b 0 = sbB x b (wd ys j) by rw [HWD.out], show sbW x b 0 = sbW x b (wd ys j) by rw [HWD.out]]
        go_roundg (n - (j + 1))
        case measure => rw [HGK.out]; omega
        case rel =>
          obtain ⟨z1, z2, z3, z4⟩ := hzs.out
          obtain ⟨t1, t2, t3, t4⟩ := less_step z1 z2 z3 z4 HX.out.1 HX.out.2 hxlt hb1 hylt
          exact ⟨j + 1, sbB x b (wd ys j), _, rfl, by omega, (sb_sum hxlt hb1 hylt).2.2, by go_num, rfl, grown_set hgr.out _ _, by rw [← wcells_set]; exact hblk.out.set_ _ _, t1, t2, t3, t4⟩
    · obtain rfl : j = n := by omega
      go_wp2_with fail
      go_end0
      obtain ⟨z1, z2, z3, z4⟩ := hzs.out
      refine ⟨rfl, hgr.out, zs, z1, z2, hblk.out, ?_⟩
      obtain ⟨hle, hlen⟩ := HLE.out
      rw [List.take_of_length_le (by rw [z1, HN.out.1]; exact Nat.le_refl _), List.take_of_length_le (by rw [HN.out.1]; exact hlen), List.take_of_length_le (by rw [HN.out.1]; exact Nat.le_refl _)] at z4
      have hzlt := wval_lt z2
      have hb0 : b = 0 := by
        have : b = 0 ∨ b = 1 := by omega
        rcases this with h | h
        · exact h
        · subst h; rw [z1, ← HN.out.1] at hzlt; omega
      subst hb0
      omega
end Go.Proofs.YtlfddhiimcophaaDoor
