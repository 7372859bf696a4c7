/- Walk: slices.Repeat of one integer. -/
import Derived.Test.YtnaiflokmihmeaaAwA
import Derived.Laws.CopyRow
import Derived.Laws.CopyOwn
import Derived.Laws.MakeOwn
import Derived.Laws.IdiomCopy
namespace Go.Proofs.Ytnaiflokmihmeaa
open Go.RowKit
set_option linter.unusedVariables false
set_option linter.unusedSimpArgs false

theorem made_one (z : Value) (n : Nat) : madeCells #[z] n = Array.replicate n z := by
  apply Array.ext
  · simp [madeCells]
  · intro i h1 h2
    simp [madeCells, Nat.mod_one]
theorem run_make_one {P : Program} {t e : TypeId} {i : TypeInfo} {z : Value} (ht : P.underlying t = some (.slice e)) (hi : P.info? e = some i) (hz : i.zero = some z) (hz1 : i.size = 1) (hzc : z.cells = #[z])
    (n : Nat) (hb : i.bytes * n ≤ 281474976710656) (h63 : n ≤ 9223372036854775807) (w : World) :
    (Instr.makeSlice t (.int .i64 (n : Int)) (.int .i64 (n : Int))).run P w = .ok (.slice (some ⟨w.heap.size, 0, none⟩) n n) (w.alloc (.cells (Array.replicate n z) e)) := by
  have hb' : (i.bytes : Int) * (n : Int) ≤ 281474976710656 := by
    have h : ((i.bytes * n : Nat) : Int) ≤ 281474976710656 := Int.ofNat_le.2 hb
    rwa [Int.natCast_mul] at h
  have hr := run_make (P := P) w t e i z ht hi hz .i64 .i64 n n (by omega) (by omega) hb' (by omega)
  simp only [Int.toNat_natCast] at hr
  rw [hr, hz1, Nat.mul_one, hzc, made_one]
set_option maxHeartbeats 2000000 in
theorem bmul_any (k : Nat) (hk : k ≤ 6) (w : World) : Calls Try.prog 81 #[.int .u64 1, .int .u64 (k : Int)] w fun e w' => e = .returned (.tuple #[.int .u64 0, .int .u64 (k : Int)]) ∧ w' = w := by
  have h7 : k = 0 ∨ k = 1 ∨ k = 2 ∨ k = 3 ∨ k = 4 ∨ k = 5 ∨ k = 6 := by omega
  have HM : Hid (Calls Try.prog 107 #[.int .u64 1, .int .u64 (k : Int)] w fun e w' => e = .returned (.tuple #[.int .u64 0, .int .u64 (k : Int)]) ∧ w' = w) := Lib.hid (by
    rcases h7 with rfl | rfl | rfl | rfl | rfl | rfl | rfl
    all_goals
      go_enter Try.func107, Try.ntmps107
      go_wp2_with fail
      go_ret2
      exact ⟨rfl, rfl⟩)
  clear h7
  go_enter Try.func81, Try.ntmps81
  go_wp2_with fail
  refine HM.out.mono ?_
  rintro e w2 ⟨rfl, rfl⟩
  go_wp2_with fail
  go_ret2
  exact ⟨rfl, rfl⟩
/-- n times -1, then zeros -/
def repL (n k : Nat) : List Value := List.replicate n (.int .i64 (-1)) ++ List.replicate (k - n) (.int .i64 0)
theorem repL_length {n k : Nat} (h : n ≤ k) : (repL n k).length = k := by simp [repL]; omega
theorem repL_copy {n q k : Nat} (h : n + q ≤ k) : (repL n k).take n ++ List.replicate q (.int .i64 (-1)) ++ (repL n k).drop (n + q) = repL (n + q) k := by
  have h1 : (repL n k).take n = List.replicate n (.int .i64 (-1)) := by unfold repL; rw [List.take_left' (by simp)]
  have h2 : (repL n k).drop (n + q) = List.replicate (k - (n + q)) (.int .i64 0) := by
    unfold repL
    rw [List.drop_append]
    simp
    omega
  rw [h1, h2, List.replicate_append_replicate]
  rfl
theorem repL_full {k : Nat} : repL k k = cellsI (List.replicate k (-1)) := by simp [repL, cellsI]
theorem repL_get {n k j : Nat} {v : Value} (h : (List.replicate n (Value.int .i64 (-1)))[j]? = some v) : (repL n k)[j]? = some v := by
  unfold repL
  have hl := (List.getElem?_eq_some_iff.1 h).1
  rw [List.getElem?_append_left hl]; exact h
theorem own_rep {w : World} {g k base : Nat} (h : Blk w g 3 (repL k k).toArray) (hb : base ≤ g) (hk : k ≤ 6 := by omega) : w.ownsRow base 3 1 (.slice (some ⟨g, 0, none⟩) k k) k (cellsI (List.replicate k (-1))) := by
  refine ⟨by simp [cellsI], .inr ⟨g, k, _, rfl, hb, h, Nat.le_refl _, by unfold maxLen; omega, by simp [repL], ?_⟩⟩
  simp [repL_full, cellsI]
set_option maxHeartbeats 2000000 in
set_option maxRecDepth 20000 in
theorem repeatI_any (k : Nat) (hk : k ≤ 6) (g0 : Nat) (w : World) (h : Blk w g0 3 #[.int .i64 (-1)]) :
    Calls Try.prog 44 #[.slice (some ⟨g0, 0, none⟩) 1 1, .int .i64 (k : Int)] w (ClonePost 3 k (cellsI (List.replicate k (-1))) w) := by
  have HM := Lib.hid (bmul_any k hk w)
  obtain ⟨i0, hi0, hz0, hz1, hz2⟩ := info_parts infoI
  have hmk := run_make_one (P := Try.prog) Try.underlying22 hi0 hz0 hz1 rfl k (by rw [hz2]; omega) (by omega) w
  have HB : Hid (Blk (w.alloc (.cells (Array.replicate k (.int .i64 0)) 3)) w.heap.size 3 (repL 0 k).toArray ∧ Blk (w.alloc (.cells (Array.replicate k (.int .i64 0)) 3)) g0 3 #[.int .i64 (-1)] ∧ Below w.heap.size w (w.alloc (.cells (Array.replicate k (.int .i64 0)) 3))) := Lib.hid (by
    have he : (repL 0 k).toArray = Array.replicate k (.int .i64 0) := by simp [repL]
    rw [he]
    exact ⟨Blk.new _ _ _, h.alloc _, (Below.refl _ _).alloc (Nat.le_refl _) _⟩)
  go_enter Try.func44, Try.ntmps44
  go_wp2_with fail
  refine HM.out.mono ?_
  rintro e w2 ⟨rfl, rfl⟩
  have hk1 : (k : Int) ≤ 9223372036854775807 := by omega
  go_upto_region 7 with fail
  generalize World.alloc w2 _ = w3 at *
  clear hmk HM
  by_cases hk0 : k = 0
  · subst hk0
    have hcp := run_copy_none (P := Try.prog) w3 22 22 3 3 (some ⟨w2.heap.size, 0, none⟩) (some ⟨g0, 0, none⟩) 0 0 1 1 Try.underlying22 (by rw [hi0, ← hz1]; rfl) rfl
    clear hi0 hz0 hz1 hz2 h
    go_wp2_with fail
    refine wp_loop_rounds 1 ?_
    rw [rounds_succ]
    go_wp2_with fail
    go_ret
    exact ⟨_, rfl, own_rep HB.out.1 (Nat.le_refl _), HB.out.2.2⟩
  · have hk3 : 1 ≤ k := by omega
    have hsz : (Try.prog.info? 3).map (·.size) = some 1 := by rw [hi0, ← hz1]; rfl
    have hcp : (Builtin.copy_ #[22, 22] 3 #[.slice (some ⟨w2.heap.size, 0, none⟩) k k, .slice (some ⟨g0, 0, none⟩) 1 1]).run Try.prog w3 = .ok (.int .i64 1) (w3.setRow w2.heap.size (repL 1 k).toArray) := by
      have h8 := run_copy_row (P := Try.prog) w3 22 22 3 3 w2.heap.size 0 k k ⟨g0, 0, none⟩ 1 1 (repL 0 k).toArray 3 [.int .i64 (-1)] Try.underlying22 hsz HB.out.1 (Nat.min_eq_left hk3).symm (fun j v hj => by
        have h9 := HB.out.2.1.cell j
        cases j with
        | zero => simp at hj; subst hj; exact h9
        | succ j => simp at hj) (by simp [repL]; omega) (fun v hv => by simp at hv; subst hv; rfl)
      have he : ((repL 0 k).toArray.toList.take 0 ++ [Value.int .i64 (-1)] ++ (repL 0 k).toArray.toList.drop (0 + [Value.int .i64 (-1)].length)).toArray = (repL 1 k).toArray := by
        have := repL_copy (n := 0) (q := 1) (k := k) (by omega)
        simpa using congrArg List.toArray this
      rw [he] at h8
      exact h8
    have HSZ := Lib.hid hsz
    have HR := Lib.hid (show Blk (w3.setRow w2.heap.size (repL 1 k).toArray) w2.heap.size 3 (repL 1 k).toArray ∧ Below w2.heap.size w2 (w3.setRow w2.heap.size (repL 1 k).toArray) from ⟨setRow_heap _ _ _ _ _ _ HB.out.1, below_setRow HB.out.2.2 (Nat.le_refl _) _⟩)
    clear hsz hi0 hz0 hz1 hz2 h HB
    go_wp2_with fail
    go_loopg [8] (k - 1) (fun kx i wr => ∃ n : Nat, kx = k - n ∧ 1 ≤ n ∧ n ≤ k ∧ i = .int .i64 n ∧ Hid (Blk wr w2.heap.size 3 (repL n k).toArray ∧ Below w2.heap.size w2 wr))
    case atStart => exact ⟨1, rfl, Nat.le_refl _, hk3, rfl, HR⟩
    case round =>
      clear HR hcp
      obtain ⟨n, hgk, hn1, hnk, rfl, HR⟩ := hrel
      have HGK := Lib.hid hgk; clear hgk
      by_cases hlt : n < k
      · have hcp : ∀ q, q = Nat.min n (k - n) → (Builtin.copy_ #[22, 22] 3 #[.slice (some ⟨w2.heap.size, n, none⟩) (k - n) (k - n), .slice (some ⟨w2.heap.size, 0, none⟩) n k]).run Try.prog wr.drew = .ok (.int .i64 (q : Int)) (wr.drew.setRow w2.heap.size (repL (n + q) k).toArray) := by
          intro q hq
          have hq3 : q = n ∨ q = k - n := by
            rcases Nat.le_total n (k - n) with h9 | h9
            · exact .inl (hq.trans (Nat.min_eq_left h9))
            · exact .inr (hq.trans (Nat.min_eq_right h9))
          have hq4 : q ≤ n := by rw [hq]; exact Nat.min_le_left _ _
          have hq5 : q ≤ k - n := by rw [hq]; exact Nat.min_le_right _ _
          have hq2 : n + q ≤ k := by omega
          have h8 := run_copy_row (P := Try.prog) wr.drew 22 22 3 3 w2.heap.size n (k - n) (k - n) ⟨w2.heap.size, 0, none⟩ n k (repL n k).toArray 3 (List.replicate q (.int .i64 (-1))) Try.underlying22 HSZ.out HR.out.1.drew (by rw [List.length_replicate]; exact hq) (fun j v hj => by
            have h9 := HR.out.1.drew.cell j
            have hl := (List.getElem?_eq_some_iff.1 hj).1
            rw [List.length_replicate] at hl
            have h10 : (List.replicate n (Value.int .i64 (-1)))[j]? = some v := by
              rw [List.getElem?_replicate] at hj ⊢
              rw [if_pos hl] at hj
              rw [if_pos (by omega)]
              exact hj
            have h11 := repL_get (k := k) h10
            rw [show (Addr.add ⟨w2.heap.size, 0, none⟩ j : Addr) = ⟨w2.heap.size, j, none⟩ from by simp [Addr.add]; omega]
            rw [h9]
            simpa using h11) (by simp [repL]; omega) (fun v hv => by have := List.eq_of_mem_replicate hv; subst this; rfl)
          have he : ((repL n k).toArray.toList.take n ++ List.replicate q (Value.int .i64 (-1)) ++ (repL n k).toArray.toList.drop (n + (List.replicate q (Value.int .i64 (-1))).length)).toArray = (repL (n + q) k).toArray := by
            have := repL_copy (n := n) (q := q) (k := k) hq2
            simpa using congrArg List.toArray this
          rw [he, List.length_replicate] at h8
          exact h8
        obtain ⟨q, hq⟩ : ∃ q, q = Nat.min n (k - n) := ⟨_, rfl⟩
        have hcq := hcp q hq
        have hq1 : 1 ≤ q ∧ n + q ≤ k := by
          have h8 : q = n ∨ q = k - n := by
            rcases Nat.le_total n (k - n) with h9 | h9
            · exact .inl (hq.trans (Nat.min_eq_left h9))
            · exact .inr (hq.trans (Nat.min_eq_right h9))
          have hq5 : q ≤ k - n := by rw [hq]; exact Nat.min_le_right _ _
          clear hq hcq hcp
          omega
        obtain ⟨hq1, hq2⟩ := hq1
        clear hcp hq
        have HR2 : Hid (Blk (wr.drew.setRow w2.heap.size (repL (n + q) k).toArray) w2.heap.size 3 (repL (n + q) k).toArray ∧ Below w2.heap.size w2 (wr.drew.setRow w2.heap.size (repL (n + q) k).toArray)) := Lib.hid ⟨setRow_heap _ _ _ _ _ _ HR.out.1.drew, below_setRow HR.out.2.drew (Nat.le_refl _) _⟩
        have i1 : (0 : Int) ≤ (n : Int) := by omega
        have i2 : (n : Int) ≤ (k : Int) := by omega
        go_wp2_with fail
        go_region
        all_goals
          go_wp2_with fail
          go_roundg (k - (n + q))
          case measure => rw [HGK.out]; omega
          case rel => exact ⟨n + q, rfl, by omega, hq2, by go_num, HR2⟩
      · obtain rfl : n = k := by omega
        go_wp2_with fail
        go_ret
        exact ⟨_, rfl, own_rep HR.out.1 (Nat.le_refl _), HR.out.2⟩
end Go.Proofs.Ytnaiflokmihmeaa
