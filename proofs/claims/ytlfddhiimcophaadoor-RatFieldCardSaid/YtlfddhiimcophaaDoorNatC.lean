/- Walks of package nat: words. -/
import Derived.Test.YtlfddhiimcophaaDoorNatB
import Derived.Laws.OwnMore
namespace Go.Proofs.YtlfddhiimcophaaDoor
open Go.RowKit
set_option linter.unusedVariables false
set_option linter.unusedSimpArgs false

theorem infoU32 : (Tryd.prog.info? 61).map (fun i => (i.zero, i.size, i.bytes)) = some (some (.int .u32 0), 1, 4) := by kernel_rfl
theorem infoU8 : (Tryd.prog.info? 5).map (fun i => (i.zero, i.size, i.bytes)) = some (some (.int .u8 0), 1, 1) := by kernel_rfl
/-- make([]word, n) -/
theorem make_words (n : Nat) (hn : n ≤ 70368744177664) (w : World) : (Instr.makeSlice 56 (.int .i64 (n : Int)) (.int .i64 (n : Int))).run Tryd.prog w = .ok (.slice (some ⟨w.heap.size, 0, none⟩) n n) (w.alloc (.cells (wcells (List.replicate n 0)) 61)) := by
  obtain ⟨i0, hi0, hz0, hz1, hz2⟩ := info_parts infoU32
  have hr := run_make_one (P := Tryd.prog) Tryd.underlying56 hi0 hz0 hz1 rfl n (by rw [hz2]; omega) (by omega) w
  rw [hr, wcells_zeros]

theorem bval_drop {l : List UInt8} {j : Nat} {c : UInt8} (h : l[j]? = some c) : bval (l.drop j) = c.toNat * 256 ^ (l.length - (j + 1)) + bval (l.drop (j + 1)) := by
  obtain ⟨hj, rfl⟩ := List.getElem?_eq_some_iff.1 h
  rw [List.drop_eq_getElem_cons hj, bval_cons, List.length_drop]

theorem words_any (s : ByteArray) (w : World) (hs : s.size ≤ 140737488355328) :
    Calls Tryd.prog 47 #[.string s] w fun e w' => ∃ g ws, e = .returned (.slice (some ⟨g, 0, none⟩) (List.length ws) ws.length) ∧ w.heap.size ≤ g ∧ Blk w' g 61 (wcells ws) ∧ Below w.heap.size w w' ∧ Wok ws ∧ wval ws = bval (toL s) ∧ ws.length = ((bstr (bval (toL s))).length + 3) / 4 := by
  have hlen : (bstr (bval (toL s))).length ≤ s.size := by
    rw [← strip_eq]; exact (List.dropWhile_suffix _).length_le
  go_enter Tryd.func47, Tryd.ntmps47
  go_wp2_with fail
  refine (trim_val s _ (by unfold maxLen; omega)).mono ?_
  rintro e w' ⟨rfl, rfl⟩
  generalize hv : bval (toL s) = v at *
  have HV := Lib.hid hv; clear hv
  obtain ⟨t, ht⟩ : ∃ t, t = S v := ⟨_, rfl⟩
  have htl : toL t = bstr v := by rw [ht]; rfl
  have hts : t.size = (bstr v).length := by rw [ht]; rfl
  rw [← ht]
  rw [← hts] at hlen
  have HT := Lib.hid (And.intro htl hts); clear htl hts ht
  have hmk := make_words ((t.size + 3) / 4) (by omega)
  have ec : (((t.size + 3) / 4 : Nat) : Int) = ((t.size : Int) + 3) / 4 := by omega
  rw [ec] at hmk
  go_wp2_with fail
  clear hmk
  have hbel0 : Below w.heap.size w (w.alloc (.cells (wcells (List.replicate ((t.size + 3) / 4) 0)) 61)) := (Below.refl _ _).alloc (Nat.le_refl _) _
  have HB0 := Lib.hid hbel0; clear hbel0
  go_loopg [15] t.size (fun k i wr => ∃ (j : Nat) (ws : List Nat), k = t.size - j ∧ j ≤ t.size ∧ i = .int .i64 j ∧ Hid (Below w.heap.size w wr) ∧ Hid (Blk wr w.heap.size 61 (wcells ws)) ∧ ws.length = (t.size + 3) / 4 ∧ Hid (Wok ws ∧ wval ws = bval ((toL t).drop (t.size - j))))
  case atStart => exact ⟨0, _, rfl, Nat.zero_le _, rfl, HB0.out, Blk.new _ _ _, by simp, Wok.zeros _, by rw [wval_zeros, Nat.sub_zero, show (toL t).drop t.size = [] from List.drop_length]; rfl⟩
  case round =>
    obtain ⟨j, ws, hgk, hj, rfl, hbel, hblk, hwl, hws⟩ := hrel
    have HGK := Lib.hid hgk; clear hgk
    by_cases hlt : j < t.size
    · obtain ⟨x, hx⟩ := get_of_lt rfl (show j / 4 < ws.length by omega)
      have e1 := (hblk.out.cell (j / 4)).trans (wcells_get hx)
      have e2 := hblk.out.frozen (j / 4)
      have HX := Lib.hid hx; clear hx
      have HWL := Lib.hid hwl; clear hwl
      have hq0 : (0 : Int) ≤ (t.size : Int) - 1 - j := by omega
      have hq1 : (t.size : Int) - 1 - j < (t.size : Int) := by omega
      have hq2 : ((t.size : Int) - 1 - j).toNat = t.size - 1 - j := by omega
      have hq3 : t.size - 1 - j < t.size := by omega
      have hq4 : (j : Int) ≤ (t.size : Int) - 1 := by omega
      have hj0 : (0 : Int) ≤ (j : Int) / 4 := by omega
      have hj1 : (j : Int) / 4 < ((t.size : Int) + 3) / 4 := by omega
      have hj2 : IntKind.i64.wrap ((j : Int) / 4) = (j : Int) / 4 := IntWalk.i64_in _ (by omega)
      have hj3 : ((j : Int) / 4).toNat = j / 4 := by omega
      go_wp2_with fail
      go_region
      all_goals go_wp2_with fail
      have hbyte : (toL t)[t.size - (j + 1)]? = some t[t.size - 1 - j] := by
        rw [show t.size - (j + 1) = t.size - 1 - j by omega]; exact toL_get t _ hq3
      have hdrop := bval_drop hbyte
      rw [show (toL t).length - (t.size - (j + 1) + 1) = j by show t.size - _ = _; omega, show t.size - (j + 1) + 1 = t.size - j by omega] at hdrop
      have hvlt : wval ws < 256 ^ j := by
        rw [hws.out.2]
        have := bval_lt ((toL t).drop (t.size - j))
        rwa [List.length_drop, show (toL t).length - (t.size - j) = j by show t.size - _ = _; omega] at this
      have hroom := word_room HX.out hvlt
      rw [or_word (by omega) hroom (t[t.size - 1 - j].toNat_lt)]
      have hnew : x + t[t.size - 1 - j].toNat * 256 ^ (j % 4) < 4294967296 := by
        have h1 : t[t.size - 1 - j].toNat ≤ 255 := by have := t[t.size - 1 - j].toNat_lt; omega
        have h2 := Nat.mul_le_mul_right (256 ^ (j % 4)) h1
        have h3 : 256 ^ (j % 4) ≤ 256 ^ 3 := Nat.pow_le_pow_right (by omega) (by omega)
        omega
      go_roundg (t.size - (j + 1))
      case measure => rw [HGK.out]; omega
      case rel =>
        refine ⟨j + 1, ws.set (j / 4) (x + t[t.size - 1 - j].toNat * 256 ^ (j % 4)), rfl, by omega, by go_num, (hbel.out.setCell (Nat.le_refl _) _).drew, ?_, by rw [List.length_set]; exact HWL.out, ?_, ?_⟩
        · rw [← wcells_set]; exact (hblk.out.set_ _ _).drew
        · exact hws.out.1.set _ hnew
        · rw [word_step HX.out, hws.out.2, hdrop]; omega
    · obtain rfl : j = t.size := by omega
      go_wp2_with fail
      go_ret
      refine ⟨w.heap.size, ws, by rw [hwl]; rfl, Nat.le_refl _, hblk.out, hbel.out, hws.out.1, ?_, by rw [hwl, HT.out.2, HV.out]⟩
      rw [hws.out.2, Nat.sub_self, List.drop_zero, HT.out.1, HV.out, bval_bstr]
end Go.Proofs.YtlfddhiimcophaaDoor
