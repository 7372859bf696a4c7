/- Walks: NumberIs (package gantref4); WordValid, Valid. -/
import Derived.Test.YtdhhbpnnahdofaaDoorWnC

namespace Go.Proofs.YtdhhbpnnahdofaaDoor
open Go.RowKit
set_option linter.unusedVariables false
set_option linter.unusedSimpArgs false

theorem emp_yes {s : ByteArray} (h : s.size = 0) : s.toList.isEmpty = true := by
  rw [Lib.toList_data, List.isEmpty_iff]; exact List.length_eq_zero_iff.1 (by have := bl_len s; unfold bl at this; omega)
theorem emp_no {s : ByteArray} (h : 0 < s.size) : s.toList.isEmpty = false := by
  rw [Lib.toList_data]
  cases h : s.data.toList with
  | nil => have := bl_len s; unfold bl at this; rw [h, List.length_nil] at this; omega
  | cons _ _ => rfl
/-- Trim at the digits: empty exactly if the text consists of digits -/
theorem trimD_any (s : ByteArray) (w : World) (hs : s.size ≤ 1048576) (h1 : 1 ≤ s.size) (h9 : s.size ≤ 9) :
    ∃ T : ByteArray, T.toList.isEmpty = digsB (bl s) ∧ ∀ w, Calls Tryd.prog 124 #[.string s, .string ⟨#[48, 49, 50, 51, 52, 53, 54, 55, 56, 57]⟩] w fun e w' => e = .returned (.string T) ∧ Below w.heap.size w w' := by
  refine ⟨⟨(Lib.trimS (bl s) digitsL).toArray⟩, ?_, fun w => trim_any s ⟨#[48, 49, 50, 51, 52, 53, 54, 55, 56, 57]⟩ w hs (by decide) (by decide)⟩
  rw [← docB_digs]
  unfold docB
  rw [bl_len, decide_eq_true h1, decide_eq_true h9, Lib.toList_data]
  cases Lib.trimS (bl s) digitsL <;> rfl

/-- the pieces lie at a block -/
def Pcs (w : World) (B : Nat) (ps : List ByteArray) : Prop := B < w.heap.size ∧ ∀ (j : Nat) p, ps[j]? = some p → w.cell? ⟨B, j, none⟩ = some (.string p)
theorem Pcs.below {w w' : World} {B : Nat} {ps : List ByteArray} (h : Pcs w B ps) (hb : Below w.heap.size w w') : Pcs w' B ps :=
  ⟨Nat.lt_of_lt_of_le h.1 hb.size, fun j p hp => (hb.cell (p := ⟨B, j, none⟩) h.1).trans (h.2 j p hp)⟩
theorem Pcs.new (w : World) (ps : List ByteArray) (t : TypeId) : Pcs (w.alloc (.cells (ps.map Value.string).toArray t)) w.heap.size ps := by
  refine ⟨by simp, fun j p hp => ?_⟩
  rw [World.cell?_alloc_at _ _ _ _ (by simp)]
  rw [List.getElem?_toArray, List.getElem?_map, hp]; rfl
theorem below_at {n B : Nat} {w wr : World} (h : Hid (n = B)) (hb : Below B w wr) : Below n w wr := by rw [h.out]; exact hb
def padB (p : ByteArray) : Bool := digsB (bl p)

set_option maxHeartbeats 2000000 in
theorem numberIs_any (s : ByteArray) (w : World) (hs : s.size ≤ 1048576) (h : MaxL w) :
    Calls Tryd.prog 65 #[.string s] w fun e w' => e = .returned (.bool (numB (bl s))) ∧ Below w.heap.size w w' := by
  obtain ⟨h0, m, hm⟩ := h
  have HC := Lib.hid (Tryd.strings_Split s ⟨#[47]⟩ m w (by omega) hm (by decide))
  have hlen := Lib.splitB_all ⟨#[47]⟩ (by decide) 0 _ s rfl
  have hpc : ∀ p, p ∈ Lib.splitB ⟨#[47]⟩ 0 (Lib.countB s ⟨#[47]⟩) s → p.size ≤ s.size := fun p hp => split_pieces p hp
  have hnum : (Lib.splitB ⟨#[47]⟩ 0 (Lib.countB s ⟨#[47]⟩) s).map (fun p => bl p) = Lib.split (bl s) [47] := Lib.splitB_data ⟨#[47]⟩ 0 _ s
  have hcle : Lib.countB s ⟨#[47]⟩ ≤ s.size := Lib.countB_le ⟨#[47]⟩ (by decide) s.size s (Nat.le_refl _)
  generalize hn : Lib.countB s ⟨#[47]⟩ = c at *
  generalize hps : Lib.splitB ⟨#[47]⟩ 0 c s = ps at *
  have HN := Lib.hid (num_eq (bl s))
  rw [← hnum] at HN
  have HPS : Hid (∀ p ∈ ps, p.size ≤ 1048576) := Lib.hid fun p hp => by have := hpc p hp; omega
  have HL := Lib.hid hlen
  clear hn hps hnum hpc hlen hm h0
  have hc1 : c + 1 ≤ 1048577 := by omega
  clear hcle hs
  generalize hk : c + 1 = n at *
  clear hk
  have hem : ((n : Int) ≤ 9223372036854775807) := by omega
  go_enter Tryd.func65, Tryd.ntmps65
  go_upto_region 2 with (go_at_call 125; refine HC.out.mono ?_; rintro e w' ⟨rfl, rfl⟩)
  have HP := Lib.hid (Pcs.new w ps 9)
  have HB := Lib.hid ((Below.refl w.heap.size w).alloc (Nat.le_refl _) (.cells (ps.map Value.string).toArray 9))
  generalize World.alloc w _ = w1 at *
  generalize hB : w.heap.size = B at *
  have HBE := Lib.hid hB
  clear hB
  go_wp2_with fail
  go_loopg [10] n (fun k i wr => ∃ j : Nat, k = n - j ∧ j ≤ n ∧ i = .int .i64 j ∧ Hid (Below B w wr) ∧ Hid (Pcs wr B ps) ∧ Hid (∀ i < j, ∀ p, ps[i]? = some p → padB p = true))
  case atStart => exact ⟨0, rfl, Nat.zero_le _, rfl, HB, HP, fun i hi => absurd hi (Nat.not_lt_zero _)⟩
  case round =>
    obtain ⟨j, hgk, hj, rfl, hbel, hpc, hall⟩ := hrel
    have HGK := Lib.hid hgk; clear hgk
    by_cases hlt : j < n
    · obtain ⟨p, hp⟩ : ∃ p, ps[j]? = some p := ⟨_, List.getElem?_eq_getElem (by rw [HL.out]; exact hlt)⟩
      have hcell := hpc.out.2 j p hp
      have HPZ := Lib.hid (HPS.out p (List.mem_of_getElem? hp))
      have HPJ := Lib.hid hp
      clear hp
      have HBAD : Hid (padB p = false → numB (bl s) = false) := Lib.hid fun hb => by
        rw [← HN.out]
        unfold numR
        rw [show (ps.map fun p => bl p).all digsB = false from ?_, Bool.false_and]
        rw [List.all_eq_false]
        exact ⟨bl p, List.mem_map.2 ⟨p, List.mem_of_getElem? HPJ.out, rfl⟩, by unfold padB at hb; rw [hb]; decide⟩
      rcases Nat.eq_zero_or_pos p.size with hz | hz
      · have e0 := emp_yes hz
        have HR := Lib.hid (HBAD.out (shortB_nil (by rw [bl_len, hz])))
        clear hz
        go_wp2_with fail
        go_ret
        exact ⟨ret_bool HR.out.symm, below_at HBE hbel.out⟩
      have e0 := emp_no hz
      rcases Nat.lt_or_ge 9 p.size with h9 | h9
      · have HR := Lib.hid (HBAD.out (shortB_long (by rw [bl_len]; exact h9)))
        go_wp2_with fail
        go_ret
        exact ⟨ret_bool HR.out.symm, below_at HBE hbel.out⟩
      obtain ⟨T, hT, hcall⟩ := trimD_any p wr HPZ.out hz h9
      have HCALL := Lib.hid hcall
      clear hcall hz
      cases hd : digsB (bl p) <;> rw [hd] at hT
      · have HR := Lib.hid (HBAD.out hd)
        clear hd
        go_wp2_with (go_at_call 124; refine (HCALL.out _).mono ?_; rintro e w' ⟨rfl, hw⟩; have HW := Lib.hid hw; clear hw)
        go_ret
        exact ⟨ret_bool HR.out.symm, below_at HBE <| hbel.out.trans (HW.out.mono (by have h1 := hbel.out.size; have h2 := HBE.out; omega))⟩
      · have HD := Lib.hid hd
        clear hd
        go_wp2_with (go_at_call 124; refine (HCALL.out _).mono ?_; rintro e w' ⟨rfl, hw⟩; have HW := Lib.hid hw; clear hw)
        go_roundg (n - (j + 1))
        case measure => rw [HGK.out]; omega
        case rel =>
          refine ⟨j + 1, rfl, by omega, by go_num, Lib.hid (hbel.out.trans (HW.out.mono (by have h1 := hbel.out.size; have h2 := HBE.out; omega))), Lib.hid (hpc.out.below HW.out), Lib.hid fun i hi q hq => ?_⟩
          rcases Nat.lt_or_eq_of_le (Nat.le_of_lt_succ hi) with h | h
          · exact hall.out i h q hq
          · subst h
            rw [HPJ.out] at hq
            injection hq with hq
            subst hq
            exact HD.out
    · have HR : Hid (numB (bl s) = decide (n < 3)) := Lib.hid (by
        rw [← HN.out]
        unfold numR
        rw [List.length_map, HL.out, show (ps.map fun p => bl p).all digsB = true from ?_, Bool.true_and]
        rw [List.all_eq_true]
        intro x hx
        obtain ⟨p, hp, rfl⟩ := List.mem_map.1 hx
        obtain ⟨i, hi⟩ := List.getElem?_of_mem hp
        exact hall.out i (by have := (List.getElem?_eq_some_iff.1 hi).1; rw [HL.out] at this; omega) p hi)
      have e3 : decide ((n : Int) < 3) = decide (n < 3) := by
        by_cases h : n < 3
        · rw [decide_eq_true h, decide_eq_true (by omega)]
        · rw [decide_eq_false h, decide_eq_false (by omega)]
      have E3 := Lib.hid e3
      clear e3
      go_wp2_with fail
      all_goals go_ret
      all_goals exact ⟨ret_bool (by rw [HR.out, ← E3.out]), below_at HBE hbel.out⟩
end Go.Proofs.YtdhhbpnnahdofaaDoor
