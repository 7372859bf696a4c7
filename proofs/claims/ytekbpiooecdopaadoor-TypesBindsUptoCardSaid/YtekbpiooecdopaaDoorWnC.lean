/- Walks: IsNumber, Line (package word), NameIs, NumberIs (package gantref4). -/
import Derived.Test.YtekbpiooecdopaaDoorWnL
import Derived.Test.YtekbpiooecdopaaDoorWsh
import Derived.Test.YtekbpiooecdopaaDoorBunLib
import Derived.Deep.DeepCutAuto

namespace Go.Proofs.YtekbpiooecdopaaDoor
open Go.RowKit
set_option linter.unusedVariables false
set_option linter.unusedSimpArgs false

/-- the library's variable holds some number -/
def MaxL (w : World) : Prop := 0 < w.heap.size ∧ ∃ m, w.cell? ⟨0, 0, none⟩ = some (.int .i64 m)
theorem MaxL.below {w w' : World} (h : MaxL w) (hb : Below w.heap.size w w') : MaxL w' := by
  obtain ⟨h0, m, hm⟩ := h
  exact ⟨Nat.lt_of_lt_of_le h0 hb.size, m, (hb.cell (p := ⟨0, 0, none⟩) h0).trans hm⟩
theorem strTrim_any (s cs : ByteArray) (w : World) (hs : s.size ≤ 1048576) (hc : cs.size < 100) (ha : cs.data.toList.all (fun b => decide (b.toNat < 128)) = true) :
    Calls Tryd.prog 48 #[.string s, .string cs] w fun e w' => e = .returned (.string ⟨(Lib.trimS (bl s) cs.data.toList).toArray⟩) ∧ Below w.heap.size w w' :=
  Any.strings_Trim_laid Tryd.lays160 (by kernel_rfl) s cs w (by omega) (by omega) (ascii_of_all ha)


set_option maxHeartbeats 2000000 in
theorem nameIs_any (s : ByteArray) (w : World) (hs : s.size ≤ 1048576) :
    Calls Tryd.prog 37 #[.string s] w fun e w' => e = .returned (.bool (nameB (bl s))) ∧ Below w.heap.size w w' := by
  have HT := Lib.hid (strTrim_any s ⟨#[97, 98, 99, 100, 101, 102, 103, 104, 105, 106, 107, 108, 109, 110, 111, 112, 113, 114, 115, 116, 117, 118, 119, 120, 121, 122]⟩ w hs (by decide) (by decide))
  have HL := Lib.hid (bl_len s)
  have HR := Lib.hid (docB_name (bl s)).symm
  rcases Nat.eq_zero_or_pos s.size with h0 | h0
  · have HV := Lib.hid (show nameB (bl s) = false from shortB_nil (by rw [bl_len, h0]))
    have e0 : s.toList.isEmpty = true := by
      rw [Lib.toList_data, List.isEmpty_iff]; exact List.length_eq_zero_iff.1 (by have := bl_len s; unfold bl at this; omega)
    clear h0
    go_enter Tryd.func37, Tryd.ntmps37
    go_wp2_with fail
    go_ret
    exact ⟨ret_bool HV.out.symm, Below.refl _ _⟩
  have e0 : s.toList.isEmpty = false := by
    rw [Lib.toList_data]
    cases h : s.data.toList with
    | nil => have := bl_len s; unfold bl at this; rw [h, List.length_nil] at this; omega
    | cons _ _ => rfl
  rcases Nat.lt_or_ge 12 s.size with h1 | h1
  · have HV := Lib.hid (show nameB (bl s) = false from shortB_long (by rw [bl_len]; omega))
    go_enter Tryd.func37, Tryd.ntmps37
    go_wp2_with fail
    go_ret
    exact ⟨ret_bool HV.out.symm, Below.refl _ _⟩
  have HD := Lib.hid (show docB lettersL 12 (bl s) = decide (Lib.trimS (bl s) lettersL = []) by unfold docB; rw [bl_len, decide_eq_true (show 1 ≤ s.size from h0), decide_eq_true h1]; rfl)
  have HT2 : Hid (Calls Tryd.prog 48 #[.string s, .string ⟨#[97, 98, 99, 100, 101, 102, 103, 104, 105, 106, 107, 108, 109, 110, 111, 112, 113, 114, 115, 116, 117, 118, 119, 120, 121, 122]⟩] w fun e w' => e = .returned (.string ⟨(Lib.trimS (bl s) lettersL).toArray⟩) ∧ Below w.heap.size w w') := HT
  clear HT
  generalize Lib.trimS (bl s) lettersL = t at HT2 HD
  have e2 : (⟨t.toArray⟩ : ByteArray).toList.isEmpty = decide (t = []) := by rw [Lib.toList_data]; cases t <;> rfl
  generalize decide (t = []) = b at e2 HD
  generalize (⟨t.toArray⟩ : ByteArray) = T at e2 HT2
  go_enter Tryd.func37, Tryd.ntmps37
  go_wp2_with (go_at_call 48; refine HT2.out.mono ?_; rintro e w' ⟨rfl, hw⟩; have HW := Lib.hid hw; clear hw)
  go_ret
  exact ⟨ret_bool (by rw [HR.out, HD.out]), HW.out⟩


end Go.Proofs.YtekbpiooecdopaaDoor
