/- Walks: IsNumber, Line (package word), NameIs, NumberIs (package gantref4). -/
import Derived.Test.YtdhhbpnnahdofaaDoorWnL
import Derived.Test.YtdhhbpnnahdofaaDoorWsh
import Derived.Test.YtdhhbpnnahdofaaDoorMem
import Derived.Deep.DeepCutAuto

namespace Go.Proofs.YtdhhbpnnahdofaaDoor
open Go.RowKit
set_option linter.unusedVariables false
set_option linter.unusedSimpArgs false

/-- the library's variable holds some number -/
def MaxL (w : World) : Prop := 0 < w.heap.size ∧ ∃ m, w.cell? ⟨0, 0, none⟩ = some (.int .i64 m)
theorem MaxL.below {w w' : World} (h : MaxL w) (hb : Below w.heap.size w w') : MaxL w' := by
  obtain ⟨h0, m, hm⟩ := h
  exact ⟨Nat.lt_of_lt_of_le h0 hb.size, m, (hb.cell (p := ⟨0, 0, none⟩) h0).trans hm⟩
theorem trim_any (s cs : ByteArray) (w : World) (hs : s.size ≤ 1048576) (hc : cs.size < 100) (ha : cs.data.toList.all (fun b => decide (b.toNat < 128)) = true) :
    Calls Tryd.prog 124 #[.string s, .string cs] w fun e w' => e = .returned (.string ⟨(Lib.trimS (bl s) cs.data.toList).toArray⟩) ∧ Below w.heap.size w w' :=
  Any.strings_Trim_laid Tryd.lays160 (by kernel_rfl) s cs w (by omega) (by omega) (ascii_of_all ha)
theorem cut_any (s : ByteArray) (w : World) (hs : s.size ≤ 1048576) (h : MaxL w) :
    Calls Tryd.prog 127 #[.string s, .string ⟨#[47]⟩] w fun e w' => e = .returned (.tuple #[.string ⟨(Lib.cut (bl s) [47]).1.toArray⟩, .string ⟨(Lib.cut (bl s) [47]).2.1.toArray⟩, .bool (Lib.cut (bl s) [47]).2.2]) ∧ ∃ n, w' = w.drewN n := by
  obtain ⟨h0, m, hm⟩ := h
  exact Tryd.strings_Cut s ⟨#[47]⟩ m w (by omega) hm
theorem bl_mk (l : List UInt8) : bl ⟨l.toArray⟩ = l := rfl

set_option maxHeartbeats 2000000 in
theorem isNumber_drew (s : ByteArray) (w : World) (hs : s.size ≤ 1048576) (h : MaxL w) :
    Calls Tryd.prog 67 #[.string s] w fun e w' => e = .returned (.bool (numB (bl s))) ∧ ∃ n, w' = w.drewN n := by
  have HC := Lib.hid (cut_any s w hs h)
  have HR := Lib.hid (show numB (bl s) = (digsB (Lib.cut (bl s) [47]).1 && (!(Lib.cut (bl s) [47]).2.2 || digsB (Lib.cut (bl s) [47]).2.1)) from rfl)
  generalize hb : bl s = l at HC HR ⊢
  clear hb
  have e1 := digits_any ⟨(Lib.cut l [47]).1.toArray⟩
  have e2 := digits_any ⟨(Lib.cut l [47]).2.1.toArray⟩
  rw [bl_mk] at e1 e2
  generalize hp : (Lib.cut l [47]).1 = p at HC HR e1
  generalize hq : (Lib.cut l [47]).2.1 = q at HC HR e2
  generalize hf : (Lib.cut l [47]).2.2 = f at HC HR
  clear hp hq hf
  generalize hd : digsB p = x at HR e1
  generalize hd2 : digsB q = y at HR e2
  clear hd hd2
  generalize (⟨p.toArray⟩ : ByteArray) = P at HC e1
  generalize (⟨q.toArray⟩ : ByteArray) = Q at HC e2
  have E1 := Lib.hid e1
  have E2 := Lib.hid e2
  clear e1 e2 hs h
  cases x <;> cases f <;> cases y
  all_goals
    go_enter Tryd.func67, Tryd.ntmps67
    go_upto_region 1 with (fail)
    go_upto_region 2 with (go_at_call 127; refine HC.out.mono ?_; rintro e w' ⟨rfl, hw⟩; have HW := Lib.hid hw; clear hw)
    go_wp2_with (go_at_call 128; (first | with_reducible refine (E1.out _).mono ?_ | with_reducible refine (E2.out _).mono ?_); rintro e w' ⟨rfl, hw⟩; rw [hw])
    go_ret
    exact ⟨ret_bool HR.out.symm, HW.out⟩
theorem isNumber_any (s : ByteArray) (w : World) (hs : s.size ≤ 1048576) (h : MaxL w) :
    Calls Tryd.prog 67 #[.string s] w fun e w' => e = .returned (.bool (numB (bl s))) ∧ Below w.heap.size w w' := by
  refine (isNumber_drew s w hs h).mono ?_
  rintro e w' ⟨h1, n, h2⟩
  exact ⟨h1, h2 ▸ below_drewN (Below.refl _ _) n⟩

set_option maxHeartbeats 2000000 in
theorem nameIs_any (s : ByteArray) (w : World) (hs : s.size ≤ 1048576) :
    Calls Tryd.prog 64 #[.string s] w fun e w' => e = .returned (.bool (nameB (bl s))) ∧ Below w.heap.size w w' := by
  have HT := Lib.hid (trim_any s ⟨#[97, 98, 99, 100, 101, 102, 103, 104, 105, 106, 107, 108, 109, 110, 111, 112, 113, 114, 115, 116, 117, 118, 119, 120, 121, 122]⟩ w hs (by decide) (by decide))
  have HL := Lib.hid (bl_len s)
  have HR := Lib.hid (docB_name (bl s)).symm
  rcases Nat.eq_zero_or_pos s.size with h0 | h0
  · have HV := Lib.hid (show nameB (bl s) = false from shortB_nil (by rw [bl_len, h0]))
    have e0 : s.toList.isEmpty = true := by
      rw [Lib.toList_data, List.isEmpty_iff]; exact List.length_eq_zero_iff.1 (by have := bl_len s; unfold bl at this; omega)
    clear h0
    go_enter Tryd.func64, Tryd.ntmps64
    go_wp2_with fail
    go_ret
    exact ⟨ret_bool HV.out.symm, Below.refl _ _⟩
  have e0 : s.toList.isEmpty = false := by
    rw [Lib.toList_data]
    cases h : s.data.toList with
    | nil => have := bl_len s; unfold bl at this; rw [h, List.length_nil] at this; omega
    | cons _ _ => rfl
  rcases Nat.lt_or_ge 12 s.size with h1 | h1
  · have HV := Lib.hid (show nameB (bl s) = false from shortB_long (by rw [bl_len]; omega))
    go_enter Tryd.func64, Tryd.ntmps64
    go_wp2_with fail
    go_ret
    exact ⟨ret_bool HV.out.symm, Below.refl _ _⟩
  have HD := Lib.hid (show docB lettersL 12 (bl s) = decide (Lib.trimS (bl s) lettersL = []) by unfold docB; rw [bl_len, decide_eq_true (show 1 ≤ s.size from h0), decide_eq_true h1]; rfl)
  have HT2 : Hid (Calls Tryd.prog 124 #[.string s, .string ⟨#[97, 98, 99, 100, 101, 102, 103, 104, 105, 106, 107, 108, 109, 110, 111, 112, 113, 114, 115, 116, 117, 118, 119, 120, 121, 122]⟩] w fun e w' => e = .returned (.string ⟨(Lib.trimS (bl s) lettersL).toArray⟩) ∧ Below w.heap.size w w') := HT
  clear HT
  generalize Lib.trimS (bl s) lettersL = t at HT2 HD
  have e2 : (⟨t.toArray⟩ : ByteArray).toList.isEmpty = decide (t = []) := by rw [Lib.toList_data]; cases t <;> rfl
  generalize decide (t = []) = b at e2 HD
  generalize (⟨t.toArray⟩ : ByteArray) = T at e2 HT2
  go_enter Tryd.func64, Tryd.ntmps64
  go_wp2_with (go_at_call 124; refine HT2.out.mono ?_; rintro e w' ⟨rfl, hw⟩; have HW := Lib.hid hw; clear hw)
  go_ret
  exact ⟨ret_bool (by rw [HR.out, HD.out]), HW.out⟩


end Go.Proofs.YtdhhbpnnahdofaaDoor
