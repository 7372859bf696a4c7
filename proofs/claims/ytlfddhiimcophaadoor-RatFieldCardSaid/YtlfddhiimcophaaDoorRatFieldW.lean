/- The walk of RatField (printed by ratlaw.py). -/
import Derived.Test.YtlfddhiimcophaaDoorRatM
import Derived.Deep.RegionLaw
namespace Go.Proofs.YtlfddhiimcophaaDoor
open Go.RowKit
set_option linter.unusedVariables false
set_option linter.unusedSimpArgs false

section
variable {w w' : World} {n : Nat} {s_a s_b s_c : Bool} {a_a d_a a_b d_b a_c d_c : ByteArray}
theorem QL.nine (h : Hid (QL w n [(s_a, a_a, d_a), (s_b, a_b, d_b), (s_c, a_c, d_c)] w')) : w'.cell? ⟨n, 0, none⟩ = some (.bool s_a) ∧ w'.cell? ⟨n, 1, none⟩ = some (.string a_a) ∧ w'.cell? ⟨n, 2, none⟩ = some (.string d_a) ∧ w'.cell? ⟨n + 1, 0, none⟩ = some (.bool s_b) ∧ w'.cell? ⟨n + 1, 1, none⟩ = some (.string a_b) ∧ w'.cell? ⟨n + 1, 2, none⟩ = some (.string d_b) ∧ w'.cell? ⟨n + 1 + 1, 0, none⟩ = some (.bool s_c) ∧ w'.cell? ⟨n + 1 + 1, 1, none⟩ = some (.string a_c) ∧ w'.cell? ⟨n + 1 + 1, 2, none⟩ = some (.string d_c) :=
  ⟨(h.out.cell 0 rfl).1, (h.out.cell 0 rfl).2.1, (h.out.cell 0 rfl).2.2, (h.out.cell 1 rfl).1, (h.out.cell 1 rfl).2.1, (h.out.cell 1 rfl).2.2, (h.out.cell 2 rfl).1, (h.out.cell 2 rfl).2.1, (h.out.cell 2 rfl).2.2⟩
theorem QL.alloc5 (h : QL w n [(s_a, a_a, d_a), (s_b, a_b, d_b), (s_c, a_c, d_c)] w') (o : Obj) : QL w n [(s_a, a_a, d_a), (s_b, a_b, d_b), (s_c, a_c, d_c)] (w'.alloc o) := (QL.alloc (Lib.hid h) o).out
theorem QL.start1 {t : Bool × ByteArray × ByteArray} (hb : Below w.heap.size w w') : Hid (QL w w'.heap.size [t] (w'.alloc (.cells (RV t) 35))) := by
  refine ⟨fun i t' ht => ?_, hb.alloc hb.size _⟩
  match i, ht with
  | 0, ht => cases ht; exact Blk.new w' _ _
theorem QL.three {s_q : Bool} {a_q d_q : ByteArray} {m : Nat} (h : Hid (QL w m [(s_q, a_q, d_q)] w')) : w'.cell? ⟨m, 0, none⟩ = some (.bool s_q) ∧ w'.cell? ⟨m, 1, none⟩ = some (.string a_q) ∧ w'.cell? ⟨m, 2, none⟩ = some (.string d_q) :=
  ⟨(h.out.cell 0 rfl).1, (h.out.cell 0 rfl).2.1, (h.out.cell 0 rfl).2.2⟩
theorem QL.twelve {s_q : Bool} {a_q d_q : ByteArray} {m : Nat} (h : Hid (QL w n [(s_a, a_a, d_a), (s_b, a_b, d_b), (s_c, a_c, d_c)] w')) (h2 : Hid (QL w m [(s_q, a_q, d_q)] w')) : w'.cell? ⟨n, 0, none⟩ = some (.bool s_a) ∧ w'.cell? ⟨n, 1, none⟩ = some (.string a_a) ∧ w'.cell? ⟨n, 2, none⟩ = some (.string d_a) ∧ w'.cell? ⟨n + 1, 0, none⟩ = some (.bool s_b) ∧ w'.cell? ⟨n + 1, 1, none⟩ = some (.string a_b) ∧ w'.cell? ⟨n + 1, 2, none⟩ = some (.string d_b) ∧ w'.cell? ⟨n + 1 + 1, 0, none⟩ = some (.bool s_c) ∧ w'.cell? ⟨n + 1 + 1, 1, none⟩ = some (.string a_c) ∧ w'.cell? ⟨n + 1 + 1, 2, none⟩ = some (.string d_c) ∧ w'.cell? ⟨m, 0, none⟩ = some (.bool s_q) ∧ w'.cell? ⟨m, 1, none⟩ = some (.string a_q) ∧ w'.cell? ⟨m, 2, none⟩ = some (.string d_q) :=
  ⟨(h.out.cell 0 rfl).1, (h.out.cell 0 rfl).2.1, (h.out.cell 0 rfl).2.2, (h.out.cell 1 rfl).1, (h.out.cell 1 rfl).2.1, (h.out.cell 1 rfl).2.2, (h.out.cell 2 rfl).1, (h.out.cell 2 rfl).2.1, (h.out.cell 2 rfl).2.2, (h2.out.cell 0 rfl).1, (h2.out.cell 0 rfl).2.1, (h2.out.cell 0 rfl).2.2⟩
theorem QL.start3 (hb : Below w.heap.size w w') : Hid (QL w w'.heap.size [(s_a, a_a, d_a), (s_b, a_b, d_b), (s_c, a_c, d_c)] (((w'.alloc (.cells #[.bool s_a, .string a_a, .string d_a] 35)).alloc (.cells #[.bool s_b, .string a_b, .string d_b] 35)).alloc (.cells #[.bool s_c, .string a_c, .string d_c] 35))) := by
  refine ⟨fun i t ht => ?_, (((hb.alloc hb.size _).alloc (by simp; have := hb.size; omega) _).alloc (by simp; have := hb.size; omega) _)⟩
  match i, ht with
  | 0, ht => cases ht; exact ((Blk.new w' _ _).alloc _).alloc _
  | 1, ht => cases ht; exact (Blk.at_ (by simp)).alloc _
  | 2, ht => cases ht; exact Blk.at_ (by simp)
end
/-- the variable `left`, in a block of its own behind the three numbers -/
structure LZ (w : World) (n B : Nat) (t : Bool × ByteArray × ByteArray) (w' : World) : Prop where
  blk : Blk w' B 35 (RV t)
  far : n + 3 ≤ B
  low : w.heap.size ≤ B
theorem LZ.next {w w' w3 : World} {n B : Nat} {t : Bool × ByteArray × ByteArray} (h : Hid (LZ w n B t w')) (hb : Below w'.heap.size w' w3) : Hid (LZ w n B t w3) := ⟨h.out.blk.belowB hb, h.out.far, h.out.low⟩
theorem LZ.drew {w w' : World} {n B : Nat} {t : Bool × ByteArray × ByteArray} (h : Hid (LZ w n B t w')) : Hid (LZ w n B t w'.drew) := ⟨h.out.blk.drew, h.out.far, h.out.low⟩
theorem LZ.new {w w' : World} {n : Nat} {t1 t2 t3 t : Bool × ByteArray × ByteArray} (h : Hid (QL w n [t1, t2, t3] w')) : Hid (LZ w n w'.heap.size t (w'.alloc (.cells (RV t) 35))) := by
  have h2 : n + 2 < w'.heap.size := (h.out.blk 2 _ rfl).lt
  exact ⟨Blk.new _ _ _, by omega, h.out.below.size⟩
theorem LZ.all {w w' : World} {n B : Nat} {s : Bool} {a d : ByteArray} (h : Hid (LZ w n B (s, a, d) w')) : w'.cell? ⟨B, 0, none⟩ = some (.bool s) ∧ w'.cell? ⟨B, 1, none⟩ = some (.string a) ∧ w'.cell? ⟨B, 2, none⟩ = some (.string d) ∧ w'.frozen? ⟨B, 0, none⟩ = false ∧ w'.frozen? ⟨B, 1, none⟩ = false ∧ w'.frozen? ⟨B, 2, none⟩ = false := Blk.three h.out.blk
theorem QL.put {w w' : World} {n B : Nat} {t1 t2 t3 t : Bool × ByteArray × ByteArray} (h : Hid (QL w n [t1, t2, t3] w')) (hz : Hid (LZ w n B t w')) (x y z : Value) : Hid (QL w n [t1, t2, t3] (((w'.setCell ⟨B, 0, none⟩ x).setCell ⟨B, 1, none⟩ y).setCell ⟨B, 2, none⟩ z)) := by
  have hf := hz.out.far
  refine ⟨fun i t' ht => ?_, put3_below h.out.below hz.out.low x y z⟩
  have hi : i < 3 := by
    rcases Nat.lt_or_ge i 3 with h | h
    · exact h
    · rw [List.getElem?_eq_none (by simpa using h)] at ht; cases ht
  have hne : n + i ≠ B := by omega
  exact (((h.out.blk i t' ht).far hne _).far hne _).far hne _
theorem LZ.put {w w' : World} {n B : Nat} {t : Bool × ByteArray × ByteArray} (hz : Hid (LZ w n B t w')) (s : Bool) (a d : ByteArray) : Hid (LZ w n B (s, a, d) (((w'.setCell ⟨B, 0, none⟩ (.bool s)).setCell ⟨B, 1, none⟩ (.string a)).setCell ⟨B, 2, none⟩ (.string d))) :=
  ⟨((hz.out.blk.set_ 0 _).set_ 1 _).set_ 2 _, hz.out.far, hz.out.low⟩
theorem QL.out_below {w w' : World} {n : Nat} {l : List (Bool × ByteArray × ByteArray)} (h : Hid (QL w n l w')) : Below w.heap.size w w' := h.out.below
theorem add_zero0 (a : Rat) : a + ((0 : Int) : Rat) = a := Rat.add_zero a
theorem mul_one0 (a : Rat) : a * ((1 : Int) : Rat) = a := Rat.mul_one a
theorem add_neg0 (a : Rat) : a + -a = ((0 : Int) : Rat) := by
  rw [Rat.add_neg_cancel]; rfl
theorem QL.withL {w w' : World} {n B : Nat} {s_L : Bool} {a_L d_L : ByteArray} {s_a s_b s_c : Bool} {a_a d_a a_b d_b a_c d_c : ByteArray} (h : Hid (QL w n [(s_a, a_a, d_a), (s_b, a_b, d_b), (s_c, a_c, d_c)] w')) (h2 : Hid (LZ w n B (s_L, a_L, d_L) w')) : w'.cell? ⟨n, 0, none⟩ = some (.bool s_a) ∧ w'.cell? ⟨n, 1, none⟩ = some (.string a_a) ∧ w'.cell? ⟨n, 2, none⟩ = some (.string d_a) ∧ w'.cell? ⟨n + 1, 0, none⟩ = some (.bool s_b) ∧ w'.cell? ⟨n + 1, 1, none⟩ = some (.string a_b) ∧ w'.cell? ⟨n + 1, 2, none⟩ = some (.string d_b) ∧ w'.cell? ⟨n + 1 + 1, 0, none⟩ = some (.bool s_c) ∧ w'.cell? ⟨n + 1 + 1, 1, none⟩ = some (.string a_c) ∧ w'.cell? ⟨n + 1 + 1, 2, none⟩ = some (.string d_c) ∧ w'.cell? ⟨B, 0, none⟩ = some (.bool s_L) ∧ w'.cell? ⟨B, 1, none⟩ = some (.string a_L) ∧ w'.cell? ⟨B, 2, none⟩ = some (.string d_L) :=
  ⟨(h.out.cell 0 rfl).1, (h.out.cell 0 rfl).2.1, (h.out.cell 0 rfl).2.2, (h.out.cell 1 rfl).1, (h.out.cell 1 rfl).2.1, (h.out.cell 1 rfl).2.2, (h.out.cell 2 rfl).1, (h.out.cell 2 rfl).2.1, (h.out.cell 2 rfl).2.2, (LZ.all h2).1, (LZ.all h2).2.1, (LZ.all h2).2.2.1⟩
theorem sgn_eq (b : Rat) : sgnQ b = 0 ↔ b = 0 := by
  obtain ⟨s, a, d, h⟩ := R_parts b
  rcases sgn_parts h with ⟨h1, -, -, h2⟩ | ⟨h1, -, -, h2⟩ | ⟨h1, -, -, h2⟩ <;> rw [h2, ← Rat.num_eq_zero] <;> omega
theorem sign_V (x : Rat) (v : Int) {s1 : Bool} {a1 d1 : ByteArray} (w : World) (h1 : RIs x s1 a1 d1) (hv : sgnQ x = v) (hx : Rz 100 x) (hT : Tab w) :
    Calls Tryd.prog 31 #[.agg #[.bool s1, .string a1, .string d1]] w fun e w' => e = .returned (.int .i64 v) ∧ Below w.heap.size w w' := by
  rw [← hv]; exact sign_O 100 x w h1 hx (by omega) hT
theorem div_any (x y : Rat) {s1 s2 : Bool} {a1 d1 a2 d2 : ByteArray} (w : World) (h1 : RIs x s1 a1 d1) (h2 : RIs y s2 a2 d2) (hx : Rz 100 x) (hy : Rz 100 y) (hT : Tab w) :
    Calls Tryd.prog 30 #[.agg #[.bool s1, .string a1, .string d1], .agg #[.bool s2, .string a2, .string d2]] w fun e w' => (∃ s3 a3 d3 z, e = .returned (.tuple #[.agg #[.bool s3, .string a3, .string d3], .int .i64 z]) ∧ (∃ v, sgnQ y = v ∧ (z = 12 ∧ v = 0 ∨ z = 0 ∧ v = 1 ∧ y ≠ 0 ∧ RIs (x / y) s3 a3 d3 ∨ z = 0 ∧ v = -1 ∧ y ≠ 0 ∧ RIs (x / y) s3 a3 d3))) ∧ Below w.heap.size w w' := by
  by_cases hy0 : y = 0
  · rw [← h1.val, ← h2.val]
    exact (div_R0 100 x y w hx hy hy0 (by omega) hT).mono fun e w' ⟨he, hb⟩ => ⟨⟨_, _, _, _, he, ⟨_, (sgn_eq y).2 hy0, .inl ⟨rfl, rfl⟩⟩⟩, hb⟩
  · obtain ⟨s3, a3, d3, h3⟩ := R_parts (x / y)
    have h4 : sgnQ y = 1 ∨ sgnQ y = -1 := by
      have h5 := mt (sgn_eq y).1 hy0
      rcases sgn_parts h2 with ⟨-, -, -, h2⟩ | ⟨-, -, -, h2⟩ | ⟨-, -, -, h2⟩
      · exact .inr h2
      · exact absurd h2 h5
      · exact .inl h2
    exact (div_O 100 x y _ w h1 h2 h3 rfl hy0 hx hy (by omega) hT).mono fun e w' ⟨he, hb⟩ => ⟨⟨_, _, _, _, he, h4.elim (fun h => ⟨_, h, .inr (.inl ⟨rfl, rfl, hy0, h3⟩)⟩) (fun h => ⟨_, h, .inr (.inr ⟨rfl, rfl, hy0, h3⟩)⟩)⟩, hb⟩

set_option maxHeartbeats 4000000 in
set_option maxRecDepth 20000 in
theorem ratField_int (x y z : Int) (w : World) (hx0 : -9223372036854775808 ≤ x) (hx1 : x ≤ 9223372036854775807) (hy0 : -9223372036854775808 ≤ y) (hy1 : y ≤ 9223372036854775807) (hz0 : -9223372036854775808 ≤ z) (hz1 : z ≤ 9223372036854775807) (hT : Tab w) :
    Calls Tryd.prog 6 #[.int .i64 x, .int .i64 y, .int .i64 z] w fun e w' => e = .returned (.bool true) ∧ Below w.heap.size w w' := by
  have HI := Lib.hid (And.intro (And.intro hx0 hx1) (And.intro (And.intro hy0 hy1) (And.intro hz0 hz1))); clear hx0 hx1 hy0 hy1 hz0 hz1
  have HT := Lib.hid hT; clear hT
  go_enter Tryd.func6, Tryd.ntmps6
  go_wp2_with fail
  refine (ratBegun_any _ HT.out).mono ?_
  rintro e w0 ⟨rfl, hw0⟩
  have HB0 := Lib.hid hw0; clear hw0
  go_wp2_with fail
  refine (ratM_O x _ HI.out.1.1 HI.out.1.2).mono ?_
  rintro e w1 ⟨⟨a, s_a, a_a, d_a, rfl, hr, hs⟩, hb⟩
  have Ha := Lib.hid (And.intro hr (And.intro hs.rz hs)); clear hr hs
  have HB1 := Lib.hid (below_next HB0.out hb); clear hb
  go_wp2_with fail
  refine (ratM_O y _ HI.out.2.1.1 HI.out.2.1.2).mono ?_
  rintro e w2 ⟨⟨b, s_b, a_b, d_b, rfl, hr, hs⟩, hb⟩
  have Hb := Lib.hid (And.intro hr (And.intro hs.rz hs)); clear hr hs
  have HB2 := Lib.hid (below_next HB1.out hb); clear hb
  go_wp2_with fail
  refine (ratM_O z _ HI.out.2.2.1 HI.out.2.2.2).mono ?_
  rintro e w3 ⟨⟨c, s_c, a_c, d_c, rfl, hr, hs⟩, hb⟩
  have Hc := Lib.hid (And.intro hr (And.intro hs.rz hs)); clear hr hs
  have HB3 := Lib.hid (below_next HB2.out hb); clear hb
  go_wp2_with fail
  obtain ⟨s_ab, a_ab, d_ab, h_ab⟩ := R_parts (a + b)
  have Hab := Lib.hid (And.intro h_ab (show Rz 100 (a + b) from (Ha.out.2.1.add Hb.out.2.1).more (by omega))); clear h_ab
  obtain ⟨s_amb, a_amb, d_amb, h_amb⟩ := R_parts (a - b)
  have Hamb := Lib.hid (And.intro h_amb (show Rz 100 (a - b) from (Ha.out.2.1.sub Hb.out.2.1).more (by omega))); clear h_amb
  obtain ⟨s_pab, a_pab, d_pab, h_pab⟩ := R_parts (a * b)
  have Hpab := Lib.hid (And.intro h_pab (show Rz 100 (a * b) from (Ha.out.2.1.mul Hb.out.2.1).more (by omega))); clear h_pab
  obtain ⟨s_na, a_na, d_na, h_na⟩ := R_parts (-a)
  have Hna := Lib.hid (And.intro h_na (show Rz 100 (-a) from (Ha.out.2.1.neg).more (by omega))); clear h_na
  obtain ⟨s_nb, a_nb, d_nb, h_nb⟩ := R_parts (-b)
  have Hnb := Lib.hid (And.intro h_nb (show Rz 100 (-b) from (Hb.out.2.1.neg).more (by omega))); clear h_nb
  obtain ⟨s_aa, a_aa, d_aa, h_aa⟩ := R_parts (absQ a)
  have Haa := Lib.hid (And.intro h_aa (show Rz 100 (absQ a) from (Ha.out.2.1.abs).more (by omega))); clear h_aa
  obtain ⟨s_bc, a_bc, d_bc, h_bc⟩ := R_parts (b + c)
  have Hbc := Lib.hid (And.intro h_bc (show Rz 100 (b + c) from (Hb.out.2.1.add Hc.out.2.1).more (by omega))); clear h_bc
  obtain ⟨s_L, a_L, d_L, h_L⟩ := R_parts (a * (b + c))
  have HL := Lib.hid (And.intro h_L (show Rz 100 (a * (b + c)) from (Ha.out.2.1.mul (Hb.out.2.1.add Hc.out.2.1)).more (by omega))); clear h_L
  obtain ⟨s_pac, a_pac, d_pac, h_pac⟩ := R_parts (a * c)
  have Hpac := Lib.hid (And.intro h_pac (show Rz 100 (a * c) from (Ha.out.2.1.mul Hc.out.2.1).more (by omega))); clear h_pac
  obtain ⟨s_abc, a_abc, d_abc, h_abc⟩ := R_parts (a + b + c)
  have Habc := Lib.hid (And.intro h_abc (show Rz 100 (a + b + c) from ((Ha.out.2.1.add Hb.out.2.1).add Hc.out.2.1).more (by omega))); clear h_abc
  obtain ⟨s_pabc, a_pabc, d_pabc, h_pabc⟩ := R_parts (a * b * c)
  have Hpabc := Lib.hid (And.intro h_pabc (show Rz 100 (a * b * c) from ((Ha.out.2.1.mul Hb.out.2.1).mul Hc.out.2.1).more (by omega))); clear h_pabc
  obtain ⟨s_pbc, a_pbc, d_pbc, h_pbc⟩ := R_parts (b * c)
  have Hpbc := Lib.hid (And.intro h_pbc (show Rz 100 (b * c) from (Hb.out.2.1.mul Hc.out.2.1).more (by omega))); clear h_pbc
  obtain ⟨s_zr, a_zr, d_zr, h_zr⟩ := R_parts (((0 : Int) : Rat))
  have Hzr := Lib.hid (And.intro h_zr (show Rz 100 (((0 : Int) : Rat)) from (Rz.zero).more (by omega))); clear h_zr
  obtain ⟨s_un, a_un, d_un, h_un⟩ := R_parts (((1 : Int) : Rat))
  have Hun := Lib.hid (And.intro h_un (show Rz 100 (((1 : Int) : Rat)) from (Rz.one).more (by omega))); clear h_un
  have QA := Lib.hid (And.intro (Ha.out.2.1.more (show 1 ≤ 100 by omega)) (And.intro (Hb.out.2.1.more (show 1 ≤ 100 by omega)) (Hc.out.2.1.more (show 1 ≤ 100 by omega))))
  obtain ⟨W0, hW0⟩ : ∃ W0, W0 = (((w3.alloc (.cells #[.bool s_a, .string a_a, .string d_a] 35)).alloc (.cells #[.bool s_b, .string a_b, .string d_b] 35)).alloc (.cells #[.bool s_c, .string a_c, .string d_c] 35)) := ⟨_, rfl⟩
  have HQ0 : Hid (QL w w3.heap.size [(s_a, a_a, d_a), (s_b, a_b, d_b), (s_c, a_c, d_c)] W0) := by rw [hW0]; exact QL.start3 HB3.out
  rw [← hW0]; clear hW0
  have QT : ∀ wz, Hid (QL w w3.heap.size [(s_a, a_a, d_a), (s_b, a_b, d_b), (s_c, a_c, d_c)] wz) → Tab wz := fun wz h => HT.out.next h.out.below
  have QT := Lib.hid QT
  obtain ⟨i00, i01, i02, i10, i11, i12, i20, i21, i22⟩ := QL.nine HQ0
  go_cut [36, 37, 38] (fun s36 s37 s38 wc => ∃ g : Nat, s36 = .slice (some ⟨g, 0, none⟩) 5 5 ∧ s37 = .int .i64 5 ∧ s38 = .int .i64 0 ∧ Hid (QL w w3.heap.size [(s_a, a_a, d_a), (s_b, a_b, d_b), (s_c, a_c, d_c)] wc) ∧ Hid (Blk wc g 35 #[.bool s_ab, .string a_ab, .string d_ab, .bool s_amb, .string a_amb, .string d_amb, .bool s_pab, .string a_pab, .string d_pab, .bool s_na, .string a_na, .string d_na, .bool s_aa, .string a_aa, .string d_aa]))
  case first =>
    go_region_held3 (fun w' => w'.cell? ⟨w3.heap.size, 0, none⟩ = some (.bool s_a) ∧ w'.cell? ⟨w3.heap.size, 1, none⟩ = some (.string a_a) ∧ w'.cell? ⟨w3.heap.size, 2, none⟩ = some (.string d_a) ∧ w'.cell? ⟨w3.heap.size + 1, 0, none⟩ = some (.bool s_b) ∧ w'.cell? ⟨w3.heap.size + 1, 1, none⟩ = some (.string a_b) ∧ w'.cell? ⟨w3.heap.size + 1, 2, none⟩ = some (.string d_b) ∧ w'.cell? ⟨w3.heap.size + 1 + 1, 0, none⟩ = some (.bool s_c) ∧ w'.cell? ⟨w3.heap.size + 1 + 1, 1, none⟩ = some (.string a_c) ∧ w'.cell? ⟨w3.heap.size + 1 + 1, 2, none⟩ = some (.string d_c))
      (first | (with_reducible exact QL.nine (by assumption)) | (with_reducible exact QL.nine (QL.drew (by assumption))) | (with_reducible exact QL.nine (QL.alloc (by assumption) _)) | (go_keep; done))
      (first
        | (go_at_call 24; (first | (with_reducible refine (add_O 100 _ _ _ _ Ha.out.1 Hb.out.1 Hab.out.1 rfl QA.out.1 QA.out.2.1 (by omega) (QT.out _ (by first | assumption | exact QL.drew (by assumption) | (go_split_ands; assumption)))).mono ?_)); rintro e w5 ⟨rfl, hb5⟩; have hQ1 := QL.next (w := w) (n := w3.heap.size) (l := [(s_a, a_a, d_a), (s_b, a_b, d_b), (s_c, a_c, d_c)]) (by first | assumption | exact QL.drew (by assumption) | (go_split_ands; assumption)) hb5)
        | (go_at_call 25; (first | (with_reducible refine (sub_O 100 _ _ _ _ Ha.out.1 Hb.out.1 Hamb.out.1 rfl QA.out.1 QA.out.2.1 (by omega) (QT.out _ (by first | assumption | exact QL.drew (by assumption) | (go_split_ands; assumption)))).mono ?_)); rintro e w6 ⟨rfl, hb6⟩; have hQ2 := QL.next (w := w) (n := w3.heap.size) (l := [(s_a, a_a, d_a), (s_b, a_b, d_b), (s_c, a_c, d_c)]) (by first | assumption | exact QL.drew (by assumption) | (go_split_ands; assumption)) hb6)
        | (go_at_call 26; (first | (with_reducible refine (mulR_O 100 _ _ _ _ Ha.out.1 Hb.out.1 Hpab.out.1 rfl QA.out.1 QA.out.2.1 (by omega) (QT.out _ (by first | assumption | exact QL.drew (by assumption) | (go_split_ands; assumption)))).mono ?_)); rintro e w7 ⟨rfl, hb7⟩; have hQ3 := QL.next (w := w) (n := w3.heap.size) (l := [(s_a, a_a, d_a), (s_b, a_b, d_b), (s_c, a_c, d_c)]) (by first | assumption | exact QL.drew (by assumption) | (go_split_ands; assumption)) hb7)
        | (go_at_call 27; (first | (with_reducible refine (negR_O 100 _ _ _ Ha.out.1 Hna.out.1 rfl QA.out.1 (by omega) (QT.out _ (by first | assumption | exact QL.drew (by assumption) | (go_split_ands; assumption)))).mono ?_)); rintro e w8 ⟨rfl, hb8⟩; have hQ4 := QL.next (w := w) (n := w3.heap.size) (l := [(s_a, a_a, d_a), (s_b, a_b, d_b), (s_c, a_c, d_c)]) (by first | assumption | exact QL.drew (by assumption) | (go_split_ands; assumption)) hb8)
        | (go_at_call 28; (first | (with_reducible refine (absR_O 100 _ _ _ Ha.out.1 Haa.out.1 rfl QA.out.1 (by omega) (QT.out _ (by first | assumption | exact QL.drew (by assumption) | (go_split_ands; assumption)))).mono ?_)); rintro e w9 ⟨rfl, hb9⟩; have hQ5 := QL.next (w := w) (n := w3.heap.size) (l := [(s_a, a_a, d_a), (s_b, a_b, d_b), (s_c, a_c, d_c)]) (by first | assumption | exact QL.drew (by assumption) | (go_split_ands; assumption)) hb9)
        | fail)
    go_wp2_with fail
    go_meet
    exact ⟨_, rfl, rfl, rfl, hQ5.out.alloc5 _, Blk.new _ _ _⟩
  case rest =>
    obtain ⟨g, rfl, rfl, rfl, hq, hblk⟩ := hcut
    go_wp2_with fail
    go_loopg [38] 5 (fun k i wr => ∃ j : Nat, k = 5 - j ∧ j ≤ 5 ∧ i = .int .i64 j ∧ Hid (QL w w3.heap.size [(s_a, a_a, d_a), (s_b, a_b, d_b), (s_c, a_c, d_c)] wr) ∧ Hid (Blk wr g 35 #[.bool s_ab, .string a_ab, .string d_ab, .bool s_amb, .string a_amb, .string d_amb, .bool s_pab, .string a_pab, .string d_pab, .bool s_na, .string a_na, .string d_na, .bool s_aa, .string a_aa, .string d_aa]))
    case atStart => exact ⟨0, rfl, by omega, rfl, hq.out, hblk.out⟩
    case round =>
      obtain ⟨j, hgk, hj, rfl, hq, hblk⟩ := hrel
      have HGK := Lib.hid hgk; clear hgk
      by_cases hlt : j < 5
      · obtain ⟨q, s, p, d, hr, hz, c0, c1, c2⟩ : ∃ q s p d, RIs q s p d ∧ Rz 100 q ∧ wr.cell? ⟨g, j * 3, none⟩ = some (.bool s) ∧ wr.cell? ⟨g, j * 3 + 1, none⟩ = some (.string p) ∧ wr.cell? ⟨g, j * 3 + 2, none⟩ = some (.string d) := by
          match j, hlt with
          | 0, _ => exact ⟨_, _, _, _, Hab.out.1, Hab.out.2, hblk.out.cell 0, hblk.out.cell 1, hblk.out.cell 2⟩
          | 1, _ => exact ⟨_, _, _, _, Hamb.out.1, Hamb.out.2, hblk.out.cell 3, hblk.out.cell 4, hblk.out.cell 5⟩
          | 2, _ => exact ⟨_, _, _, _, Hpab.out.1, Hpab.out.2, hblk.out.cell 6, hblk.out.cell 7, hblk.out.cell 8⟩
          | 3, _ => exact ⟨_, _, _, _, Hna.out.1, Hna.out.2, hblk.out.cell 9, hblk.out.cell 10, hblk.out.cell 11⟩
          | 4, _ => exact ⟨_, _, _, _, Haa.out.1, Haa.out.2, hblk.out.cell 12, hblk.out.cell 13, hblk.out.cell 14⟩
        have HR := Lib.hid (And.intro hr hz); clear hr hz
        go_wp2_with fail
        refine (good_O 100 q _ HR.out.1 HR.out.2 (by omega) (QT.out _ (QL.alloc hq _))).mono ?_
        rintro e w4 ⟨rfl, hb4⟩
        have hq4 := QL.next (QL.alloc hq _) hb4
        have hk4 := (hblk.out.alloc (.cells #[.bool s, .string p, .string d] 35)).belowB hb4
        have HK4 := Lib.hid hk4; clear hk4
        go_wp2_with fail
        go_roundg (5 - (j + 1))
        case measure => rw [HGK.out]; omega
        case rel => exact ⟨j + 1, rfl, by omega, by go_num, hq4.out, HK4.out⟩
      · clear hblk HGK
        obtain ⟨i00, i01, i02, i10, i11, i12, i20, i21, i22⟩ := QL.nine hq
        go_wp2_with fail
        refine (div_any _ _ _ Ha.out.1 Hb.out.1 QA.out.1 QA.out.2.1 (QT.out _ hq)).mono ?_
        rintro e w5 ⟨⟨s_q, a_q, d_q, zq, rfl, hdq⟩, hb5⟩
        have HDQ := Lib.hid hdq; clear hdq
        have hq5 := QL.next hq hb5
        obtain ⟨W6, hW6⟩ : ∃ W6, W6 = w5.alloc (.cells #[.bool s_q, .string a_q, .string d_q] 35) := ⟨_, rfl⟩
        have hq6 : Hid (QL w w3.heap.size [(s_a, a_a, d_a), (s_b, a_b, d_b), (s_c, a_c, d_c)] W6) := by rw [hW6]; exact QL.alloc hq5 _
        have hm6 : Hid (QL w w5.heap.size [(s_q, a_q, d_q)] W6) := by rw [hW6]; exact QL.start1 hq5.out.below
        clear i00 i01 i02 i10 i11 i12 i20 i21 i22
        go_wp2_with fail
        rw [← hW6]
        clear hW6
        go_cut [68] (fun s68 wc => s68 = .bool false ∧ Hid (QL w w3.heap.size [(s_a, a_a, d_a), (s_b, a_b, d_b), (s_c, a_c, d_c)] wc))
        case first =>
          obtain ⟨i00, i01, i02, i10, i11, i12, i20, i21, i22⟩ := QL.nine hq6
          obtain ⟨i30, i31, i32⟩ := QL.three hm6
          obtain ⟨v, hv, hd⟩ := HDQ.out
          clear HDQ
          have HV := Lib.hid hv; clear hv
          rcases hd with ⟨rfl, rfl⟩ | ⟨rfl, rfl, hb0, hqq⟩ | ⟨rfl, rfl, hb0, hqq⟩
          case' inl =>
            go_region_with (go_at_call 31; refine (sign_V _ _ _ Hb.out.1 HV.out QA.out.2.1 (QT.out _ (by first | assumption | exact QL.drew (by assumption) | (go_split_ands; assumption)))).mono ?_; rintro e w7 ⟨rfl, hb7⟩; have hQ7 := QL.next (w := w) (n := w3.heap.size) (l := [(s_a, a_a, d_a), (s_b, a_b, d_b), (s_c, a_c, d_c)]) (by first | assumption | exact QL.drew (by assumption)) hb7)
          case' inr.inl => have HS0 := Lib.hid (And.intro hqq (And.intro hb0 (show Rz 100 (a / b) from (Ha.out.2.1.div Hb.out.2.1 hb0).more (by omega)))); clear hqq hb0
          case' inr.inr => have HS0 := Lib.hid (And.intro hqq (And.intro hb0 (show Rz 100 (a / b) from (Ha.out.2.1.div Hb.out.2.1 hb0).more (by omega)))); clear hqq hb0
          case' inr.inl =>
            go_region_held3 (fun w' => w'.cell? ⟨w3.heap.size, 0, none⟩ = some (.bool s_a) ∧ w'.cell? ⟨w3.heap.size, 1, none⟩ = some (.string a_a) ∧ w'.cell? ⟨w3.heap.size, 2, none⟩ = some (.string d_a) ∧ w'.cell? ⟨w3.heap.size + 1, 0, none⟩ = some (.bool s_b) ∧ w'.cell? ⟨w3.heap.size + 1, 1, none⟩ = some (.string a_b) ∧ w'.cell? ⟨w3.heap.size + 1, 2, none⟩ = some (.string d_b) ∧ w'.cell? ⟨w3.heap.size + 1 + 1, 0, none⟩ = some (.bool s_c) ∧ w'.cell? ⟨w3.heap.size + 1 + 1, 1, none⟩ = some (.string a_c) ∧ w'.cell? ⟨w3.heap.size + 1 + 1, 2, none⟩ = some (.string d_c) ∧ w'.cell? ⟨w5.heap.size, 0, none⟩ = some (.bool s_q) ∧ w'.cell? ⟨w5.heap.size, 1, none⟩ = some (.string a_q) ∧ w'.cell? ⟨w5.heap.size, 2, none⟩ = some (.string d_q))
              (first | (with_reducible exact QL.twelve (by assumption) (by assumption)) | (with_reducible exact QL.twelve (QL.drew (by assumption)) (QL.drew (by assumption))) | (go_keep; done))
              (first
                | (go_at_call 31; (with_reducible refine (sign_V _ _ _ Hb.out.1 HV.out QA.out.2.1 (QT.out _ (by first | assumption | exact QL.drew (by assumption) | (go_split_ands; assumption)))).mono ?_); rintro e w7 ⟨rfl, hb7⟩; have hQ6 := QL.next (w := w) (n := w3.heap.size) (l := [(s_a, a_a, d_a), (s_b, a_b, d_b), (s_c, a_c, d_c)]) (by first | assumption | exact QL.drew (by assumption) | (go_split_ands; assumption)) hb7; have hM7 := QL.next (w := w) (n := w5.heap.size) (l := [(s_q, a_q, d_q)]) (by first | assumption | exact QL.drew (by assumption) | (go_split_ands; assumption)) hb7)
                | (go_at_call 26; (with_reducible refine (mulR_O 100 _ _ _ _ HS0.out.1 Hb.out.1 Ha.out.1 (Rat.div_mul_cancel HS0.out.2.1) HS0.out.2.2 QA.out.2.1 (by omega) (QT.out _ (by first | assumption | exact QL.drew (by assumption) | (go_split_ands; assumption)))).mono ?_); rintro e w8 ⟨rfl, hb8⟩; have hQ7 := QL.next (w := w) (n := w3.heap.size) (l := [(s_a, a_a, d_a), (s_b, a_b, d_b), (s_c, a_c, d_c)]) (by first | assumption | exact QL.drew (by assumption) | (go_split_ands; assumption)) hb8; have hM8 := QL.next (w := w) (n := w5.heap.size) (l := [(s_q, a_q, d_q)]) (by first | assumption | exact QL.drew (by assumption) | (go_split_ands; assumption)) hb8)
                | fail)
          case' inr.inr =>
            go_region_held3 (fun w' => w'.cell? ⟨w3.heap.size, 0, none⟩ = some (.bool s_a) ∧ w'.cell? ⟨w3.heap.size, 1, none⟩ = some (.string a_a) ∧ w'.cell? ⟨w3.heap.size, 2, none⟩ = some (.string d_a) ∧ w'.cell? ⟨w3.heap.size + 1, 0, none⟩ = some (.bool s_b) ∧ w'.cell? ⟨w3.heap.size + 1, 1, none⟩ = some (.string a_b) ∧ w'.cell? ⟨w3.heap.size + 1, 2, none⟩ = some (.string d_b) ∧ w'.cell? ⟨w3.heap.size + 1 + 1, 0, none⟩ = some (.bool s_c) ∧ w'.cell? ⟨w3.heap.size + 1 + 1, 1, none⟩ = some (.string a_c) ∧ w'.cell? ⟨w3.heap.size + 1 + 1, 2, none⟩ = some (.string d_c) ∧ w'.cell? ⟨w5.heap.size, 0, none⟩ = some (.bool s_q) ∧ w'.cell? ⟨w5.heap.size, 1, none⟩ = some (.string a_q) ∧ w'.cell? ⟨w5.heap.size, 2, none⟩ = some (.string d_q))
              (first | (with_reducible exact QL.twelve (by assumption) (by assumption)) | (with_reducible exact QL.twelve (QL.drew (by assumption)) (QL.drew (by assumption))) | (go_keep; done))
              (first
                | (go_at_call 31; (with_reducible refine (sign_V _ _ _ Hb.out.1 HV.out QA.out.2.1 (QT.out _ (by first | assumption | exact QL.drew (by assumption) | (go_split_ands; assumption)))).mono ?_); rintro e w7 ⟨rfl, hb7⟩; have hQ6 := QL.next (w := w) (n := w3.heap.size) (l := [(s_a, a_a, d_a), (s_b, a_b, d_b), (s_c, a_c, d_c)]) (by first | assumption | exact QL.drew (by assumption) | (go_split_ands; assumption)) hb7; have hM7 := QL.next (w := w) (n := w5.heap.size) (l := [(s_q, a_q, d_q)]) (by first | assumption | exact QL.drew (by assumption) | (go_split_ands; assumption)) hb7)
                | (go_at_call 26; (with_reducible refine (mulR_O 100 _ _ _ _ HS0.out.1 Hb.out.1 Ha.out.1 (Rat.div_mul_cancel HS0.out.2.1) HS0.out.2.2 QA.out.2.1 (by omega) (QT.out _ (by first | assumption | exact QL.drew (by assumption) | (go_split_ands; assumption)))).mono ?_); rintro e w8 ⟨rfl, hb8⟩; have hQ7 := QL.next (w := w) (n := w3.heap.size) (l := [(s_a, a_a, d_a), (s_b, a_b, d_b), (s_c, a_c, d_c)]) (by first | assumption | exact QL.drew (by assumption) | (go_split_ands; assumption)) hb8; have hM8 := QL.next (w := w) (n := w5.heap.size) (l := [(s_q, a_q, d_q)]) (by first | assumption | exact QL.drew (by assumption) | (go_split_ands; assumption)) hb8)
                | fail)
          all_goals
            go_wp2_with fail
            go_meet
            exact ⟨rfl, by assumption⟩
        case rest =>
          clear HDQ hm6 hq6 hq5
          obtain ⟨rfl, hq7⟩ := hcut
          obtain ⟨i00, i01, i02, i10, i11, i12, i20, i21, i22⟩ := QL.nine hq7
          go_wp2_with fail
          go_cut [14] (fun s14 wd => ∃ B, s14 = .pointer (some ⟨B, 0, none⟩) ∧ Hid (QL w w3.heap.size [(s_a, a_a, d_a), (s_b, a_b, d_b), (s_c, a_c, d_c)] wd) ∧ Hid (LZ w w3.heap.size B (s_L, a_L, d_L) wd))
          case first =>
            go_region_held3 (fun w' => w'.cell? ⟨w3.heap.size, 0, none⟩ = some (.bool s_a) ∧ w'.cell? ⟨w3.heap.size, 1, none⟩ = some (.string a_a) ∧ w'.cell? ⟨w3.heap.size, 2, none⟩ = some (.string d_a) ∧ w'.cell? ⟨w3.heap.size + 1, 0, none⟩ = some (.bool s_b) ∧ w'.cell? ⟨w3.heap.size + 1, 1, none⟩ = some (.string a_b) ∧ w'.cell? ⟨w3.heap.size + 1, 2, none⟩ = some (.string d_b) ∧ w'.cell? ⟨w3.heap.size + 1 + 1, 0, none⟩ = some (.bool s_c) ∧ w'.cell? ⟨w3.heap.size + 1 + 1, 1, none⟩ = some (.string a_c) ∧ w'.cell? ⟨w3.heap.size + 1 + 1, 2, none⟩ = some (.string d_c))
              (first | (with_reducible exact QL.nine (by assumption)) | (with_reducible exact QL.nine (QL.drew (by assumption))) | (with_reducible exact QL.nine (QL.alloc (by assumption) _)) | (with_reducible exact QL.nine (QL.drew (QL.alloc (by assumption) _))) | (exact QL.nine (QL.put (t := (false, ⟨#[]⟩, ⟨#[]⟩)) (by assumption) (by assumption) _ _ _)) | (exact QL.nine (QL.put (QL.alloc (by assumption) _) (LZ.new (by assumption)) _ _ _)) | (go_keep; done))
              (first
                | (go_at_call 24; (with_reducible refine (add_O 100 _ _ _ _ Hb.out.1 Hc.out.1 Hbc.out.1 rfl QA.out.2.1 QA.out.2.2 (by omega) (QT.out _ (by first | assumption | exact QL.drew (by assumption) | exact QL.alloc (by assumption) _ | exact QL.drew (QL.alloc (by assumption) _)))).mono ?_); rintro e w7 ⟨rfl, hb7⟩; (first | (have hz7 := LZ.next (w := w) (n := w3.heap.size) (t := (false, ⟨#[]⟩, ⟨#[]⟩))  (by assumption) hb7; have hc7 := LZ.all hz7) | (have hz7 := LZ.next (w := w) (n := w3.heap.size) (t := (false, ⟨#[]⟩, ⟨#[]⟩))  (LZ.new (t1 := (s_a, a_a, d_a)) (t2 := (s_b, a_b, d_b)) (t3 := (s_c, a_c, d_c)) (by first | assumption | exact QL.drew (by assumption))) hb7; have hc7 := LZ.all hz7) | (have hz7 := LZ.next (w := w) (n := w3.heap.size) (t := (false, ⟨#[]⟩, ⟨#[]⟩))  (LZ.drew (LZ.new (t1 := (s_a, a_a, d_a)) (t2 := (s_b, a_b, d_b)) (t3 := (s_c, a_c, d_c)) (by assumption))) hb7; have hc7 := LZ.all hz7) | skip); have hQ7 := QL.next (w := w) (n := w3.heap.size) (l := [(s_a, a_a, d_a), (s_b, a_b, d_b), (s_c, a_c, d_c)]) (by first | assumption | exact QL.drew (by assumption) | exact QL.alloc (by assumption) _ | exact QL.drew (QL.alloc (by assumption) _)) hb7)
                | (go_at_call 26; (with_reducible refine (mulR_O 100 _ _ _ _ Ha.out.1 Hbc.out.1 HL.out.1 rfl QA.out.1 Hbc.out.2 (by omega) (QT.out _ (by first | assumption | exact QL.drew (by assumption) | exact QL.alloc (by assumption) _ | exact QL.drew (QL.alloc (by assumption) _)))).mono ?_); rintro e w8 ⟨rfl, hb8⟩; (first | (have hz8 := LZ.next (w := w) (n := w3.heap.size) (t := (false, ⟨#[]⟩, ⟨#[]⟩))  (by assumption) hb8; have hc8 := LZ.all hz8) | (have hz8 := LZ.next (w := w) (n := w3.heap.size) (t := (false, ⟨#[]⟩, ⟨#[]⟩))  (LZ.new (t1 := (s_a, a_a, d_a)) (t2 := (s_b, a_b, d_b)) (t3 := (s_c, a_c, d_c)) (by first | assumption | exact QL.drew (by assumption))) hb8; have hc8 := LZ.all hz8) | (have hz8 := LZ.next (w := w) (n := w3.heap.size) (t := (false, ⟨#[]⟩, ⟨#[]⟩))  (LZ.drew (LZ.new (t1 := (s_a, a_a, d_a)) (t2 := (s_b, a_b, d_b)) (t3 := (s_c, a_c, d_c)) (by assumption))) hb8; have hc8 := LZ.all hz8) | skip); have hQ8 := QL.next (w := w) (n := w3.heap.size) (l := [(s_a, a_a, d_a), (s_b, a_b, d_b), (s_c, a_c, d_c)]) (by first | assumption | exact QL.drew (by assumption) | exact QL.alloc (by assumption) _ | exact QL.drew (QL.alloc (by assumption) _)) hb8)
                | fail)
            all_goals
              go_wp2_with fail
              go_meet
              first | exact ⟨_, rfl, QL.put (by assumption) (by assumption) _ _ _, LZ.put (by assumption) _ _ _⟩ | exact ⟨_, rfl, QL.alloc (by assumption) _, LZ.new (t1 := (s_a, a_a, d_a)) (t2 := (s_b, a_b, d_b)) (t3 := (s_c, a_c, d_c)) (by assumption)⟩
          case rest =>
            clear i00 i01 i02 i10 i11 i12 i20 i21 i22 hq7
            obtain ⟨B, rfl, hq8, hz8⟩ := hcut
            obtain ⟨i00, i01, i02, i10, i11, i12, i20, i21, i22⟩ := QL.nine hq8
            obtain ⟨i30, i31, i32, f30, f31, f32⟩ := LZ.all hz8
            go_wp2_with fail
            simp only [List.append]
            go_region_held3 (fun w' => w'.cell? ⟨w3.heap.size, 0, none⟩ = some (.bool s_a) ∧ w'.cell? ⟨w3.heap.size, 1, none⟩ = some (.string a_a) ∧ w'.cell? ⟨w3.heap.size, 2, none⟩ = some (.string d_a) ∧ w'.cell? ⟨w3.heap.size + 1, 0, none⟩ = some (.bool s_b) ∧ w'.cell? ⟨w3.heap.size + 1, 1, none⟩ = some (.string a_b) ∧ w'.cell? ⟨w3.heap.size + 1, 2, none⟩ = some (.string d_b) ∧ w'.cell? ⟨w3.heap.size + 1 + 1, 0, none⟩ = some (.bool s_c) ∧ w'.cell? ⟨w3.heap.size + 1 + 1, 1, none⟩ = some (.string a_c) ∧ w'.cell? ⟨w3.heap.size + 1 + 1, 2, none⟩ = some (.string d_c) ∧ w'.cell? ⟨B, 0, none⟩ = some (.bool s_L) ∧ w'.cell? ⟨B, 1, none⟩ = some (.string a_L) ∧ w'.cell? ⟨B, 2, none⟩ = some (.string d_L))
              (first | (with_reducible exact QL.withL (by assumption) (by assumption)) | (with_reducible exact QL.withL (QL.drew (by assumption)) (LZ.drew (by assumption))) | (go_keep; done))
              (first
                | (go_at_call 24; (first | (with_reducible refine (add_O 100 _ _ _ _ Ha.out.1 Hna.out.1 Hzr.out.1 (add_neg0 a) QA.out.1 Hna.out.2 (by omega) (QT.out _ (by first | assumption | exact QL.drew (by assumption)))).mono ?_) | (with_reducible refine (add_O 100 _ _ _ _ Ha.out.1 Hnb.out.1 Hamb.out.1 (Rat.sub_eq_add_neg a b).symm QA.out.1 Hnb.out.2 (by omega) (QT.out _ (by first | assumption | exact QL.drew (by assumption)))).mono ?_) | (with_reducible refine (add_O 100 _ _ _ _ Hpab.out.1 Hpac.out.1 HL.out.1 (Rat.mul_add a b c).symm Hpab.out.2 Hpac.out.2 (by omega) (QT.out _ (by first | assumption | exact QL.drew (by assumption)))).mono ?_) | (with_reducible refine (add_O 100 _ _ _ _ Ha.out.1 Hb.out.1 Hab.out.1 rfl QA.out.1 QA.out.2.1 (by omega) (QT.out _ (by first | assumption | exact QL.drew (by assumption)))).mono ?_) | (with_reducible refine (add_O 100 _ _ _ _ Hab.out.1 Hc.out.1 Habc.out.1 rfl Hab.out.2 QA.out.2.2 (by omega) (QT.out _ (by first | assumption | exact QL.drew (by assumption)))).mono ?_) | (with_reducible refine (add_O 100 _ _ _ _ Hb.out.1 Hc.out.1 Hbc.out.1 rfl QA.out.2.1 QA.out.2.2 (by omega) (QT.out _ (by first | assumption | exact QL.drew (by assumption)))).mono ?_) | (with_reducible refine (add_O 100 _ _ _ _ Ha.out.1 Hbc.out.1 Habc.out.1 (Rat.add_assoc a b c).symm QA.out.1 Hbc.out.2 (by omega) (QT.out _ (by first | assumption | exact QL.drew (by assumption)))).mono ?_) | (with_reducible refine (add_O 100 _ _ _ _ Ha.out.1 Hzr.out.1 Ha.out.1 (add_zero0 a) QA.out.1 Hzr.out.2 (by omega) (QT.out _ (by first | assumption | exact QL.drew (by assumption)))).mono ?_)); rintro e w9 ⟨rfl, hb9⟩; have hQ9 := QL.next (w := w) (n := w3.heap.size) (l := [(s_a, a_a, d_a), (s_b, a_b, d_b), (s_c, a_c, d_c)]) (by first | assumption | exact QL.drew (by assumption)) hb9; have hZ9 := LZ.next (w := w) (n := w3.heap.size) (B := B) (t := (s_L, a_L, d_L)) (by first | assumption | exact LZ.drew (by assumption)) hb9)
                | (go_at_call 26; (first | (with_reducible refine (mulR_O 100 _ _ _ _ Ha.out.1 Hb.out.1 Hpab.out.1 rfl QA.out.1 QA.out.2.1 (by omega) (QT.out _ (by first | assumption | exact QL.drew (by assumption)))).mono ?_) | (with_reducible refine (mulR_O 100 _ _ _ _ Ha.out.1 Hc.out.1 Hpac.out.1 rfl QA.out.1 QA.out.2.2 (by omega) (QT.out _ (by first | assumption | exact QL.drew (by assumption)))).mono ?_) | (with_reducible refine (mulR_O 100 _ _ _ _ Hpab.out.1 Hc.out.1 Hpabc.out.1 rfl Hpab.out.2 QA.out.2.2 (by omega) (QT.out _ (by first | assumption | exact QL.drew (by assumption)))).mono ?_) | (with_reducible refine (mulR_O 100 _ _ _ _ Hb.out.1 Hc.out.1 Hpbc.out.1 rfl QA.out.2.1 QA.out.2.2 (by omega) (QT.out _ (by first | assumption | exact QL.drew (by assumption)))).mono ?_) | (with_reducible refine (mulR_O 100 _ _ _ _ Ha.out.1 Hpbc.out.1 Hpabc.out.1 (Rat.mul_assoc a b c).symm QA.out.1 Hpbc.out.2 (by omega) (QT.out _ (by first | assumption | exact QL.drew (by assumption)))).mono ?_) | (with_reducible refine (mulR_O 100 _ _ _ _ Ha.out.1 Hun.out.1 Ha.out.1 (mul_one0 a) QA.out.1 Hun.out.2 (by omega) (QT.out _ (by first | assumption | exact QL.drew (by assumption)))).mono ?_)); rintro e w9 ⟨rfl, hb9⟩; have hQ9 := QL.next (w := w) (n := w3.heap.size) (l := [(s_a, a_a, d_a), (s_b, a_b, d_b), (s_c, a_c, d_c)]) (by first | assumption | exact QL.drew (by assumption)) hb9; have hZ9 := LZ.next (w := w) (n := w3.heap.size) (B := B) (t := (s_L, a_L, d_L)) (by first | assumption | exact LZ.drew (by assumption)) hb9)
                | (go_at_call 27; (first | (with_reducible refine (negR_O 100 _ _ _ Ha.out.1 Hna.out.1 rfl QA.out.1 (by omega) (QT.out _ (by first | assumption | exact QL.drew (by assumption)))).mono ?_) | (with_reducible refine (negR_O 100 _ _ _ Hb.out.1 Hnb.out.1 rfl QA.out.2.1 (by omega) (QT.out _ (by first | assumption | exact QL.drew (by assumption)))).mono ?_)); rintro e w9 ⟨rfl, hb9⟩; have hQ9 := QL.next (w := w) (n := w3.heap.size) (l := [(s_a, a_a, d_a), (s_b, a_b, d_b), (s_c, a_c, d_c)]) (by first | assumption | exact QL.drew (by assumption)) hb9; have hZ9 := LZ.next (w := w) (n := w3.heap.size) (B := B) (t := (s_L, a_L, d_L)) (by first | assumption | exact LZ.drew (by assumption)) hb9)
                | (go_at_call 25; (with_reducible refine (sub_O 100 _ _ _ _ Ha.out.1 Hb.out.1 Hamb.out.1 rfl QA.out.1 QA.out.2.1 (by omega) (QT.out _ (by first | assumption | exact QL.drew (by assumption)))).mono ?_); rintro e w9 ⟨rfl, hb9⟩; have hQ9 := QL.next (w := w) (n := w3.heap.size) (l := [(s_a, a_a, d_a), (s_b, a_b, d_b), (s_c, a_c, d_c)]) (by first | assumption | exact QL.drew (by assumption)) hb9; have hZ9 := LZ.next (w := w) (n := w3.heap.size) (B := B) (t := (s_L, a_L, d_L)) (by first | assumption | exact LZ.drew (by assumption)) hb9)
                | (go_at_call 32; (first | (with_reducible refine (of_O 0 _ Hzr.out.1 (by decide) (by decide) (QT.out _ (by first | assumption | exact QL.drew (by assumption)))).mono ?_) | (with_reducible refine (of_O 1 _ Hun.out.1 (by decide) (by decide) (QT.out _ (by first | assumption | exact QL.drew (by assumption)))).mono ?_)); rintro e w9 ⟨rfl, hb9⟩; have hQ9 := QL.next (w := w) (n := w3.heap.size) (l := [(s_a, a_a, d_a), (s_b, a_b, d_b), (s_c, a_c, d_c)]) (by first | assumption | exact QL.drew (by assumption)) hb9; have hZ9 := LZ.next (w := w) (n := w3.heap.size) (B := B) (t := (s_L, a_L, d_L)) (by first | assumption | exact LZ.drew (by assumption)) hb9)
                | fail)
            all_goals
              go_wp2_with fail
              go_ret
              exact ⟨rfl, (QL.out_below (by assumption))⟩
end Go.Proofs.YtlfddhiimcophaaDoor
