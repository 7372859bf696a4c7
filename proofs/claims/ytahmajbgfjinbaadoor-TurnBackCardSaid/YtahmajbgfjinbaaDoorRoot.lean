/- Joined texts. -/
import Derived.Test.YtahmajbgfjinbaaDoorBunNatC
import Derived.Test.YtahmajbgfjinbaaDoorBunSeq
import Derived.Test.YtahmajbgfjinbaaDoorRep
import Derived.Deep.LoopGhost

/- nat.Root: Newton's steps from above. -/
namespace Go.Proofs.YtahmajbgfjinbaaDoor
open Go.RowKit
set_option linter.unusedVariables false
set_option linter.unusedSimpArgs false

theorem four_mul (a b : Nat) : 4 * (a * b) ≤ (a + b) * (a + b) := by
  rcases Nat.le_total a b with h | h
  · obtain ⟨d, rfl⟩ := Nat.exists_eq_add_of_le h
    have e : (a + (a + d)) * (a + (a + d)) = 4 * (a * (a + d)) + d * d := by grind
    rw [e]; exact Nat.le_add_right _ _
  · obtain ⟨d, rfl⟩ := Nat.exists_eq_add_of_le h
    have e : ((b + d) + b) * ((b + d) + b) = 4 * ((b + d) * b) + d * d := by grind
    rw [e]; exact Nat.le_add_right _ _
theorem newton_ge {n x : Nat} (hx : 0 < x) : n < ((x + n / x) / 2 + 1) * ((x + n / x) / 2 + 1) := by
  have h1 : n < x * (n / x + 1) := Nat.lt_mul_div_succ n hx
  have h2 := four_mul x (n / x + 1)
  have h3 : x + (n / x + 1) ≤ 2 * ((x + n / x) / 2 + 1) := by omega
  have h4 := Nat.mul_le_mul h3 h3
  have h5 : 2 * ((x + n / x) / 2 + 1) * (2 * ((x + n / x) / 2 + 1)) = 4 * (((x + n / x) / 2 + 1) * ((x + n / x) / 2 + 1)) := by grind
  omega
theorem newton_end {n x : Nat} (hx : 0 < x) (h : x ≤ (x + n / x) / 2) : x * x ≤ n := by
  have h1 : x ≤ n / x := by omega
  have h2 := (Nat.le_div_iff_mul_le hx).1 h1
  exact h2
theorem root_one {n r x : Nat} (h1 : r * r ≤ n) (h2 : n < (r + 1) * (r + 1)) (h3 : x * x ≤ n) (h4 : n < (x + 1) * (x + 1)) : x = r := by
  rcases Nat.lt_trichotomy x r with h | h | h
  · have := Nat.mul_le_mul (show x + 1 ≤ r by omega) (show x + 1 ≤ r by omega); omega
  · exact h
  · have := Nat.mul_le_mul (show r + 1 ≤ x by omega) (show r + 1 ≤ x by omega); omega
theorem root_ex (n : Nat) : ∃ r, r * r ≤ n ∧ n < (r + 1) * (r + 1) := by
  induction n with
  | zero => exact ⟨0, by omega, by omega⟩
  | succ n ih =>
    obtain ⟨r, h1, h2⟩ := ih
    by_cases h : n + 1 < (r + 1) * (r + 1)
    · exact ⟨r, by omega, h⟩
    · refine ⟨r + 1, by omega, ?_⟩
      have := Nat.mul_le_mul (show r + 1 ≤ r + 1 + 1 by omega) (show r + 1 ≤ r + 1 + 1 by omega)
      have e : (r + 1 + 1) * (r + 1 + 1) = (r + 1) * (r + 1) + 2 * (r + 1) + 1 := by grind
      omega
theorem rep_val (k : Nat) : bval (1 :: Lib.repeatL [0] k) = 256 ^ k ∧ (Lib.repeatL [(0 : UInt8)] k).length = k := by
  induction k with
  | zero => exact ⟨rfl, rfl⟩
  | succ k ih =>
    obtain ⟨h1, h2⟩ := ih
    have e : Lib.repeatL [(0 : UInt8)] (k + 1) = 0 :: Lib.repeatL [0] k := rfl
    rw [bval_cons, h2] at h1
    rw [e, bval_cons, bval_zero_cons, List.length_cons, h2]
    refine ⟨?_, rfl⟩
    have h3 : (1 : UInt8).toNat = 1 := rfl
    rw [h3] at h1 ⊢
    have : bval (Lib.repeatL [0] k) = 0 := by omega
    rw [this]; omega
theorem S_nilR {n : Nat} (h : n ≠ 0) : ¬ (S n).toList = [] := by
  rw [S_list]; intro h2; exact h (bstr_eq_nil.1 h2)
theorem cat_eq (l : List UInt8) : (⟨#[1]⟩ : ByteArray) ++ (⟨l.toArray⟩ : ByteArray) = ⟨(1 :: l).toArray⟩ := by
  apply ByteArray.ext
  first | rfl | (rw [ByteArray.data_append]; rfl) | (rw [ByteArray.data_append]; simp)
theorem S_two : S 2 = ⟨#[2]⟩ := by decide
theorem S_pow (k : Nat) : S (256 ^ k) = ⟨(1 :: Lib.repeatL [0] k).toArray⟩ := by
  unfold S
  have h : bstr (bval (1 :: Lib.repeatL [0] k)) = 1 :: Lib.repeatL [0] k := bstr_bval (by simp [Bare])
  rw [(rep_val k).1] at h
  rw [h]
section
variable {W : World} {l : List Own}
theorem trim_w (n : Nat) (hs : (bstr n).length ≤ 35184372088832) (w : World) (h : St W l w) :
    Calls Tryd.prog 112 #[.string (S n)] w fun e w' => e = .returned (.string (S n)) ∧ Below w.heap.size w w' :=
  (trim_S n w (by unfold maxLen; omega)).mono fun e w' ⟨h1, h2⟩ => ⟨h1, h2 ▸ Below.refl _ _⟩
theorem div_w (m n : Nat) (h0 : n ≠ 0) (hm : (bstr m).length ≤ 35184372088832) (hn : (bstr n).length ≤ 35184372088832) (w : World) (h : St W l w) :
    Calls Tryd.prog 111 #[.string (S m), .string (S n)] w fun e w' => e = .returned (.tuple #[.string (S (m / n)), .string (S (m % n)), .int .i64 0]) ∧ Below w.heap.size w w' := div_S m n w h0 hm hn
theorem div_2 (m : Nat) (hm : (bstr m).length ≤ 35184372088832) (w : World) (h : St W l w) :
    Calls Tryd.prog 111 #[.string (S m), .string ⟨#[2]⟩] w fun e w' => e = .returned (.tuple #[.string (S (m / 2)), .string (S (m % 2)), .int .i64 0]) ∧ Below w.heap.size w w' := by
  rw [← S_two]; exact div_S m 2 w (by omega) hm (by decide)
theorem add_w (m n : Nat) (hm : (bstr m).length ≤ 35184372088832) (hn : (bstr n).length ≤ 35184372088832) (w : World) (h : St W l w) :
    Calls Tryd.prog 84 #[.string (S m), .string (S n)] w fun e w' => e = .returned (.string (S (m + n))) ∧ Below w.heap.size w w' := add_S m n w hm hn
theorem cmp_w (m n : Nat) {v : Int} (hm : (bstr m).length ≤ 35184372088832) (hn : (bstr n).length ≤ 35184372088832) (hv : cmpZ m n = v) (w : World) (h : St W l w) :
    Calls Tryd.prog 93 #[.string (S m), .string (S n)] w fun e w' => e = .returned (.int .i64 v) ∧ Below w.heap.size w w' :=
  (cmp_S m n w (by omega) (by omega)).mono fun e w' ⟨h1, h2⟩ => ⟨hv ▸ h1, h2 ▸ Below.refl _ _⟩
theorem rep_w (k : Nat) (hk : k ≤ 35184372088832) (w : World) (h : St W l w) :
    Calls Tryd.prog 120 #[.string ⟨#[0]⟩, .int .i64 (k : Int)] w fun e w' => e = .returned (.string ⟨(Lib.repeatL [0] k).toArray⟩) ∧ Below w.heap.size w w' :=
  Tryd.strings_Repeat ⟨#[0]⟩ k w (by omega) (by show 1 * k ≤ _; omega)
end
set_option maxRecDepth 20000 in
theorem root_0 (r : Nat) (w : World) (h2 : r * r ≤ 0) :
    Calls Tryd.prog 97 #[.string (S 0)] w fun e w' => e = .returned (.string (S r)) ∧ Below w.heap.size w w' := by
  have hr0 : r = 0 := by rcases Nat.eq_zero_or_pos r with h | h; exact h; have := Nat.mul_pos h h; omega
  clear h2
  obtain ⟨n, hn0⟩ : ∃ n, n = 0 := ⟨0, rfl⟩
  have hlen : (bstr n).length ≤ 35184372088832 := by rw [hn0]; decide
  rw [← hn0]
  have hz1 : (S n).toList = [] := by rw [hn0, S_list]; rfl
  have hz2 : (S n).toList.isEmpty = true := by rw [hz1]; rfl
  have HN := Lib.hid hn0; clear hn0
  go_enter Tryd.func97, Tryd.ntmps97
  have HS : St w [] w := St.start
  go_upto_region 0 with (fail)
  refine wp_seq_text [] (StR.no HS) ?_
  refine Seq.pure rfl rfl (by intro w; go_simp; try first | with_reducible rfl | rfl) ?_
  simp only [Act.put, List.setIfInBounds_toArray, List.set_cons_zero, List.set_cons_succ]
  refine Seq.done fun ws1 hws => ?_
  have HS1 := hws.st
  clear HS hws
  go_upto_region 1 with (fail)
  refine wp_seq_text [] (StR.no HS1) ?_
  refine Seq.pure rfl rfl (by intro w; go_simp; try first | with_reducible rfl | rfl) ?_
  simp only [Act.put, List.setIfInBounds_toArray, List.set_cons_zero, List.set_cons_succ]
  refine Seq.call rfl rfl rfl rfl (by kernel_rfl) (trim_w n hlen) ?_
  simp only [Act.put, List.setIfInBounds_toArray, List.set_cons_zero, List.set_cons_succ]
  refine Seq.pure rfl rfl (by intro w; go_simp; try first | with_reducible rfl | rfl) ?_
  simp only [Act.put, List.setIfInBounds_toArray, List.set_cons_zero, List.set_cons_succ]
  refine Seq.done fun ws2 hws => ?_
  have HS2 := hws.st
  clear HS1 hws
  go_upto_region 2 with (fail)
  refine wp_seq_text [] (StR.no HS2) ?_
  refine Seq.pure rfl rfl (by intro w; go_simp; try first | with_reducible rfl | rfl) ?_
  simp only [Act.put, List.setIfInBounds_toArray, List.set_cons_zero, List.set_cons_succ]
  refine Seq.pure rfl rfl (by intro w; go_simp; try first | with_reducible rfl | rfl) ?_
  simp only [Act.put, List.setIfInBounds_toArray, List.set_cons_zero, List.set_cons_succ]
  refine Seq.done fun ws3 hws => ?_
  have HS3 := hws.st
  clear HS2 hws
  go_upto_region 3 with (fail)
  refine wp_seq_text [] (StR.no HS3) ?_
  refine Seq.pure rfl rfl (by intro w; go_simp; try first | with_reducible rfl | rfl) ?_
  simp only [Act.put, List.setIfInBounds_toArray, List.set_cons_zero, List.set_cons_succ]
  refine Seq.done fun ws4 hws => ?_
  have HS4 := hws.st
  clear HS3 hws
  go_wp2_with fail
  go_ret
  exact ⟨by subst hr0; rfl, HS4.below⟩
set_option maxHeartbeats 2000000 in
set_option maxRecDepth 20000 in
theorem root_S (n r : Nat) (w : World) (hn : n ≠ 0) (hlen : (bstr n).length ≤ 8796093022208) (h1 : r * r ≤ n) (h2 : n < (r + 1) * (r + 1)) :
    Calls Tryd.prog 97 #[.string (S n)] w fun e w' => e = .returned (.string (S r)) ∧ Below w.heap.size w w' := by
  have HL := Lib.hid (show (bstr n).length ≤ 35184372088832 by omega)
  have hnil := S_nilR hn
  have hemp := S_empty_of hn
  obtain ⟨k, hk⟩ : ∃ k, ((bstr n).length + 1) / 2 = k := ⟨_, rfl⟩
  have HK := Lib.hid (show k ≤ 35184372088832 by omega)
  have hszI : (((S n).size : Nat) : Int) = ((bstr n).length : Nat) := by rw [S_size]
  obtain ⟨L, hL⟩ : ∃ L, (bstr n).length = L := ⟨_, rfl⟩
  rw [hL] at hszI
  have hw1 : IntKind.i64.wrap ((L : Int) + 1) = ((L + 1 : Nat) : Int) := by rw [IntWalk.i64_in _ (by omega)]; omega
  have hw2 : ((L + 1 : Nat) : Int).tdiv 2 = ((k : Nat) : Int) := by rw [← hk, hL]; rw [Int.tdiv_eq_ediv_of_nonneg (by omega)]; omega
  have hw3 : ((L : Int) + 1).tdiv 2 = ((k : Nat) : Int) := by rw [← hk, hL]; rw [Int.tdiv_eq_ediv_of_nonneg (by omega)]; omega
  have hw4 : IntKind.i64.wrap ((k : Nat) : Int) = ((k : Nat) : Int) := IntWalk.i64_in _ (by omega)
  have HX := Lib.hid (And.intro hn (And.intro hlen (And.intro h1 (And.intro h2 (And.intro hk hL))))); clear hn hlen h1 h2 hk hL
  go_enter Tryd.func97, Tryd.ntmps97
  have HS : St w [] w := St.start
  go_upto_region 0 with (fail)
  refine wp_seq_text [] (StR.no HS) ?_
  refine Seq.pure rfl rfl (by intro w; go_simp; try first | with_reducible rfl | rfl) ?_
  simp only [Act.put, List.setIfInBounds_toArray, List.set_cons_zero, List.set_cons_succ]
  refine Seq.done fun ws1 hws => ?_
  have HS1 := hws.st
  clear HS hws
  go_upto_region 1 with (fail)
  refine wp_seq_text [] (StR.no HS1) ?_
  refine Seq.pure rfl rfl (by intro w; go_simp; try first | with_reducible rfl | rfl) ?_
  simp only [Act.put, List.setIfInBounds_toArray, List.set_cons_zero, List.set_cons_succ]
  refine Seq.call rfl rfl rfl rfl (by kernel_rfl) (trim_w n HL.out) ?_
  simp only [Act.put, List.setIfInBounds_toArray, List.set_cons_zero, List.set_cons_succ]
  refine Seq.pure rfl rfl (by intro w; go_simp; try first | with_reducible rfl | rfl) ?_
  simp only [Act.put, List.setIfInBounds_toArray, List.set_cons_zero, List.set_cons_succ]
  refine Seq.done fun ws2 hws => ?_
  have HS2 := hws.st
  clear HS1 hws
  go_upto_region 2 with (fail)
  refine wp_seq_text [] (StR.no HS2) ?_
  refine Seq.pure rfl rfl (by intro w; go_simp; try first | with_reducible rfl | rfl) ?_
  simp only [Act.put, List.setIfInBounds_toArray, List.set_cons_zero, List.set_cons_succ]
  refine Seq.pure rfl rfl (by intro w; go_simp; try first | with_reducible rfl | rfl) ?_
  simp only [Act.put, List.setIfInBounds_toArray, List.set_cons_zero, List.set_cons_succ]
  refine Seq.done fun ws3 hws => ?_
  have HS3 := hws.st
  clear HS2 hws
  go_upto_region 4 with (fail)
  refine wp_seq_text [] (StR.no HS3) ?_
  refine Seq.pure rfl rfl (by intro w; go_simp; try first | with_reducible rfl | rfl) ?_
  simp only [Act.put, List.setIfInBounds_toArray, List.set_cons_zero, List.set_cons_succ]
  refine Seq.pure rfl rfl (by intro w; go_simp; try first | with_reducible rfl | rfl) ?_
  simp only [Act.put, List.setIfInBounds_toArray, List.set_cons_zero, List.set_cons_succ]
  refine Seq.pure rfl rfl (by intro w; go_simp; try first | with_reducible rfl | rfl) ?_
  simp only [Act.put, List.setIfInBounds_toArray, List.set_cons_zero, List.set_cons_succ]
  refine Seq.pure rfl rfl (by intro w; go_simp; try first | with_reducible rfl | rfl) ?_
  simp only [Act.put, List.setIfInBounds_toArray, List.set_cons_zero, List.set_cons_succ]
  refine Seq.call rfl rfl rfl rfl (by kernel_rfl) (rep_w k HK.out) ?_
  simp only [Act.put, List.setIfInBounds_toArray, List.set_cons_zero, List.set_cons_succ]
  refine Seq.pure (v := .string (S (256 ^ k))) rfl rfl (by intro w; rw [S_pow]; have e := (rep_val k).2; have hk := HK.out; have hbig : ¬ (9223372036854775807 < 1 + k) := (by omega); clear hk; go_simp; exact cat_eq _) ?_
  simp only [Act.put, List.setIfInBounds_toArray, List.set_cons_zero, List.set_cons_succ]
  refine Seq.pure rfl rfl (by intro w; go_simp; try first | with_reducible rfl | rfl) ?_
  simp only [Act.put, List.setIfInBounds_toArray, List.set_cons_zero, List.set_cons_succ]
  refine Seq.done fun ws4 hws => ?_
  have HS4 := hws.st
  clear HS3 hws
  have HI := Lib.hid (show 0 < 256 ^ k ∧ n < (256 ^ k + 1) * (256 ^ k + 1) ∧ (bstr (256 ^ k)).length ≤ 8796093022209 by
    obtain ⟨hn, hlen, h1, h2, hk, hL⟩ := HX.out
    have h3 : 0 < 256 ^ k := Nat.pow_pos (by omega)
    have h4 : n < 256 ^ L := bstr_length_le.1 (by omega)
    have h5 : 256 ^ L ≤ 256 ^ (k + k) := Nat.pow_le_pow_right (by omega) (by omega)
    rw [Nat.pow_add] at h5
    have h6 := Nat.mul_le_mul (show 256 ^ k ≤ 256 ^ k + 1 by omega) (show 256 ^ k ≤ 256 ^ k + 1 by omega)
    refine ⟨h3, by omega, ?_⟩
    have h7 : (bstr (256 ^ k)).length ≤ k + 1 := bstr_length_le.2 (by rw [Nat.pow_succ]; omega)
    omega)
  go_wp2_with fail
  go_loopg [3] (256 ^ k) (fun kk s3 wr => ∃ x : Nat, kk = x ∧ s3 = .string (S x) ∧ Hid (0 < x ∧ n < (x + 1) * (x + 1) ∧ (bstr x).length ≤ 8796093022209) ∧ Hid (St w [] wr))
  case atStart => exact ⟨256 ^ k, rfl, rfl, HI.out, HS4⟩
  case round =>
    obtain ⟨x, hgk, rfl, hx, hS⟩ := hrel
    have HGK := Lib.hid hgk; clear hgk
    have HR := hS.out; clear hS
    have hnx : n / x ≤ n := Nat.div_le_self _ _
    have lq : (bstr (n / x)).length ≤ 35184372088832 := Nat.le_trans (len_le_of_le hnx) HL.out
    have ls : (bstr (x + n / x)).length ≤ 35184372088832 := by
      have h := (show Sz 8796093022209 x from hx.out.2.2).add (show Sz 8796093022208 (n / x) from Nat.le_trans (len_le_of_le hnx) HX.out.2.1)
      unfold Sz at h; omega
    have ly : (bstr ((x + n / x) / 2)).length ≤ 35184372088832 := Nat.le_trans (len_le_of_le (Nat.div_le_self _ _)) ls
    have HX0 := Lib.hid (show x ≠ 0 ∧ True ∧ (bstr x).length ≤ 35184372088832 ∧ (bstr (n / x)).length ≤ 35184372088832 ∧ (bstr (x + n / x)).length ≤ 35184372088832 ∧ (bstr ((x + n / x) / 2)).length ≤ 35184372088832 from ⟨by have := hx.out.1; omega, trivial, by have := hx.out.2.2; omega, lq, ls, ly⟩)
    clear hnx lq ls ly
    by_cases hy : x ≤ (x + n / x) / 2
    · have HE := Lib.hid (root_one HX.out.2.2.1 HX.out.2.2.2.1 (newton_end hx.out.1 hy) hx.out.2.1)
      obtain ⟨v, hv, hv0⟩ : ∃ v, cmpZ ((x + n / x) / 2) x = v ∧ decide (0 ≤ v) = true := ⟨_, rfl, decide_eq_true (by unfold cmpZ; split <;> (try split) <;> omega)⟩
      have HV := Lib.hid hv; clear hv hy
      go_upto_region 5 with (fail)
      refine wp_seq_text [] (StR.no HR) ?_
      refine Seq.pure rfl rfl (by intro w; go_simp; try first | with_reducible rfl | rfl) ?_
      simp only [Act.put, List.setIfInBounds_toArray, List.set_cons_zero, List.set_cons_succ]
      refine Seq.pure rfl rfl (by intro w; go_simp; try first | with_reducible rfl | rfl) ?_
      simp only [Act.put, List.setIfInBounds_toArray, List.set_cons_zero, List.set_cons_succ]
      refine Seq.call rfl rfl rfl rfl (by kernel_rfl) (div_w n x HX0.out.1 HL.out HX0.out.2.2.1) ?_
      simp only [Act.put, List.setIfInBounds_toArray, List.set_cons_zero, List.set_cons_succ]
      refine Seq.pure rfl rfl (by intro w; go_simp; try first | with_reducible rfl | rfl) ?_
      simp only [Act.put, List.setIfInBounds_toArray, List.set_cons_zero, List.set_cons_succ]
      refine Seq.pure rfl rfl (by intro w; go_simp; try first | with_reducible rfl | rfl) ?_
      simp only [Act.put, List.setIfInBounds_toArray, List.set_cons_zero, List.set_cons_succ]
      refine Seq.pure rfl rfl (by intro w; go_simp; try first | with_reducible rfl | rfl) ?_
      simp only [Act.put, List.setIfInBounds_toArray, List.set_cons_zero, List.set_cons_succ]
      refine Seq.pure rfl rfl (by intro w; go_simp; try first | with_reducible rfl | rfl) ?_
      simp only [Act.put, List.setIfInBounds_toArray, List.set_cons_zero, List.set_cons_succ]
      refine Seq.pure rfl rfl (by intro w; go_simp; try first | with_reducible rfl | rfl) ?_
      simp only [Act.put, List.setIfInBounds_toArray, List.set_cons_zero, List.set_cons_succ]
      refine Seq.pure rfl rfl (by intro w; go_simp; try first | with_reducible rfl | rfl) ?_
      simp only [Act.put, List.setIfInBounds_toArray, List.set_cons_zero, List.set_cons_succ]
      refine Seq.pure rfl rfl (by intro w; go_simp; try first | with_reducible rfl | rfl) ?_
      simp only [Act.put, List.setIfInBounds_toArray, List.set_cons_zero, List.set_cons_succ]
      refine Seq.done fun ws5 hws => ?_
      have HS5 := hws.st
      clear HR hws
      go_upto_region 6 with (fail)
      refine wp_seq_text [] (StR.no HS5) ?_
      refine Seq.pure rfl rfl (by intro w; go_simp; try first | with_reducible rfl | rfl) ?_
      simp only [Act.put, List.setIfInBounds_toArray, List.set_cons_zero, List.set_cons_succ]
      refine Seq.pure rfl rfl (by intro w; go_simp; try first | with_reducible rfl | rfl) ?_
      simp only [Act.put, List.setIfInBounds_toArray, List.set_cons_zero, List.set_cons_succ]
      refine Seq.call rfl rfl rfl rfl (by kernel_rfl) (add_w x (n / x) HX0.out.2.2.1 HX0.out.2.2.2.1) ?_
      simp only [Act.put, List.setIfInBounds_toArray, List.set_cons_zero, List.set_cons_succ]
      refine Seq.call rfl rfl rfl rfl (by kernel_rfl) (div_2 (x + n / x) HX0.out.2.2.2.2.1) ?_
      simp only [Act.put, List.setIfInBounds_toArray, List.set_cons_zero, List.set_cons_succ]
      refine Seq.pure rfl rfl (by intro w; go_simp; try first | with_reducible rfl | rfl) ?_
      simp only [Act.put, List.setIfInBounds_toArray, List.set_cons_zero, List.set_cons_succ]
      refine Seq.pure rfl rfl (by intro w; go_simp; try first | with_reducible rfl | rfl) ?_
      simp only [Act.put, List.setIfInBounds_toArray, List.set_cons_zero, List.set_cons_succ]
      refine Seq.pure rfl rfl (by intro w; go_simp; try first | with_reducible rfl | rfl) ?_
      simp only [Act.put, List.setIfInBounds_toArray, List.set_cons_zero, List.set_cons_succ]
      refine Seq.pure rfl rfl (by intro w; go_simp; try first | with_reducible rfl | rfl) ?_
      simp only [Act.put, List.setIfInBounds_toArray, List.set_cons_zero, List.set_cons_succ]
      refine Seq.pure rfl rfl (by intro w; go_simp; try first | with_reducible rfl | rfl) ?_
      simp only [Act.put, List.setIfInBounds_toArray, List.set_cons_zero, List.set_cons_succ]
      refine Seq.pure rfl rfl (by intro w; go_simp; try first | with_reducible rfl | rfl) ?_
      simp only [Act.put, List.setIfInBounds_toArray, List.set_cons_zero, List.set_cons_succ]
      refine Seq.pure rfl rfl (by intro w; go_simp; try first | with_reducible rfl | rfl) ?_
      simp only [Act.put, List.setIfInBounds_toArray, List.set_cons_zero, List.set_cons_succ]
      refine Seq.done fun ws6 hws => ?_
      have HS6 := hws.st
      clear HS5 hws
      go_upto_region 7 with (fail)
      refine wp_seq_text [] (StR.no HS6) ?_
      refine Seq.pure rfl rfl (by intro w; go_simp; try first | with_reducible rfl | rfl) ?_
      simp only [Act.put, List.setIfInBounds_toArray, List.set_cons_zero, List.set_cons_succ]
      refine Seq.pure rfl rfl (by intro w; go_simp; try first | with_reducible rfl | rfl) ?_
      simp only [Act.put, List.setIfInBounds_toArray, List.set_cons_zero, List.set_cons_succ]
      refine Seq.call rfl rfl rfl rfl (by kernel_rfl) (cmp_w ((x + n / x) / 2) x (v := v) HX0.out.2.2.2.2.2 HX0.out.2.2.1 HV.out) ?_
      simp only [Act.put, List.setIfInBounds_toArray, List.set_cons_zero, List.set_cons_succ]
      refine Seq.pure rfl rfl (by intro w; go_simp; try first | with_reducible rfl | rfl) ?_
      simp only [Act.put, List.setIfInBounds_toArray, List.set_cons_zero, List.set_cons_succ]
      refine Seq.done fun ws7 hws => ?_
      have HS7 := hws.st
      clear HS6 hws
      go_upto_region 8 with (fail)
      refine wp_seq_text [] (StR.no HS7) ?_
      refine Seq.pure rfl rfl (by intro w; go_simp; try first | with_reducible rfl | rfl) ?_
      simp only [Act.put, List.setIfInBounds_toArray, List.set_cons_zero, List.set_cons_succ]
      refine Seq.pure rfl rfl (by intro w; go_simp; try first | with_reducible rfl | rfl) ?_
      simp only [Act.put, List.setIfInBounds_toArray, List.set_cons_zero, List.set_cons_succ]
      refine Seq.done fun ws8 hws => ?_
      have HS8 := hws.st
      clear HS7 hws
      go_wp2_with fail
      go_ret
      exact ⟨by have e := HE.out; subst e; rfl, HS8.below⟩
    · have hyl : (x + n / x) / 2 < x := by omega
      have HE := Lib.hid hyl
      have HNX := Lib.hid (show 0 < (x + n / x) / 2 ∧ n < ((x + n / x) / 2 + 1) * ((x + n / x) / 2 + 1) ∧ (bstr ((x + n / x) / 2)).length ≤ 8796093022209 from ⟨by
        rcases Nat.eq_zero_or_pos ((x + n / x) / 2) with h | h
        · have h8 := newton_ge (n := n) hx.out.1
          rw [h] at h8
          exact absurd (show n = 0 by omega) HX.out.1
        · exact h, newton_ge hx.out.1, Nat.le_trans (len_le_of_le (Nat.le_of_lt hyl)) hx.out.2.2⟩)
      obtain ⟨v, hv, hv0⟩ : ∃ v, cmpZ ((x + n / x) / 2) x = v ∧ decide (0 ≤ v) = false := ⟨_, rfl, decide_eq_false (by unfold cmpZ; rw [if_pos hyl]; omega)⟩
      have HV := Lib.hid hv; clear hv hy hyl
      go_upto_region 5 with (fail)
      refine wp_seq_text [] (StR.no HR) ?_
      refine Seq.pure rfl rfl (by intro w; go_simp; try first | with_reducible rfl | rfl) ?_
      simp only [Act.put, List.setIfInBounds_toArray, List.set_cons_zero, List.set_cons_succ]
      refine Seq.pure rfl rfl (by intro w; go_simp; try first | with_reducible rfl | rfl) ?_
      simp only [Act.put, List.setIfInBounds_toArray, List.set_cons_zero, List.set_cons_succ]
      refine Seq.call rfl rfl rfl rfl (by kernel_rfl) (div_w n x HX0.out.1 HL.out HX0.out.2.2.1) ?_
      simp only [Act.put, List.setIfInBounds_toArray, List.set_cons_zero, List.set_cons_succ]
      refine Seq.pure rfl rfl (by intro w; go_simp; try first | with_reducible rfl | rfl) ?_
      simp only [Act.put, List.setIfInBounds_toArray, List.set_cons_zero, List.set_cons_succ]
      refine Seq.pure rfl rfl (by intro w; go_simp; try first | with_reducible rfl | rfl) ?_
      simp only [Act.put, List.setIfInBounds_toArray, List.set_cons_zero, List.set_cons_succ]
      refine Seq.pure rfl rfl (by intro w; go_simp; try first | with_reducible rfl | rfl) ?_
      simp only [Act.put, List.setIfInBounds_toArray, List.set_cons_zero, List.set_cons_succ]
      refine Seq.pure rfl rfl (by intro w; go_simp; try first | with_reducible rfl | rfl) ?_
      simp only [Act.put, List.setIfInBounds_toArray, List.set_cons_zero, List.set_cons_succ]
      refine Seq.pure rfl rfl (by intro w; go_simp; try first | with_reducible rfl | rfl) ?_
      simp only [Act.put, List.setIfInBounds_toArray, List.set_cons_zero, List.set_cons_succ]
      refine Seq.pure rfl rfl (by intro w; go_simp; try first | with_reducible rfl | rfl) ?_
      simp only [Act.put, List.setIfInBounds_toArray, List.set_cons_zero, List.set_cons_succ]
      refine Seq.pure rfl rfl (by intro w; go_simp; try first | with_reducible rfl | rfl) ?_
      simp only [Act.put, List.setIfInBounds_toArray, List.set_cons_zero, List.set_cons_succ]
      refine Seq.done fun ws5 hws => ?_
      have HS5 := hws.st
      clear HR hws
      go_upto_region 6 with (fail)
      refine wp_seq_text [] (StR.no HS5) ?_
      refine Seq.pure rfl rfl (by intro w; go_simp; try first | with_reducible rfl | rfl) ?_
      simp only [Act.put, List.setIfInBounds_toArray, List.set_cons_zero, List.set_cons_succ]
      refine Seq.pure rfl rfl (by intro w; go_simp; try first | with_reducible rfl | rfl) ?_
      simp only [Act.put, List.setIfInBounds_toArray, List.set_cons_zero, List.set_cons_succ]
      refine Seq.call rfl rfl rfl rfl (by kernel_rfl) (add_w x (n / x) HX0.out.2.2.1 HX0.out.2.2.2.1) ?_
      simp only [Act.put, List.setIfInBounds_toArray, List.set_cons_zero, List.set_cons_succ]
      refine Seq.call rfl rfl rfl rfl (by kernel_rfl) (div_2 (x + n / x) HX0.out.2.2.2.2.1) ?_
      simp only [Act.put, List.setIfInBounds_toArray, List.set_cons_zero, List.set_cons_succ]
      refine Seq.pure rfl rfl (by intro w; go_simp; try first | with_reducible rfl | rfl) ?_
      simp only [Act.put, List.setIfInBounds_toArray, List.set_cons_zero, List.set_cons_succ]
      refine Seq.pure rfl rfl (by intro w; go_simp; try first | with_reducible rfl | rfl) ?_
      simp only [Act.put, List.setIfInBounds_toArray, List.set_cons_zero, List.set_cons_succ]
      refine Seq.pure rfl rfl (by intro w; go_simp; try first | with_reducible rfl | rfl) ?_
      simp only [Act.put, List.setIfInBounds_toArray, List.set_cons_zero, List.set_cons_succ]
      refine Seq.pure rfl rfl (by intro w; go_simp; try first | with_reducible rfl | rfl) ?_
      simp only [Act.put, List.setIfInBounds_toArray, List.set_cons_zero, List.set_cons_succ]
      refine Seq.pure rfl rfl (by intro w; go_simp; try first | with_reducible rfl | rfl) ?_
      simp only [Act.put, List.setIfInBounds_toArray, List.set_cons_zero, List.set_cons_succ]
      refine Seq.pure rfl rfl (by intro w; go_simp; try first | with_reducible rfl | rfl) ?_
      simp only [Act.put, List.setIfInBounds_toArray, List.set_cons_zero, List.set_cons_succ]
      refine Seq.pure rfl rfl (by intro w; go_simp; try first | with_reducible rfl | rfl) ?_
      simp only [Act.put, List.setIfInBounds_toArray, List.set_cons_zero, List.set_cons_succ]
      refine Seq.done fun ws6 hws => ?_
      have HS6 := hws.st
      clear HS5 hws
      go_upto_region 7 with (fail)
      refine wp_seq_text [] (StR.no HS6) ?_
      refine Seq.pure rfl rfl (by intro w; go_simp; try first | with_reducible rfl | rfl) ?_
      simp only [Act.put, List.setIfInBounds_toArray, List.set_cons_zero, List.set_cons_succ]
      refine Seq.pure rfl rfl (by intro w; go_simp; try first | with_reducible rfl | rfl) ?_
      simp only [Act.put, List.setIfInBounds_toArray, List.set_cons_zero, List.set_cons_succ]
      refine Seq.call rfl rfl rfl rfl (by kernel_rfl) (cmp_w ((x + n / x) / 2) x (v := v) HX0.out.2.2.2.2.2 HX0.out.2.2.1 HV.out) ?_
      simp only [Act.put, List.setIfInBounds_toArray, List.set_cons_zero, List.set_cons_succ]
      refine Seq.pure rfl rfl (by intro w; go_simp; try first | with_reducible rfl | rfl) ?_
      simp only [Act.put, List.setIfInBounds_toArray, List.set_cons_zero, List.set_cons_succ]
      refine Seq.done fun ws7 hws => ?_
      have HS7 := hws.st
      clear HS6 hws
      go_upto_region 9 with (fail)
      refine wp_seq_text [] (StR.no HS7) ?_
      refine Seq.pure rfl rfl (by intro w; go_simp; try first | with_reducible rfl | rfl) ?_
      simp only [Act.put, List.setIfInBounds_toArray, List.set_cons_zero, List.set_cons_succ]
      refine Seq.pure rfl rfl (by intro w; go_simp; try first | with_reducible rfl | rfl) ?_
      simp only [Act.put, List.setIfInBounds_toArray, List.set_cons_zero, List.set_cons_succ]
      refine Seq.done fun ws8 hws => ?_
      have HS8 := hws.st
      clear HS7 hws
      go_wp2_with fail
      go_roundg ((x + n / x) / 2)
      case measure => rw [HGK.out]; exact HE.out
      case rel => exact ⟨_, rfl, rfl, HNX.out, HS8⟩
end Go.Proofs.YtahmajbgfjinbaaDoor
