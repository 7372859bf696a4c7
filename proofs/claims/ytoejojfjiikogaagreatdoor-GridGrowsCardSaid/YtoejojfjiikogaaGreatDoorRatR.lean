/- Joined texts. -/
import Derived.Test.YtoejojfjiikogaaGreatDoorRatQ

/- rat.whole, Down, Up, Floor (walks printed by ratround.py). -/
namespace Go.Proofs.YtoejojfjiikogaaGreatDoor
open Go.RowKit
set_option linter.unusedVariables false
set_option linter.unusedSimpArgs false

theorem made_q {k : Nat} (s : Bool) (n d : Nat) {W : World} {l : List Own} (hT : Tab W) (hd : d ≠ 0) (hn : Sz k n) (hdk : Sz k d) (hk : k ≤ 35184372088832) {q : Rat} (hq : mkRat (sg s n) d = q) (w : World) (h : St W l w) :
    Calls Tryz.prog 73 #[.bool s, .string (S n), .string (S d)] w fun e w' => e = .returned (.agg (RC q)) ∧ Below w.heap.size w w' := by
  rw [← hq]; exact made_R s n d k w hd hn hdk hk (tabS hT h)
theorem made_1 {k : Nat} (s : Bool) (n : Nat) {W : World} {l : List Own} (hT : Tab W) (hn : Sz k n) (hk : k ≤ 35184372088832) (hk1 : 1 ≤ k) {q : Rat} (hq : mkRat (sg s n) 1 = q) (w : World) (h : St W l w) :
    Calls Tryz.prog 73 #[.bool s, .string (S n), .string ⟨#[1]⟩] w fun e w' => e = .returned (.agg (RC q)) ∧ Below w.heap.size w w' := by
  rw [← S_one]; exact made_q s n 1 hT (by omega) hn (Sz.one.more hk1) hk hq w h
theorem div_s {k : Nat} (m n : Nat) {W : World} {l : List Own} (h0 : n ≠ 0) (hm : Sz k m) (hn : Sz k n) (hk : k ≤ 35184372088832) (w : World) (h : St W l w) :
    Calls Tryz.prog 84 #[.string (S m), .string (S n)] w fun e w' => e = .returned (.tuple #[.string (S (m / n)), .string (S (m % n)), .int .i64 0]) ∧ Below w.heap.size w w' :=
  div_S m n w h0 (Nat.le_trans hm hk) (Nat.le_trans hn hk)
theorem add_1 {k : Nat} (m : Nat) {W : World} {l : List Own} (hm : Sz k m) (hk : k ≤ 35184372088832) (w : World) (h : St W l w) :
    Calls Tryz.prog 75 #[.string (S m), .string ⟨#[1]⟩] w fun e w' => e = .returned (.string (S (m + 1))) ∧ Below w.heap.size w w' := by
  rw [← S_one]; exact add_S m 1 w (Nat.le_trans hm hk) (Nat.le_trans Sz.one (by omega))
theorem Sz.div {k m : Nat} (h : Sz k m) (n : Nat) : Sz k (m / n) := h.le (Nat.div_le_self _ _)
/-- a number, rounded down -/
def flQ (q : Rat) : Int := q.num / (q.den : Int)
theorem whole_val (s : Bool) (n d : Nat) (hd : d ≠ 0) : (sg s n) / (d : Int) = sg s (if s = true ∧ n % d ≠ 0 then n / d + 1 else n / d) := by
  unfold sg
  cases s with
  | false => simp
  | true =>
    simp only [if_true, true_and]
    have hp : (0 : Int) < d := by omega
    have h1 := Nat.div_add_mod n d
    have h2 := Nat.mod_lt n (Nat.pos_of_ne_zero hd)
    by_cases h : n % d = 0
    · rw [if_neg (by omega)]
      have h3 : (n : Int) = (d : Int) * ((n / d : Nat) : Int) := by rw [← Int.natCast_mul]; congr 1; omega
      rw [h3, ← Int.mul_neg, Int.mul_ediv_cancel_left _ (by omega)]
    · rw [if_pos h]
      have h3 : -(n : Int) = (d - n % d : Nat) + (d : Int) * (-((n / d + 1 : Nat) : Int)) := by
        have h4 : (n : Int) = (d : Int) * ((n / d : Nat) : Int) + ((n % d : Nat) : Int) := by rw [← Int.natCast_mul, ← Int.natCast_add]; congr 1; omega
        have h5 : ((d - n % d : Nat) : Int) = (d : Int) - ((n % d : Nat) : Int) := by omega
        rw [h5, Int.natCast_add, Int.mul_neg, Int.mul_add]
        omega
      rw [h3, Int.add_mul_ediv_left _ _ (by omega), Int.ediv_eq_zero_of_lt (by omega) (by omega)]
      omega
set_option maxRecDepth 20000 in
theorem whole_pos {k : Nat} (n d : Nat) {q : Rat} (w : World) (hd : d ≠ 0)  (hn : Sz k n) (hdk : Sz k d) (hk : k ≤ 17592186044416) (hk1 : 1 ≤ k) (hT : Tab w) (hq : mkRat (sg false (n / d)) 1 = q) :
    Calls Tryz.prog 44 #[.agg #[.bool false, .string (S n), .string (S d)]] w fun e w' => e = .returned (.agg (RC q)) ∧ Below w.heap.size w w' := by
  have HH := Lib.hid (And.intro hd (And.intro hn (And.intro hdk (And.intro hT hq)))); clear hd hn hdk hT hq
  go_enter Tryz.func44, Tryz.ntmps44
  have HS : St w [] w := St.start
  go_upto_region 0 with (fail)
  refine wp_seq_text [] (StR.no HS) ?_
  refine Seq.box rfl rfl rfl (v := .agg (#[.bool false, .string (S n), .string (S d)])) (cs := #[.bool false, .string (S n), .string (S d)]) rfl rfl ?_
  intro b1 _ _ hb1_r
  simp only [Act.put, List.setIfInBounds_toArray, List.set_cons_zero, List.set_cons_succ]
  refine Seq.alloc rfl rfl rfl (z := .agg #[.bool false, .string ⟨#[]⟩, .string ⟨#[]⟩]) (by kernel_rfl) rfl ?_
  intro b2 _ _ hb2_r
  obtain ⟨ne_b2_b1, hb2_r⟩ := Reg.ne_of_put hb2_r
  have ne_b1_b2 := Ne.symm ne_b2_b1
  simp only [Act.put, List.setIfInBounds_toArray, List.set_cons_zero, List.set_cons_succ]
  refine Seq.done fun ws1 hws => ?_
  have HS1 : St w [(b1, 24, #[.bool false, .string (S n), .string (S d)]), (b2, 24, #[.bool false, .string ⟨#[]⟩, .string ⟨#[]⟩])] ws1 := hws.list2 (by first | exact Reg.put_same _ _ _ | exact (Reg.put_ne _ _ (by assumption)).trans (Reg.put_same _ _ _) | exact (Reg.put_ne _ _ (by assumption)).trans ((Reg.put_ne _ _ (by assumption)).trans (Reg.put_same _ _ _)) | exact (Reg.put_ne _ _ (by assumption)).trans ((Reg.put_ne _ _ (by assumption)).trans ((Reg.put_ne _ _ (by assumption)).trans (Reg.put_same _ _ _)))) (by first | exact Reg.put_same _ _ _ | exact (Reg.put_ne _ _ (by assumption)).trans (Reg.put_same _ _ _) | exact (Reg.put_ne _ _ (by assumption)).trans ((Reg.put_ne _ _ (by assumption)).trans (Reg.put_same _ _ _)) | exact (Reg.put_ne _ _ (by assumption)).trans ((Reg.put_ne _ _ (by assumption)).trans ((Reg.put_ne _ _ (by assumption)).trans (Reg.put_same _ _ _)))) (by assumption)
  clear HS hws
  go_upto_region 1 with (fail)
  refine wp_seq_text [] (StR.no HS1) ?_
  refine Seq.pure (v := .pointer (some ⟨b1, 1, none⟩)) rfl rfl (by intro w; go_simp; try with_reducible rfl) ?_
  simp only [Act.put, List.setIfInBounds_toArray, List.set_cons_zero, List.set_cons_succ]
  refine Seq.loadCell rfl rfl rfl rfl (by repeat (first | exact List.mem_cons_self | apply List.mem_cons_of_mem)) (v := .string (S n)) rfl (by kernel_rfl) rfl ?_
  simp only [Act.put, List.setIfInBounds_toArray, List.set_cons_zero, List.set_cons_succ]
  refine Seq.pure (v := .pointer (some ⟨b1, 2, none⟩)) rfl rfl (by intro w; go_simp; try with_reducible rfl) ?_
  simp only [Act.put, List.setIfInBounds_toArray, List.set_cons_zero, List.set_cons_succ]
  refine Seq.loadCell rfl rfl rfl rfl (by repeat (first | exact List.mem_cons_self | apply List.mem_cons_of_mem)) (v := .string (S d)) rfl (by kernel_rfl) rfl ?_
  simp only [Act.put, List.setIfInBounds_toArray, List.set_cons_zero, List.set_cons_succ]
  refine Seq.call rfl rfl rfl rfl (by kernel_rfl) (div_s (k := k) n d HH.out.1 HH.out.2.1 HH.out.2.2.1 (by omega)) ?_
  simp only [Act.put, List.setIfInBounds_toArray, List.set_cons_zero, List.set_cons_succ]
  refine Seq.pure rfl rfl (by intro w; go_simp; try with_reducible rfl) ?_
  simp only [Act.put, List.setIfInBounds_toArray, List.set_cons_zero, List.set_cons_succ]
  refine Seq.pure rfl rfl (by intro w; go_simp; try with_reducible rfl) ?_
  simp only [Act.put, List.setIfInBounds_toArray, List.set_cons_zero, List.set_cons_succ]
  refine Seq.pure rfl rfl (by intro w; go_simp; try with_reducible rfl) ?_
  simp only [Act.put, List.setIfInBounds_toArray, List.set_cons_zero, List.set_cons_succ]
  refine Seq.pure rfl rfl (by intro w; go_simp; try with_reducible rfl) ?_
  simp only [Act.put, List.setIfInBounds_toArray, List.set_cons_zero, List.set_cons_succ]
  refine Seq.pure rfl rfl (by intro w; go_simp; try with_reducible rfl) ?_
  simp only [Act.put, List.setIfInBounds_toArray, List.set_cons_zero, List.set_cons_succ]
  refine Seq.pure rfl rfl (by intro w; go_simp; try with_reducible rfl) ?_
  simp only [Act.put, List.setIfInBounds_toArray, List.set_cons_zero, List.set_cons_succ]
  refine Seq.pure rfl rfl (by intro w; go_simp; try with_reducible rfl) ?_
  simp only [Act.put, List.setIfInBounds_toArray, List.set_cons_zero, List.set_cons_succ]
  refine Seq.done fun ws2 hws => ?_
  have HS2 := hws.st
  clear HS1 hws
  go_upto_region 2 with (fail)
  refine wp_seq_text [] (StR.no HS2) ?_
  refine Seq.pure (v := .pointer (some ⟨b1, 0, none⟩)) rfl rfl (by intro w; go_simp; try with_reducible rfl) ?_
  simp only [Act.put, List.setIfInBounds_toArray, List.set_cons_zero, List.set_cons_succ]
  refine Seq.loadCell rfl rfl rfl rfl (by repeat (first | exact List.mem_cons_self | apply List.mem_cons_of_mem)) (v := .bool false) rfl (by kernel_rfl) rfl ?_
  simp only [Act.put, List.setIfInBounds_toArray, List.set_cons_zero, List.set_cons_succ]
  refine Seq.pure rfl rfl (by intro w; go_simp; try with_reducible rfl) ?_
  simp only [Act.put, List.setIfInBounds_toArray, List.set_cons_zero, List.set_cons_succ]
  refine Seq.nw rfl ?_
  simp only [Act.put, List.setIfInBounds_toArray, List.set_cons_zero, List.set_cons_succ]
  refine Seq.nw rfl ?_
  simp only [Act.put, List.setIfInBounds_toArray, List.set_cons_zero, List.set_cons_succ]
  refine Seq.pure rfl rfl (by intro w; go_simp; try with_reducible rfl) ?_
  simp only [Act.put, List.setIfInBounds_toArray, List.set_cons_zero, List.set_cons_succ]
  refine Seq.done fun ws3 hws => ?_
  have HS3 := hws.st
  clear HS2 hws
  go_upto_region 4 with (fail)
  have HP3 : St w [(b2, 24, #[.bool false, .string ⟨#[]⟩, .string ⟨#[]⟩]), (b1, 24, #[.bool false, .string (S n), .string (S d)])] _ := St.perm HS3 (by first | exact List.Perm.refl _ | exact List.Perm.swap _ _ _ | (simp [List.perm_cons, List.Perm.swap, List.perm_middle]))
  refine wp_seq_text [] (StR.move (StR.no HP3)) ?_
  refine Seq.pure (v := .pointer (some ⟨b1, 0, none⟩)) rfl rfl (by intro w; go_simp; try with_reducible rfl) ?_
  simp only [Act.put, List.setIfInBounds_toArray, List.set_cons_zero, List.set_cons_succ]
  refine Seq.loadCell rfl rfl rfl rfl (by repeat (first | exact List.mem_cons_self | apply List.mem_cons_of_mem)) (v := .bool false) rfl (by kernel_rfl) rfl ?_
  simp only [Act.put, List.setIfInBounds_toArray, List.set_cons_zero, List.set_cons_succ]
  refine Seq.pure rfl rfl (by intro w; go_simp; try with_reducible rfl) ?_
  simp only [Act.put, List.setIfInBounds_toArray, List.set_cons_zero, List.set_cons_succ]
  refine Seq.call rfl rfl rfl rfl (by kernel_rfl) (made_1 (k := k + 2) false (n / d) HH.out.2.2.2.1 ((HH.out.2.1.div d).more (by omega)) (by omega) (by omega) HH.out.2.2.2.2) ?_
  simp only [Act.put, List.setIfInBounds_toArray, List.set_cons_zero, List.set_cons_succ]
  refine Seq.store rfl rfl rfl rfl rfl (by first | exact Reg.put_same _ _ _ | exact (Reg.put_ne _ _ (by assumption)).trans (Reg.put_same _ _ _) | exact (Reg.put_ne _ _ (by assumption)).trans ((Reg.put_ne _ _ (by assumption)).trans (Reg.put_same _ _ _)) | exact (Reg.put_ne _ _ (by assumption)).trans ((Reg.put_ne _ _ (by assumption)).trans ((Reg.put_ne _ _ (by assumption)).trans (Reg.put_same _ _ _)))) (n := 3) rfl rfl (by kernel_rfl) (RC_one _) ?_
  simp only [Act.put, List.setIfInBounds_toArray, List.set_cons_zero, List.set_cons_succ]
  refine Seq.done fun ws4 hws => ?_
  have HS4 : St w [(b2, 24, RC q), (b1, 24, #[.bool false, .string (S n), .string (S d)])] ws4 := hws.list1 (by first | exact Reg.put_same _ _ _ | exact (Reg.put_ne _ _ (by assumption)).trans (Reg.put_same _ _ _) | exact (Reg.put_ne _ _ (by assumption)).trans ((Reg.put_ne _ _ (by assumption)).trans (Reg.put_same _ _ _)) | exact (Reg.put_ne _ _ (by assumption)).trans ((Reg.put_ne _ _ (by assumption)).trans ((Reg.put_ne _ _ (by assumption)).trans (Reg.put_same _ _ _))))
  clear HS3 hws HP3
  go_wp2_with fail
  exact ret_own rfl rfl rfl HS4 (by repeat (first | exact List.mem_cons_self | apply List.mem_cons_of_mem)) (n := 3) rfl (by kernel_rfl) ⟨rfl, HS4.below⟩
set_option maxRecDepth 20000 in
theorem whole_even {k : Nat} (n d : Nat) {q : Rat} (w : World) (hd : d ≠ 0) (hr : n % d = 0) (hn : Sz k n) (hdk : Sz k d) (hk : k ≤ 17592186044416) (hk1 : 1 ≤ k) (hT : Tab w) (hq : mkRat (sg true (n / d)) 1 = q) :
    Calls Tryz.prog 44 #[.agg #[.bool true, .string (S n), .string (S d)]] w fun e w' => e = .returned (.agg (RC q)) ∧ Below w.heap.size w w' := by
  have HH := Lib.hid (And.intro hd (And.intro hn (And.intro hdk (And.intro hT hq)))); clear hd hn hdk hT hq
  have hr0 : (S (n % d)).toList = [] := by rw [hr, S_list]; rfl
  clear hr
  go_enter Tryz.func44, Tryz.ntmps44
  have HS : St w [] w := St.start
  go_upto_region 0 with (fail)
  refine wp_seq_text [] (StR.no HS) ?_
  refine Seq.box rfl rfl rfl (v := .agg (#[.bool true, .string (S n), .string (S d)])) (cs := #[.bool true, .string (S n), .string (S d)]) rfl rfl ?_
  intro b1 _ _ hb1_r
  simp only [Act.put, List.setIfInBounds_toArray, List.set_cons_zero, List.set_cons_succ]
  refine Seq.alloc rfl rfl rfl (z := .agg #[.bool false, .string ⟨#[]⟩, .string ⟨#[]⟩]) (by kernel_rfl) rfl ?_
  intro b2 _ _ hb2_r
  obtain ⟨ne_b2_b1, hb2_r⟩ := Reg.ne_of_put hb2_r
  have ne_b1_b2 := Ne.symm ne_b2_b1
  simp only [Act.put, List.setIfInBounds_toArray, List.set_cons_zero, List.set_cons_succ]
  refine Seq.done fun ws1 hws => ?_
  have HS1 : St w [(b1, 24, #[.bool true, .string (S n), .string (S d)]), (b2, 24, #[.bool false, .string ⟨#[]⟩, .string ⟨#[]⟩])] ws1 := hws.list2 (by first | exact Reg.put_same _ _ _ | exact (Reg.put_ne _ _ (by assumption)).trans (Reg.put_same _ _ _) | exact (Reg.put_ne _ _ (by assumption)).trans ((Reg.put_ne _ _ (by assumption)).trans (Reg.put_same _ _ _)) | exact (Reg.put_ne _ _ (by assumption)).trans ((Reg.put_ne _ _ (by assumption)).trans ((Reg.put_ne _ _ (by assumption)).trans (Reg.put_same _ _ _)))) (by first | exact Reg.put_same _ _ _ | exact (Reg.put_ne _ _ (by assumption)).trans (Reg.put_same _ _ _) | exact (Reg.put_ne _ _ (by assumption)).trans ((Reg.put_ne _ _ (by assumption)).trans (Reg.put_same _ _ _)) | exact (Reg.put_ne _ _ (by assumption)).trans ((Reg.put_ne _ _ (by assumption)).trans ((Reg.put_ne _ _ (by assumption)).trans (Reg.put_same _ _ _)))) (by assumption)
  clear HS hws
  go_upto_region 1 with (fail)
  refine wp_seq_text [] (StR.no HS1) ?_
  refine Seq.pure (v := .pointer (some ⟨b1, 1, none⟩)) rfl rfl (by intro w; go_simp; try with_reducible rfl) ?_
  simp only [Act.put, List.setIfInBounds_toArray, List.set_cons_zero, List.set_cons_succ]
  refine Seq.loadCell rfl rfl rfl rfl (by repeat (first | exact List.mem_cons_self | apply List.mem_cons_of_mem)) (v := .string (S n)) rfl (by kernel_rfl) rfl ?_
  simp only [Act.put, List.setIfInBounds_toArray, List.set_cons_zero, List.set_cons_succ]
  refine Seq.pure (v := .pointer (some ⟨b1, 2, none⟩)) rfl rfl (by intro w; go_simp; try with_reducible rfl) ?_
  simp only [Act.put, List.setIfInBounds_toArray, List.set_cons_zero, List.set_cons_succ]
  refine Seq.loadCell rfl rfl rfl rfl (by repeat (first | exact List.mem_cons_self | apply List.mem_cons_of_mem)) (v := .string (S d)) rfl (by kernel_rfl) rfl ?_
  simp only [Act.put, List.setIfInBounds_toArray, List.set_cons_zero, List.set_cons_succ]
  refine Seq.call rfl rfl rfl rfl (by kernel_rfl) (div_s (k := k) n d HH.out.1 HH.out.2.1 HH.out.2.2.1 (by omega)) ?_
  simp only [Act.put, List.setIfInBounds_toArray, List.set_cons_zero, List.set_cons_succ]
  refine Seq.pure rfl rfl (by intro w; go_simp; try with_reducible rfl) ?_
  simp only [Act.put, List.setIfInBounds_toArray, List.set_cons_zero, List.set_cons_succ]
  refine Seq.pure rfl rfl (by intro w; go_simp; try with_reducible rfl) ?_
  simp only [Act.put, List.setIfInBounds_toArray, List.set_cons_zero, List.set_cons_succ]
  refine Seq.pure rfl rfl (by intro w; go_simp; try with_reducible rfl) ?_
  simp only [Act.put, List.setIfInBounds_toArray, List.set_cons_zero, List.set_cons_succ]
  refine Seq.pure rfl rfl (by intro w; go_simp; try with_reducible rfl) ?_
  simp only [Act.put, List.setIfInBounds_toArray, List.set_cons_zero, List.set_cons_succ]
  refine Seq.pure rfl rfl (by intro w; go_simp; try with_reducible rfl) ?_
  simp only [Act.put, List.setIfInBounds_toArray, List.set_cons_zero, List.set_cons_succ]
  refine Seq.pure rfl rfl (by intro w; go_simp; try with_reducible rfl) ?_
  simp only [Act.put, List.setIfInBounds_toArray, List.set_cons_zero, List.set_cons_succ]
  refine Seq.pure rfl rfl (by intro w; go_simp; try with_reducible rfl) ?_
  simp only [Act.put, List.setIfInBounds_toArray, List.set_cons_zero, List.set_cons_succ]
  refine Seq.done fun ws2 hws => ?_
  have HS2 := hws.st
  clear HS1 hws
  go_upto_region 2 with (fail)
  refine wp_seq_text [] (StR.no HS2) ?_
  refine Seq.pure (v := .pointer (some ⟨b1, 0, none⟩)) rfl rfl (by intro w; go_simp; try with_reducible rfl) ?_
  simp only [Act.put, List.setIfInBounds_toArray, List.set_cons_zero, List.set_cons_succ]
  refine Seq.loadCell rfl rfl rfl rfl (by repeat (first | exact List.mem_cons_self | apply List.mem_cons_of_mem)) (v := .bool true) rfl (by kernel_rfl) rfl ?_
  simp only [Act.put, List.setIfInBounds_toArray, List.set_cons_zero, List.set_cons_succ]
  refine Seq.pure rfl rfl (by intro w; go_simp; try with_reducible rfl) ?_
  simp only [Act.put, List.setIfInBounds_toArray, List.set_cons_zero, List.set_cons_succ]
  refine Seq.pure rfl rfl (by intro w; go_simp; try with_reducible rfl) ?_
  simp only [Act.put, List.setIfInBounds_toArray, List.set_cons_zero, List.set_cons_succ]
  refine Seq.pure rfl rfl (by intro w; go_simp; try with_reducible rfl) ?_
  simp only [Act.put, List.setIfInBounds_toArray, List.set_cons_zero, List.set_cons_succ]
  refine Seq.pure rfl rfl (by intro w; go_simp; try with_reducible rfl) ?_
  simp only [Act.put, List.setIfInBounds_toArray, List.set_cons_zero, List.set_cons_succ]
  refine Seq.done fun ws3 hws => ?_
  have HS3 := hws.st
  clear HS2 hws
  go_upto_region 4 with (fail)
  have HP3 : St w [(b2, 24, #[.bool false, .string ⟨#[]⟩, .string ⟨#[]⟩]), (b1, 24, #[.bool true, .string (S n), .string (S d)])] _ := St.perm HS3 (by first | exact List.Perm.refl _ | exact List.Perm.swap _ _ _ | (simp [List.perm_cons, List.Perm.swap, List.perm_middle]))
  refine wp_seq_text [] (StR.move (StR.no HP3)) ?_
  refine Seq.pure (v := .pointer (some ⟨b1, 0, none⟩)) rfl rfl (by intro w; go_simp; try with_reducible rfl) ?_
  simp only [Act.put, List.setIfInBounds_toArray, List.set_cons_zero, List.set_cons_succ]
  refine Seq.loadCell rfl rfl rfl rfl (by repeat (first | exact List.mem_cons_self | apply List.mem_cons_of_mem)) (v := .bool true) rfl (by kernel_rfl) rfl ?_
  simp only [Act.put, List.setIfInBounds_toArray, List.set_cons_zero, List.set_cons_succ]
  refine Seq.pure rfl rfl (by intro w; go_simp; try with_reducible rfl) ?_
  simp only [Act.put, List.setIfInBounds_toArray, List.set_cons_zero, List.set_cons_succ]
  refine Seq.call rfl rfl rfl rfl (by kernel_rfl) (made_1 (k := k + 2) true (n / d) HH.out.2.2.2.1 ((HH.out.2.1.div d).more (by omega)) (by omega) (by omega) HH.out.2.2.2.2) ?_
  simp only [Act.put, List.setIfInBounds_toArray, List.set_cons_zero, List.set_cons_succ]
  refine Seq.store rfl rfl rfl rfl rfl (by first | exact Reg.put_same _ _ _ | exact (Reg.put_ne _ _ (by assumption)).trans (Reg.put_same _ _ _) | exact (Reg.put_ne _ _ (by assumption)).trans ((Reg.put_ne _ _ (by assumption)).trans (Reg.put_same _ _ _)) | exact (Reg.put_ne _ _ (by assumption)).trans ((Reg.put_ne _ _ (by assumption)).trans ((Reg.put_ne _ _ (by assumption)).trans (Reg.put_same _ _ _)))) (n := 3) rfl rfl (by kernel_rfl) (RC_one _) ?_
  simp only [Act.put, List.setIfInBounds_toArray, List.set_cons_zero, List.set_cons_succ]
  refine Seq.done fun ws4 hws => ?_
  have HS4 : St w [(b2, 24, RC q), (b1, 24, #[.bool true, .string (S n), .string (S d)])] ws4 := hws.list1 (by first | exact Reg.put_same _ _ _ | exact (Reg.put_ne _ _ (by assumption)).trans (Reg.put_same _ _ _) | exact (Reg.put_ne _ _ (by assumption)).trans ((Reg.put_ne _ _ (by assumption)).trans (Reg.put_same _ _ _)) | exact (Reg.put_ne _ _ (by assumption)).trans ((Reg.put_ne _ _ (by assumption)).trans ((Reg.put_ne _ _ (by assumption)).trans (Reg.put_same _ _ _))))
  clear HS3 hws HP3
  go_wp2_with fail
  exact ret_own rfl rfl rfl HS4 (by repeat (first | exact List.mem_cons_self | apply List.mem_cons_of_mem)) (n := 3) rfl (by kernel_rfl) ⟨rfl, HS4.below⟩
set_option maxRecDepth 20000 in
theorem whole_odd {k : Nat} (n d : Nat) {q : Rat} (w : World) (hd : d ≠ 0) (hr : n % d ≠ 0) (hn : Sz k n) (hdk : Sz k d) (hk : k ≤ 17592186044416) (hk1 : 1 ≤ k) (hT : Tab w) (hq : mkRat (sg true (n / d + 1)) 1 = q) :
    Calls Tryz.prog 44 #[.agg #[.bool true, .string (S n), .string (S d)]] w fun e w' => e = .returned (.agg (RC q)) ∧ Below w.heap.size w w' := by
  have HH := Lib.hid (And.intro hd (And.intro hn (And.intro hdk (And.intro hT hq)))); clear hd hn hdk hT hq
  have hr0 := S_nil hr
  have hr1 := S_empty_of hr
  clear hr
  go_enter Tryz.func44, Tryz.ntmps44
  have HS : St w [] w := St.start
  go_upto_region 0 with (fail)
  refine wp_seq_text [] (StR.no HS) ?_
  refine Seq.box rfl rfl rfl (v := .agg (#[.bool true, .string (S n), .string (S d)])) (cs := #[.bool true, .string (S n), .string (S d)]) rfl rfl ?_
  intro b1 _ _ hb1_r
  simp only [Act.put, List.setIfInBounds_toArray, List.set_cons_zero, List.set_cons_succ]
  refine Seq.alloc rfl rfl rfl (z := .agg #[.bool false, .string ⟨#[]⟩, .string ⟨#[]⟩]) (by kernel_rfl) rfl ?_
  intro b2 _ _ hb2_r
  obtain ⟨ne_b2_b1, hb2_r⟩ := Reg.ne_of_put hb2_r
  have ne_b1_b2 := Ne.symm ne_b2_b1
  simp only [Act.put, List.setIfInBounds_toArray, List.set_cons_zero, List.set_cons_succ]
  refine Seq.done fun ws1 hws => ?_
  have HS1 : St w [(b1, 24, #[.bool true, .string (S n), .string (S d)]), (b2, 24, #[.bool false, .string ⟨#[]⟩, .string ⟨#[]⟩])] ws1 := hws.list2 (by first | exact Reg.put_same _ _ _ | exact (Reg.put_ne _ _ (by assumption)).trans (Reg.put_same _ _ _) | exact (Reg.put_ne _ _ (by assumption)).trans ((Reg.put_ne _ _ (by assumption)).trans (Reg.put_same _ _ _)) | exact (Reg.put_ne _ _ (by assumption)).trans ((Reg.put_ne _ _ (by assumption)).trans ((Reg.put_ne _ _ (by assumption)).trans (Reg.put_same _ _ _)))) (by first | exact Reg.put_same _ _ _ | exact (Reg.put_ne _ _ (by assumption)).trans (Reg.put_same _ _ _) | exact (Reg.put_ne _ _ (by assumption)).trans ((Reg.put_ne _ _ (by assumption)).trans (Reg.put_same _ _ _)) | exact (Reg.put_ne _ _ (by assumption)).trans ((Reg.put_ne _ _ (by assumption)).trans ((Reg.put_ne _ _ (by assumption)).trans (Reg.put_same _ _ _)))) (by assumption)
  clear HS hws
  go_upto_region 1 with (fail)
  refine wp_seq_text [] (StR.no HS1) ?_
  refine Seq.pure (v := .pointer (some ⟨b1, 1, none⟩)) rfl rfl (by intro w; go_simp; try with_reducible rfl) ?_
  simp only [Act.put, List.setIfInBounds_toArray, List.set_cons_zero, List.set_cons_succ]
  refine Seq.loadCell rfl rfl rfl rfl (by repeat (first | exact List.mem_cons_self | apply List.mem_cons_of_mem)) (v := .string (S n)) rfl (by kernel_rfl) rfl ?_
  simp only [Act.put, List.setIfInBounds_toArray, List.set_cons_zero, List.set_cons_succ]
  refine Seq.pure (v := .pointer (some ⟨b1, 2, none⟩)) rfl rfl (by intro w; go_simp; try with_reducible rfl) ?_
  simp only [Act.put, List.setIfInBounds_toArray, List.set_cons_zero, List.set_cons_succ]
  refine Seq.loadCell rfl rfl rfl rfl (by repeat (first | exact List.mem_cons_self | apply List.mem_cons_of_mem)) (v := .string (S d)) rfl (by kernel_rfl) rfl ?_
  simp only [Act.put, List.setIfInBounds_toArray, List.set_cons_zero, List.set_cons_succ]
  refine Seq.call rfl rfl rfl rfl (by kernel_rfl) (div_s (k := k) n d HH.out.1 HH.out.2.1 HH.out.2.2.1 (by omega)) ?_
  simp only [Act.put, List.setIfInBounds_toArray, List.set_cons_zero, List.set_cons_succ]
  refine Seq.pure rfl rfl (by intro w; go_simp; try with_reducible rfl) ?_
  simp only [Act.put, List.setIfInBounds_toArray, List.set_cons_zero, List.set_cons_succ]
  refine Seq.pure rfl rfl (by intro w; go_simp; try with_reducible rfl) ?_
  simp only [Act.put, List.setIfInBounds_toArray, List.set_cons_zero, List.set_cons_succ]
  refine Seq.pure rfl rfl (by intro w; go_simp; try with_reducible rfl) ?_
  simp only [Act.put, List.setIfInBounds_toArray, List.set_cons_zero, List.set_cons_succ]
  refine Seq.pure rfl rfl (by intro w; go_simp; try with_reducible rfl) ?_
  simp only [Act.put, List.setIfInBounds_toArray, List.set_cons_zero, List.set_cons_succ]
  refine Seq.pure rfl rfl (by intro w; go_simp; try with_reducible rfl) ?_
  simp only [Act.put, List.setIfInBounds_toArray, List.set_cons_zero, List.set_cons_succ]
  refine Seq.pure rfl rfl (by intro w; go_simp; try with_reducible rfl) ?_
  simp only [Act.put, List.setIfInBounds_toArray, List.set_cons_zero, List.set_cons_succ]
  refine Seq.pure rfl rfl (by intro w; go_simp; try with_reducible rfl) ?_
  simp only [Act.put, List.setIfInBounds_toArray, List.set_cons_zero, List.set_cons_succ]
  refine Seq.done fun ws2 hws => ?_
  have HS2 := hws.st
  clear HS1 hws
  go_upto_region 2 with (fail)
  refine wp_seq_text [] (StR.no HS2) ?_
  refine Seq.pure (v := .pointer (some ⟨b1, 0, none⟩)) rfl rfl (by intro w; go_simp; try with_reducible rfl) ?_
  simp only [Act.put, List.setIfInBounds_toArray, List.set_cons_zero, List.set_cons_succ]
  refine Seq.loadCell rfl rfl rfl rfl (by repeat (first | exact List.mem_cons_self | apply List.mem_cons_of_mem)) (v := .bool true) rfl (by kernel_rfl) rfl ?_
  simp only [Act.put, List.setIfInBounds_toArray, List.set_cons_zero, List.set_cons_succ]
  refine Seq.pure rfl rfl (by intro w; go_simp; try with_reducible rfl) ?_
  simp only [Act.put, List.setIfInBounds_toArray, List.set_cons_zero, List.set_cons_succ]
  refine Seq.pure rfl rfl (by intro w; go_simp; try with_reducible rfl) ?_
  simp only [Act.put, List.setIfInBounds_toArray, List.set_cons_zero, List.set_cons_succ]
  refine Seq.pure rfl rfl (by intro w; go_simp; try with_reducible rfl) ?_
  simp only [Act.put, List.setIfInBounds_toArray, List.set_cons_zero, List.set_cons_succ]
  refine Seq.pure rfl rfl (by intro w; go_simp; try with_reducible rfl) ?_
  simp only [Act.put, List.setIfInBounds_toArray, List.set_cons_zero, List.set_cons_succ]
  refine Seq.done fun ws3 hws => ?_
  have HS3 := hws.st
  clear HS2 hws
  go_upto_region 3 with (fail)
  refine wp_seq_text [] (StR.no HS3) ?_
  refine Seq.pure rfl rfl (by intro w; go_simp; try with_reducible rfl) ?_
  simp only [Act.put, List.setIfInBounds_toArray, List.set_cons_zero, List.set_cons_succ]
  refine Seq.call rfl rfl rfl rfl (by kernel_rfl) (add_1 (k := k) (n / d) (HH.out.2.1.div d) (by omega)) ?_
  simp only [Act.put, List.setIfInBounds_toArray, List.set_cons_zero, List.set_cons_succ]
  refine Seq.pure rfl rfl (by intro w; go_simp; try with_reducible rfl) ?_
  simp only [Act.put, List.setIfInBounds_toArray, List.set_cons_zero, List.set_cons_succ]
  refine Seq.done fun ws4 hws => ?_
  have HS4 := hws.st
  clear HS3 hws
  go_upto_region 4 with (fail)
  have HP4 : St w [(b2, 24, #[.bool false, .string ⟨#[]⟩, .string ⟨#[]⟩]), (b1, 24, #[.bool true, .string (S n), .string (S d)])] _ := St.perm HS4 (by first | exact List.Perm.refl _ | exact List.Perm.swap _ _ _ | (simp [List.perm_cons, List.Perm.swap, List.perm_middle]))
  refine wp_seq_text [] (StR.move (StR.no HP4)) ?_
  refine Seq.pure (v := .pointer (some ⟨b1, 0, none⟩)) rfl rfl (by intro w; go_simp; try with_reducible rfl) ?_
  simp only [Act.put, List.setIfInBounds_toArray, List.set_cons_zero, List.set_cons_succ]
  refine Seq.loadCell rfl rfl rfl rfl (by repeat (first | exact List.mem_cons_self | apply List.mem_cons_of_mem)) (v := .bool true) rfl (by kernel_rfl) rfl ?_
  simp only [Act.put, List.setIfInBounds_toArray, List.set_cons_zero, List.set_cons_succ]
  refine Seq.pure rfl rfl (by intro w; go_simp; try with_reducible rfl) ?_
  simp only [Act.put, List.setIfInBounds_toArray, List.set_cons_zero, List.set_cons_succ]
  refine Seq.call rfl rfl rfl rfl (by kernel_rfl) (made_1 (k := k + 2) true (n / d + 1) HH.out.2.2.2.1 ((HH.out.2.1.div d).add Sz.one) (by omega) (by omega) HH.out.2.2.2.2) ?_
  simp only [Act.put, List.setIfInBounds_toArray, List.set_cons_zero, List.set_cons_succ]
  refine Seq.store rfl rfl rfl rfl rfl (by first | exact Reg.put_same _ _ _ | exact (Reg.put_ne _ _ (by assumption)).trans (Reg.put_same _ _ _) | exact (Reg.put_ne _ _ (by assumption)).trans ((Reg.put_ne _ _ (by assumption)).trans (Reg.put_same _ _ _)) | exact (Reg.put_ne _ _ (by assumption)).trans ((Reg.put_ne _ _ (by assumption)).trans ((Reg.put_ne _ _ (by assumption)).trans (Reg.put_same _ _ _)))) (n := 3) rfl rfl (by kernel_rfl) (RC_one _) ?_
  simp only [Act.put, List.setIfInBounds_toArray, List.set_cons_zero, List.set_cons_succ]
  refine Seq.done fun ws5 hws => ?_
  have HS5 : St w [(b2, 24, RC q), (b1, 24, #[.bool true, .string (S n), .string (S d)])] ws5 := hws.list1 (by first | exact Reg.put_same _ _ _ | exact (Reg.put_ne _ _ (by assumption)).trans (Reg.put_same _ _ _) | exact (Reg.put_ne _ _ (by assumption)).trans ((Reg.put_ne _ _ (by assumption)).trans (Reg.put_same _ _ _)) | exact (Reg.put_ne _ _ (by assumption)).trans ((Reg.put_ne _ _ (by assumption)).trans ((Reg.put_ne _ _ (by assumption)).trans (Reg.put_same _ _ _))))
  clear HS4 hws HP4
  go_wp2_with fail
  exact ret_own rfl rfl rfl HS5 (by repeat (first | exact List.mem_cons_self | apply List.mem_cons_of_mem)) (n := 3) rfl (by kernel_rfl) ⟨rfl, HS5.below⟩

theorem whole_q {k : Nat} {x : Rat} {z : Rat} {W : World} {l : List Own} (hT : Tab W) (hx : Rz k x) (hz : ((flQ x : Int) : Rat) = z) (hk : k ≤ 4398046511104) (w : World) (h : St W l w) :
    Calls Tryz.prog 44 #[.agg (RC x)] w fun e w' => e = .returned (.agg (RC z)) ∧ Below w.heap.size w w' := by
  have hd := x.den_nz
  have hv := whole_val (decide (x.num < 0)) x.num.natAbs x.den hd
  rw [sg_num] at hv
  have e : mkRat (sg (decide (x.num < 0)) (if decide (x.num < 0) = true ∧ x.num.natAbs % x.den ≠ 0 then x.num.natAbs / x.den + 1 else x.num.natAbs / x.den)) 1 = z := by
    rw [← hv, mkRat_one]; exact hz
  have hn := hx.1.more (show k ≤ k + 1 by omega)
  have hdk := hx.2.more (show k ≤ k + 1 by omega)
  unfold RC
  by_cases h1 : x.num < 0
  · rw [decide_eq_true h1] at e ⊢
    by_cases h2 : x.num.natAbs % x.den = 0
    · rw [if_neg (fun h => h.2 h2)] at e
      exact whole_even (k := k + 1) x.num.natAbs x.den w hd h2 hn hdk (by omega) (by omega) (tabS hT h) e
    · rw [if_pos ⟨rfl, h2⟩] at e
      exact whole_odd (k := k + 1) x.num.natAbs x.den w hd h2 hn hdk (by omega) (by omega) (tabS hT h) e
  · rw [decide_eq_false h1] at e ⊢
    rw [if_neg (fun h => by cases h.1)] at e
    exact whole_pos (k := k + 1) x.num.natAbs x.den w hd hn hdk (by omega) (by omega) (tabS hT h) e

theorem Rz.intQ {k : Nat} {z : Int} (h : Sz k z.natAbs) (hk : 1 ≤ k) : Rz k (z : Rat) := ⟨h, Sz.one.more hk⟩


theorem trim_s {W : World} {l : List Own} (n : Nat) (hs : (bstr n).length ≤ 35184372088832) (w : World) (h : St W l w) :
    Calls Tryz.prog 87 #[.string (S n)] w fun e w' => e = .returned (.string (S n)) ∧ Below w.heap.size w w' :=
  (trim_S n w (by unfold maxLen; omega)).mono fun e w' ⟨h1, h2⟩ => ⟨h1, h2 ▸ Below.refl _ _⟩
theorem short_s {W : World} {l : List Own} (n : Nat) (hs : (bstr n).length ≤ 8) (w : World) (h : St W l w) :
    Calls Tryz.prog 88 #[.string (S n)] w fun e w' => e = .returned (.int .u64 n) ∧ Below w.heap.size w w' :=
  (short_S n w hs).mono fun e w' ⟨h1, h2⟩ => ⟨h1, h2 ▸ Below.refl _ _⟩
set_option maxRecDepth 20000 in
theorem int_R (n : Nat) (w : World) (hn : n ≤ 9223372036854775807) :
    Calls Tryz.prog 46 #[.string (S n)] w fun e w' => e = .returned (.tuple #[.int .i64 n, .int .i64 0]) ∧ Below w.heap.size w w' := by
  have hl : (bstr n).length ≤ 8 := bstr_length_le.2 (by omega)
  have h8 : (S n).size ≤ 8 := by rw [S_size]; exact hl
  have h8i : decide ((8 : Int) < ((S n).size : Int)) = false := by rw [decide_eq_false]; omega
  have h8n : decide (8 < (S n).size) = false := by rw [decide_eq_false]; omega
  have hb : decide ((9223372036854775807 : Int) < (n : Int)) = false := by rw [decide_eq_false]; omega
  have hwr : IntKind.i64.wrap (n : Int) = n := IntWalk.i64_in _ (by omega)
  have HL := Lib.hid (And.intro hn hl); clear hn hl
  go_enter Tryz.func46, Tryz.ntmps46
  have HS : St w [] w := St.start
  go_upto_region 0 with (fail)
  refine wp_seq_text [] (StR.no HS) ?_
  refine Seq.pure rfl rfl (by intro w; go_simp; try with_reducible rfl) ?_
  simp only [Act.put, List.setIfInBounds_toArray, List.set_cons_zero, List.set_cons_succ]
  refine Seq.pure rfl rfl (by intro w; go_simp; try with_reducible rfl) ?_
  simp only [Act.put, List.setIfInBounds_toArray, List.set_cons_zero, List.set_cons_succ]
  refine Seq.done fun ws1 hws => ?_
  have HS1 := hws.st
  clear HS hws
  go_upto_region 1 with (fail)
  refine wp_seq_text [] (StR.no HS1) ?_
  refine Seq.pure rfl rfl (by intro w; go_simp; try with_reducible rfl) ?_
  simp only [Act.put, List.setIfInBounds_toArray, List.set_cons_zero, List.set_cons_succ]
  refine Seq.call rfl rfl rfl rfl (by kernel_rfl) (trim_s n (Nat.le_trans HL.out.2 (by omega))) ?_
  simp only [Act.put, List.setIfInBounds_toArray, List.set_cons_zero, List.set_cons_succ]
  refine Seq.pure rfl rfl (by intro w; go_simp; try with_reducible rfl) ?_
  simp only [Act.put, List.setIfInBounds_toArray, List.set_cons_zero, List.set_cons_succ]
  refine Seq.done fun ws2 hws => ?_
  have HS2 := hws.st
  clear HS1 hws
  go_upto_region 2 with (fail)
  refine wp_seq_text [] (StR.no HS2) ?_
  refine Seq.pure rfl rfl (by intro w; go_simp; try with_reducible rfl) ?_
  simp only [Act.put, List.setIfInBounds_toArray, List.set_cons_zero, List.set_cons_succ]
  refine Seq.pure rfl rfl (by intro w; go_simp; try with_reducible rfl) ?_
  simp only [Act.put, List.setIfInBounds_toArray, List.set_cons_zero, List.set_cons_succ]
  refine Seq.pure rfl rfl (by intro w; go_simp; try with_reducible rfl) ?_
  simp only [Act.put, List.setIfInBounds_toArray, List.set_cons_zero, List.set_cons_succ]
  refine Seq.pure rfl rfl (by intro w; go_simp; try with_reducible rfl) ?_
  simp only [Act.put, List.setIfInBounds_toArray, List.set_cons_zero, List.set_cons_succ]
  refine Seq.pure rfl rfl (by intro w; go_simp; try with_reducible rfl) ?_
  simp only [Act.put, List.setIfInBounds_toArray, List.set_cons_zero, List.set_cons_succ]
  refine Seq.call rfl rfl rfl rfl (by kernel_rfl) (short_s n HL.out.2) ?_
  simp only [Act.put, List.setIfInBounds_toArray, List.set_cons_zero, List.set_cons_succ]
  refine Seq.pure rfl rfl (by intro w; go_simp; try with_reducible rfl) ?_
  simp only [Act.put, List.setIfInBounds_toArray, List.set_cons_zero, List.set_cons_succ]
  refine Seq.pure rfl rfl (by intro w; go_simp; try with_reducible rfl) ?_
  simp only [Act.put, List.setIfInBounds_toArray, List.set_cons_zero, List.set_cons_succ]
  refine Seq.done fun ws3 hws => ?_
  have HS3 := hws.st
  clear HS2 hws
  go_upto_region 4 with (fail)
  refine wp_seq_text [] (StR.no HS3) ?_
  refine Seq.pure rfl rfl (by intro w; go_simp; try with_reducible rfl) ?_
  simp only [Act.put, List.setIfInBounds_toArray, List.set_cons_zero, List.set_cons_succ]
  refine Seq.call rfl rfl rfl rfl (by kernel_rfl) (short_s n HL.out.2) ?_
  simp only [Act.put, List.setIfInBounds_toArray, List.set_cons_zero, List.set_cons_succ]
  refine Seq.pure rfl rfl (by intro w; go_simp; try with_reducible rfl) ?_
  simp only [Act.put, List.setIfInBounds_toArray, List.set_cons_zero, List.set_cons_succ]
  refine Seq.pure rfl rfl (by intro w; go_simp; try with_reducible rfl) ?_
  simp only [Act.put, List.setIfInBounds_toArray, List.set_cons_zero, List.set_cons_succ]
  refine Seq.pure rfl rfl (by intro w; go_simp; try with_reducible rfl) ?_
  simp only [Act.put, List.setIfInBounds_toArray, List.set_cons_zero, List.set_cons_succ]
  refine Seq.done fun ws4 hws => ?_
  have HS4 := hws.st
  clear HS3 hws
  go_wp2_with fail
  go_ret2
  exact ⟨rfl, HS4.below⟩

theorem int_s {W : World} {l : List Own} (n : Nat) (hn : n ≤ 9223372036854775807) (w : World) (h : St W l w) :
    Calls Tryz.prog 46 #[.string (S n)] w fun e w' => e = .returned (.tuple #[.int .i64 n, .int .i64 0]) ∧ Below w.heap.size w w' := int_R n w hn
theorem fit_q {k : Nat} {x : Rat} {W : World} {l : List Own} (hT : Tab W) (hx : Rz k x) (hk : k ≤ 35184372088832) (w : World) (h : St W l w) :
    Calls Tryz.prog 45 #[.agg (RC x)] w fun e w' => e = .returned (.agg (RC x)) ∧ Below w.heap.size w w' := fit_R k x w hx hk (tabS hT h)
set_option maxRecDepth 20000 in
theorem floor_pos {k : Nat} {x : Rat} (w : World) (hT : Tab w) (hx : Rz k x) (hs : 0 ≤ flQ x) (hb : (flQ x).natAbs ≤ 9223372036854775807) (hk : k ≤ 4398046511104) :
    Calls Tryz.prog 14 #[.agg (RC x)] w fun e w' => e = .returned (.tuple #[.int .i64 (flQ x), .int .i64 0]) ∧ Below w.heap.size w w' := by
  have HX := Lib.hid (And.intro hx (And.intro hb hT)); clear hx hb hT
  have hd : decide (Rat.num ((flQ x : Int) : Rat) < 0) = false := decide_eq_false (show ¬ flQ x < 0 by omega)
  have HS0 := Lib.hid hs; clear hs
  have HN := Lib.hid (show (Rat.num ((flQ x : Int) : Rat)).natAbs ≤ 9223372036854775807 from HX.out.2.1)
  have hv : ((flQ x).natAbs : Int) = flQ x := by have := HS0.out; show ((flQ x).natAbs : Int) = _; omega
  go_enter Tryz.func14, Tryz.ntmps14
  have HS : St w [] w := St.start
  go_upto_region 0 with (fail)
  refine wp_seq_text [] (StR.no HS) ?_
  refine Seq.box rfl rfl rfl (v := .agg (RC x)) (cs := RC x) rfl rfl ?_
  intro b1 _ _ hb1_r
  simp only [Act.put, List.setIfInBounds_toArray, List.set_cons_zero, List.set_cons_succ]
  refine Seq.pure rfl rfl (by intro w; go_simp; try with_reducible rfl) ?_
  simp only [Act.put, List.setIfInBounds_toArray, List.set_cons_zero, List.set_cons_succ]
  refine Seq.pure rfl rfl (by intro w; go_simp; try with_reducible rfl) ?_
  simp only [Act.put, List.setIfInBounds_toArray, List.set_cons_zero, List.set_cons_succ]
  refine Seq.done fun ws1 hws => ?_
  have HS1 : St w [(b1, 24, RC x)] ws1 := hws.list1 (by first | exact Reg.put_same _ _ _ | exact (Reg.put_ne _ _ (by assumption)).trans (Reg.put_same _ _ _) | exact (Reg.put_ne _ _ (by assumption)).trans ((Reg.put_ne _ _ (by assumption)).trans (Reg.put_same _ _ _)) | exact (Reg.put_ne _ _ (by assumption)).trans ((Reg.put_ne _ _ (by assumption)).trans ((Reg.put_ne _ _ (by assumption)).trans (Reg.put_same _ _ _))))
  clear HS hws
  go_upto_region 1 with (fail)
  have HP1 : St w [(b1, 24, RC x)] _ := St.perm HS1 (by first | exact List.Perm.refl _ | exact List.Perm.swap _ _ _ | (simp [List.perm_cons, List.Perm.swap, List.perm_middle]))
  refine wp_seq_text [0] (StR.move (StR.no HP1)) ?_
  refine Seq.get rfl rfl rfl rfl (by first | exact Reg.put_same _ _ _ | exact (Reg.put_ne _ _ (by assumption)).trans (Reg.put_same _ _ _) | exact (Reg.put_ne _ _ (by assumption)).trans ((Reg.put_ne _ _ (by assumption)).trans (Reg.put_same _ _ _)) | exact (Reg.put_ne _ _ (by assumption)).trans ((Reg.put_ne _ _ (by assumption)).trans ((Reg.put_ne _ _ (by assumption)).trans (Reg.put_same _ _ _)))) (n := 3) rfl (by kernel_rfl) ?_
  simp only [Act.put, List.setIfInBounds_toArray, List.set_cons_zero, List.set_cons_succ]
  refine Seq.call rfl rfl rfl rfl (by kernel_rfl) (fit_q (k := k) HX.out.2.2 HX.out.1 (by omega)) ?_
  simp only [Act.put, List.setIfInBounds_toArray, List.set_cons_zero, List.set_cons_succ]
  refine Seq.call rfl rfl rfl rfl (by kernel_rfl) (whole_q (k := k) HX.out.2.2 HX.out.1 rfl (by omega)) ?_
  simp only [Act.put, List.setIfInBounds_toArray, List.set_cons_zero, List.set_cons_succ]
  refine Seq.store rfl rfl rfl rfl rfl (by first | exact Reg.put_same _ _ _ | exact (Reg.put_ne _ _ (by assumption)).trans (Reg.put_same _ _ _) | exact (Reg.put_ne _ _ (by assumption)).trans ((Reg.put_ne _ _ (by assumption)).trans (Reg.put_same _ _ _)) | exact (Reg.put_ne _ _ (by assumption)).trans ((Reg.put_ne _ _ (by assumption)).trans ((Reg.put_ne _ _ (by assumption)).trans (Reg.put_same _ _ _)))) (n := 3) rfl rfl (by kernel_rfl) (RC_one _) ?_
  simp only [Act.put, List.setIfInBounds_toArray, List.set_cons_zero, List.set_cons_succ]
  refine Seq.done fun ws2 hws => ?_
  have HS2 : St w [(b1, 24, RC ((flQ x : Int) : Rat))] ws2 := hws.list1 (by first | exact Reg.put_same _ _ _ | exact (Reg.put_ne _ _ (by assumption)).trans (Reg.put_same _ _ _) | exact (Reg.put_ne _ _ (by assumption)).trans ((Reg.put_ne _ _ (by assumption)).trans (Reg.put_same _ _ _)) | exact (Reg.put_ne _ _ (by assumption)).trans ((Reg.put_ne _ _ (by assumption)).trans ((Reg.put_ne _ _ (by assumption)).trans (Reg.put_same _ _ _))))
  clear HS1 hws HP1
  go_upto_region 2 with (fail)
  refine wp_seq_text [] (StR.no HS2) ?_
  refine Seq.pure (v := .pointer (some ⟨b1, 1, none⟩)) rfl rfl (by intro w; go_simp; try with_reducible rfl) ?_
  simp only [Act.put, List.setIfInBounds_toArray, List.set_cons_zero, List.set_cons_succ]
  refine Seq.loadCell rfl rfl rfl rfl (by repeat (first | exact List.mem_cons_self | apply List.mem_cons_of_mem)) (v := .string (S (Rat.num ((flQ x : Int) : Rat)).natAbs)) rfl (by kernel_rfl) rfl ?_
  simp only [Act.put, List.setIfInBounds_toArray, List.set_cons_zero, List.set_cons_succ]
  refine Seq.call rfl rfl rfl rfl (by kernel_rfl) (int_s _ HN.out) ?_
  simp only [Act.put, List.setIfInBounds_toArray, List.set_cons_zero, List.set_cons_succ]
  refine Seq.pure rfl rfl (by intro w; go_simp; try with_reducible rfl) ?_
  simp only [Act.put, List.setIfInBounds_toArray, List.set_cons_zero, List.set_cons_succ]
  refine Seq.pure rfl rfl (by intro w; go_simp; try with_reducible rfl) ?_
  simp only [Act.put, List.setIfInBounds_toArray, List.set_cons_zero, List.set_cons_succ]
  refine Seq.pure rfl rfl (by intro w; go_simp; try with_reducible rfl) ?_
  simp only [Act.put, List.setIfInBounds_toArray, List.set_cons_zero, List.set_cons_succ]
  refine Seq.pure rfl rfl (by intro w; go_simp; try with_reducible rfl) ?_
  simp only [Act.put, List.setIfInBounds_toArray, List.set_cons_zero, List.set_cons_succ]
  refine Seq.pure rfl rfl (by intro w; go_simp; try with_reducible rfl) ?_
  simp only [Act.put, List.setIfInBounds_toArray, List.set_cons_zero, List.set_cons_succ]
  refine Seq.done fun ws3 hws => ?_
  have HS3 := hws.st
  clear HS2 hws
  go_upto_region 3 with (fail)
  refine wp_seq_text [] (StR.no HS3) ?_
  refine Seq.pure (v := .pointer (some ⟨b1, 0, none⟩)) rfl rfl (by intro w; go_simp; try with_reducible rfl) ?_
  simp only [Act.put, List.setIfInBounds_toArray, List.set_cons_zero, List.set_cons_succ]
  refine Seq.loadCell rfl rfl rfl rfl (by repeat (first | exact List.mem_cons_self | apply List.mem_cons_of_mem)) (v := .bool false) (by rw [← hd]; rfl) (by kernel_rfl) rfl ?_
  simp only [Act.put, List.setIfInBounds_toArray, List.set_cons_zero, List.set_cons_succ]
  refine Seq.done fun ws4 hws => ?_
  have HS4 := hws.st
  clear HS3 hws
  go_upto_region 5 with (fail)
  refine wp_seq_text [] (StR.no HS4) ?_
  refine Seq.pure rfl rfl (by intro w; go_simp; try with_reducible rfl) ?_
  simp only [Act.put, List.setIfInBounds_toArray, List.set_cons_zero, List.set_cons_succ]
  refine Seq.pure rfl rfl (by intro w; go_simp; try with_reducible rfl) ?_
  simp only [Act.put, List.setIfInBounds_toArray, List.set_cons_zero, List.set_cons_succ]
  refine Seq.pure rfl rfl (by intro w; go_simp; try with_reducible rfl) ?_
  simp only [Act.put, List.setIfInBounds_toArray, List.set_cons_zero, List.set_cons_succ]
  refine Seq.pure rfl rfl (by intro w; go_simp; try with_reducible rfl) ?_
  simp only [Act.put, List.setIfInBounds_toArray, List.set_cons_zero, List.set_cons_succ]
  refine Seq.done fun ws5 hws => ?_
  have HS5 := hws.st
  clear HS4 hws
  go_wp2_with fail
  go_ret2
  exact ⟨by first | rfl | rw [hv], HS5.below⟩
set_option maxRecDepth 20000 in
theorem floor_neg {k : Nat} {x : Rat} (w : World) (hT : Tab w) (hx : Rz k x) (hs : flQ x < 0) (hb : (flQ x).natAbs ≤ 9223372036854775807) (hk : k ≤ 4398046511104) :
    Calls Tryz.prog 14 #[.agg (RC x)] w fun e w' => e = .returned (.tuple #[.int .i64 (flQ x), .int .i64 0]) ∧ Below w.heap.size w w' := by
  have HX := Lib.hid (And.intro hx (And.intro hb hT)); clear hx hb hT
  have hd : decide (Rat.num ((flQ x : Int) : Rat) < 0) = true := decide_eq_true (show flQ x < 0 from hs)
  have HS0 := Lib.hid hs; clear hs
  have HN := Lib.hid (show (Rat.num ((flQ x : Int) : Rat)).natAbs ≤ 9223372036854775807 from HX.out.2.1)
  have hv : IntKind.i64.wrap (-((flQ x).natAbs : Int)) = flQ x := by have := HS0.out; show IntKind.i64.wrap (-((flQ x).natAbs : Int)) = _; rw [IntWalk.i64_in _ (by have := HX.out.2.1; omega)]; omega
  go_enter Tryz.func14, Tryz.ntmps14
  have HS : St w [] w := St.start
  go_upto_region 0 with (fail)
  refine wp_seq_text [] (StR.no HS) ?_
  refine Seq.box rfl rfl rfl (v := .agg (RC x)) (cs := RC x) rfl rfl ?_
  intro b1 _ _ hb1_r
  simp only [Act.put, List.setIfInBounds_toArray, List.set_cons_zero, List.set_cons_succ]
  refine Seq.pure rfl rfl (by intro w; go_simp; try with_reducible rfl) ?_
  simp only [Act.put, List.setIfInBounds_toArray, List.set_cons_zero, List.set_cons_succ]
  refine Seq.pure rfl rfl (by intro w; go_simp; try with_reducible rfl) ?_
  simp only [Act.put, List.setIfInBounds_toArray, List.set_cons_zero, List.set_cons_succ]
  refine Seq.done fun ws1 hws => ?_
  have HS1 : St w [(b1, 24, RC x)] ws1 := hws.list1 (by first | exact Reg.put_same _ _ _ | exact (Reg.put_ne _ _ (by assumption)).trans (Reg.put_same _ _ _) | exact (Reg.put_ne _ _ (by assumption)).trans ((Reg.put_ne _ _ (by assumption)).trans (Reg.put_same _ _ _)) | exact (Reg.put_ne _ _ (by assumption)).trans ((Reg.put_ne _ _ (by assumption)).trans ((Reg.put_ne _ _ (by assumption)).trans (Reg.put_same _ _ _))))
  clear HS hws
  go_upto_region 1 with (fail)
  have HP1 : St w [(b1, 24, RC x)] _ := St.perm HS1 (by first | exact List.Perm.refl _ | exact List.Perm.swap _ _ _ | (simp [List.perm_cons, List.Perm.swap, List.perm_middle]))
  refine wp_seq_text [0] (StR.move (StR.no HP1)) ?_
  refine Seq.get rfl rfl rfl rfl (by first | exact Reg.put_same _ _ _ | exact (Reg.put_ne _ _ (by assumption)).trans (Reg.put_same _ _ _) | exact (Reg.put_ne _ _ (by assumption)).trans ((Reg.put_ne _ _ (by assumption)).trans (Reg.put_same _ _ _)) | exact (Reg.put_ne _ _ (by assumption)).trans ((Reg.put_ne _ _ (by assumption)).trans ((Reg.put_ne _ _ (by assumption)).trans (Reg.put_same _ _ _)))) (n := 3) rfl (by kernel_rfl) ?_
  simp only [Act.put, List.setIfInBounds_toArray, List.set_cons_zero, List.set_cons_succ]
  refine Seq.call rfl rfl rfl rfl (by kernel_rfl) (fit_q (k := k) HX.out.2.2 HX.out.1 (by omega)) ?_
  simp only [Act.put, List.setIfInBounds_toArray, List.set_cons_zero, List.set_cons_succ]
  refine Seq.call rfl rfl rfl rfl (by kernel_rfl) (whole_q (k := k) HX.out.2.2 HX.out.1 rfl (by omega)) ?_
  simp only [Act.put, List.setIfInBounds_toArray, List.set_cons_zero, List.set_cons_succ]
  refine Seq.store rfl rfl rfl rfl rfl (by first | exact Reg.put_same _ _ _ | exact (Reg.put_ne _ _ (by assumption)).trans (Reg.put_same _ _ _) | exact (Reg.put_ne _ _ (by assumption)).trans ((Reg.put_ne _ _ (by assumption)).trans (Reg.put_same _ _ _)) | exact (Reg.put_ne _ _ (by assumption)).trans ((Reg.put_ne _ _ (by assumption)).trans ((Reg.put_ne _ _ (by assumption)).trans (Reg.put_same _ _ _)))) (n := 3) rfl rfl (by kernel_rfl) (RC_one _) ?_
  simp only [Act.put, List.setIfInBounds_toArray, List.set_cons_zero, List.set_cons_succ]
  refine Seq.done fun ws2 hws => ?_
  have HS2 : St w [(b1, 24, RC ((flQ x : Int) : Rat))] ws2 := hws.list1 (by first | exact Reg.put_same _ _ _ | exact (Reg.put_ne _ _ (by assumption)).trans (Reg.put_same _ _ _) | exact (Reg.put_ne _ _ (by assumption)).trans ((Reg.put_ne _ _ (by assumption)).trans (Reg.put_same _ _ _)) | exact (Reg.put_ne _ _ (by assumption)).trans ((Reg.put_ne _ _ (by assumption)).trans ((Reg.put_ne _ _ (by assumption)).trans (Reg.put_same _ _ _))))
  clear HS1 hws HP1
  go_upto_region 2 with (fail)
  refine wp_seq_text [] (StR.no HS2) ?_
  refine Seq.pure (v := .pointer (some ⟨b1, 1, none⟩)) rfl rfl (by intro w; go_simp; try with_reducible rfl) ?_
  simp only [Act.put, List.setIfInBounds_toArray, List.set_cons_zero, List.set_cons_succ]
  refine Seq.loadCell rfl rfl rfl rfl (by repeat (first | exact List.mem_cons_self | apply List.mem_cons_of_mem)) (v := .string (S (Rat.num ((flQ x : Int) : Rat)).natAbs)) rfl (by kernel_rfl) rfl ?_
  simp only [Act.put, List.setIfInBounds_toArray, List.set_cons_zero, List.set_cons_succ]
  refine Seq.call rfl rfl rfl rfl (by kernel_rfl) (int_s _ HN.out) ?_
  simp only [Act.put, List.setIfInBounds_toArray, List.set_cons_zero, List.set_cons_succ]
  refine Seq.pure rfl rfl (by intro w; go_simp; try with_reducible rfl) ?_
  simp only [Act.put, List.setIfInBounds_toArray, List.set_cons_zero, List.set_cons_succ]
  refine Seq.pure rfl rfl (by intro w; go_simp; try with_reducible rfl) ?_
  simp only [Act.put, List.setIfInBounds_toArray, List.set_cons_zero, List.set_cons_succ]
  refine Seq.pure rfl rfl (by intro w; go_simp; try with_reducible rfl) ?_
  simp only [Act.put, List.setIfInBounds_toArray, List.set_cons_zero, List.set_cons_succ]
  refine Seq.pure rfl rfl (by intro w; go_simp; try with_reducible rfl) ?_
  simp only [Act.put, List.setIfInBounds_toArray, List.set_cons_zero, List.set_cons_succ]
  refine Seq.pure rfl rfl (by intro w; go_simp; try with_reducible rfl) ?_
  simp only [Act.put, List.setIfInBounds_toArray, List.set_cons_zero, List.set_cons_succ]
  refine Seq.done fun ws3 hws => ?_
  have HS3 := hws.st
  clear HS2 hws
  go_upto_region 3 with (fail)
  refine wp_seq_text [] (StR.no HS3) ?_
  refine Seq.pure (v := .pointer (some ⟨b1, 0, none⟩)) rfl rfl (by intro w; go_simp; try with_reducible rfl) ?_
  simp only [Act.put, List.setIfInBounds_toArray, List.set_cons_zero, List.set_cons_succ]
  refine Seq.loadCell rfl rfl rfl rfl (by repeat (first | exact List.mem_cons_self | apply List.mem_cons_of_mem)) (v := .bool true) (by rw [← hd]; rfl) (by kernel_rfl) rfl ?_
  simp only [Act.put, List.setIfInBounds_toArray, List.set_cons_zero, List.set_cons_succ]
  refine Seq.done fun ws4 hws => ?_
  have HS4 := hws.st
  clear HS3 hws
  go_upto_region 4 with (fail)
  refine wp_seq_text [] (StR.no HS4) ?_
  refine Seq.pure rfl rfl (by intro w; go_simp; try with_reducible rfl) ?_
  simp only [Act.put, List.setIfInBounds_toArray, List.set_cons_zero, List.set_cons_succ]
  refine Seq.pure rfl rfl (by intro w; go_simp; try with_reducible rfl) ?_
  simp only [Act.put, List.setIfInBounds_toArray, List.set_cons_zero, List.set_cons_succ]
  refine Seq.pure rfl rfl (by intro w; go_simp; try with_reducible rfl) ?_
  simp only [Act.put, List.setIfInBounds_toArray, List.set_cons_zero, List.set_cons_succ]
  refine Seq.done fun ws5 hws => ?_
  have HS5 := hws.st
  clear HS4 hws
  go_upto_region 5 with (fail)
  refine wp_seq_text [] (StR.no HS5) ?_
  refine Seq.pure rfl rfl (by intro w; go_simp; try with_reducible rfl) ?_
  simp only [Act.put, List.setIfInBounds_toArray, List.set_cons_zero, List.set_cons_succ]
  refine Seq.pure rfl rfl (by intro w; go_simp; try with_reducible rfl) ?_
  simp only [Act.put, List.setIfInBounds_toArray, List.set_cons_zero, List.set_cons_succ]
  refine Seq.pure rfl rfl (by intro w; go_simp; try with_reducible rfl) ?_
  simp only [Act.put, List.setIfInBounds_toArray, List.set_cons_zero, List.set_cons_succ]
  refine Seq.pure rfl rfl (by intro w; go_simp; try with_reducible rfl) ?_
  simp only [Act.put, List.setIfInBounds_toArray, List.set_cons_zero, List.set_cons_succ]
  refine Seq.done fun ws6 hws => ?_
  have HS6 := hws.st
  clear HS5 hws
  go_wp2_with fail
  go_ret2
  exact ⟨by first | rfl | rw [hv], HS6.below⟩

theorem floor_q {k : Nat} {x : Rat} {z : Int} {W : World} {l : List Own} (hT : Tab W) (hx : Rz k x) (hz : flQ x = z) (hb : z.natAbs ≤ 9223372036854775807) (hk : k ≤ 4398046511104) (w : World) (h : St W l w) :
    Calls Tryz.prog 14 #[.agg (RC x)] w fun e w' => e = .returned (.tuple #[.int .i64 z, .int .i64 0]) ∧ Below w.heap.size w w' := by
  subst hz
  by_cases h0 : flQ x < 0
  · exact floor_neg w (tabS hT h) hx h0 hb hk
  · exact floor_pos w (tabS hT h) hx (by omega) hb hk
end Go.Proofs.YtoejojfjiikogaaGreatDoor
