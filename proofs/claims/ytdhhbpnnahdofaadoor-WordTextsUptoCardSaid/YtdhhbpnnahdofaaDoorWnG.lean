/- Walk: one (package word): the word at a place. -/
import Derived.Test.YtdhhbpnnahdofaaDoorWnF

namespace Go.Proofs.YtdhhbpnnahdofaaDoor
open Go.RowKit
set_option linter.unusedVariables false
set_option linter.unusedSimpArgs false

def kindC (n : Nat) : Nat := if isL n then 1 else if isD n then 2 else if isS n then 3 else 0
def slashB (l : List UInt8) (e : Nat) : Bool := decide (l[e]? = some 47) && (l[e + 1]?.elim false fun x => isD x.toNat)
def numE (l : List UInt8) (p : Nat) : Nat := if slashB l (p + runN isD (l.drop p)) then p + runN isD (l.drop p) + 1 + runN isD (l.drop (p + runN isD (l.drop p) + 1)) else p + runN isD (l.drop p)
def endOf (l : List UInt8) (p n : Nat) : Nat := if isL n then p + runN isL (l.drop p) else if isD n then numE l p else p + 1
def badW (k : Nat) (t : List UInt8) : Bool := (k == 1 && !nameB t) || (k == 2 && !numB t)
def zeroW : Wrd := ⟨0, 0, ByteArray.empty⟩
/-- the word at a place, and the error -/
def oneR (s : ByteArray) (p n : Nat) : Wrd × Nat :=
  if kindC n = 0 then (zeroW, 15) else if badW (kindC n) (bl (s.extract p (endOf (bl s) p n))) then (zeroW, 2) else (⟨kindC n, p, s.extract p (endOf (bl s) p n)⟩, 0)
theorem runN_le (P : Nat → Bool) (l : List UInt8) : runN P l ≤ l.length := by unfold runN; exact (List.takeWhile_sublist _).length_le
theorem numE_le {l : List UInt8} {p : Nat} (hp : p ≤ l.length) : numE l p ≤ l.length := by
  have h1 := runN_le isD (l.drop p)
  rw [List.length_drop] at h1
  unfold numE
  split
  · rename_i h
    unfold slashB at h
    rw [Bool.and_eq_true] at h
    have h2 := (List.getElem?_eq_some_iff.1 (of_decide_eq_true h.1)).1
    have h3 := runN_le isD (l.drop (p + runN isD (l.drop p) + 1))
    rw [List.length_drop] at h3
    omega
  · omega
theorem endOf_le {l : List UInt8} {p n : Nat} (hp : p < l.length) : endOf l p n ≤ l.length := by
  have h1 := runN_le isL (l.drop p)
  rw [List.length_drop] at h1
  have h2 := numE_le (l := l) (p := p) (by omega)
  unfold endOf
  split
  · omega
  · split <;> omega
theorem oneR_bad {s : ByteArray} {p n : Nat} (hk : kindC n = 0) : oneR s p n = (zeroW, 15) := by unfold oneR; rw [if_pos hk]
theorem oneR_no {s : ByteArray} {p n k E : Nat} (hk : kindC n = k) (h0 : k ≠ 0) (hE : endOf (bl s) p n = E) (hb : badW k (bl (s.extract p E)) = true) : oneR s p n = (zeroW, 2) := by
  unfold oneR; rw [hk, hE, if_neg h0, if_pos hb]
theorem oneR_ok {s : ByteArray} {p n k E : Nat} (hk : kindC n = k) (h0 : k ≠ 0) (hE : endOf (bl s) p n = E) (hb : badW k (bl (s.extract p E)) = false) : oneR s p n = (⟨k, p, s.extract p E⟩, 0) := by
  unfold oneR; rw [hk, hE, if_neg h0, if_neg (by rw [hb]; decide)]
theorem ret_one {R : Wrd × Nat} {k p : Nat} {t : ByteArray} {er : Nat} (h : R = (⟨k, p, t⟩, er)) : Ending.returned (.tuple #[.agg #[.int .i64 (k : Int), .int .i64 (p : Int), .string t], .int .i64 (er : Int)]) = .returned (.tuple #[valE R.1, .int .i64 R.2]) := by rw [h]; rfl
/-- two blocks of the call's own -/
theorem below_two {w : World} (o1 o2 : Obj) : Below w.heap.size w ((w.alloc o1).alloc o2) := ((Below.refl _ _).alloc (Nat.le_refl _) o1).alloc (by simp) o2
theorem below_two' {w w' : World} (o1 o2 : Obj) (h : Below ((w.alloc o1).alloc o2).heap.size ((w.alloc o1).alloc o2) w') : Below w.heap.size w w' := (below_two o1 o2).trans (h.mono (by simp; omega))
set_option maxHeartbeats 4000000 in
theorem one_name (s : ByteArray) (p n : Nat) (w : World) (hs : s.size ≤ 4096) (hp : p < s.size) (hn : (s[p]'hp).toNat = n) (hL : isL n = true) :
    Calls Tryd.prog 130 #[.string s, .int .i64 p] w fun e w' => e = .returned (.tuple #[valE (oneR s p n).1, .int .i64 (oneR s p n).2]) ∧ Below w.heap.size w w' := by
  have HL := Lib.hid hL
  have hE : endOf (bl s) p n = p + runN isL ((bl s).drop p) := by unfold endOf; rw [hL]; rfl
  have hle := endOf_le (l := bl s) (p := p) (n := n) (by rw [bl_len]; exact hp)
  rw [bl_len] at hle
  have hk : kindC n = 1 := by unfold kindC; rw [hL]; rfl
  have HRUN := Lib.hid (fun w => run_letter s p w (by omega) (by omega))
  rw [← hE] at HRUN
  have hpE : p ≤ endOf (bl s) p n := by rw [hE]; omega
  clear hE
  obtain ⟨E, hE⟩ : ∃ E, endOf (bl s) p n = E := ⟨_, rfl⟩
  rw [hE] at HRUN hle hpE
  have HE := Lib.hid hE
  have HK := Lib.hid hk
  clear hE hk hL
  cases hb : nameB (bl (s.extract p E))
  all_goals
    have HB := Lib.hid hb
    clear hb
    go_enter Tryd.func130, Tryd.ntmps130
    go_wp2_with (first | (go_at_call 126; refine (letter_any _ _).mono ?_; rintro e w' ⟨rfl, hw⟩; rw [hw, HL.out]) | (go_at_call 178; refine (HRUN.out _).mono ?_; rintro e w' ⟨rfl, hw⟩; rw [hw]) | (go_at_call 66; refine (isName_any _ _).mono ?_; rintro e w' ⟨rfl, hw⟩; rw [hw, HB.out]))
    (try simp only [Exit.inBlock, Exit.then])
  · refine bodyPost_ret (v := .tuple #[.agg #[.int .i64 0, .int .i64 0, .string ⟨#[]⟩], .int .i64 2]) ?_ rfl ⟨ret_one (k := 0) (p := 0) (er := 2) (oneR_no HK.out (by decide) HE.out (by unfold badW; rw [HB.out]; rfl)), below_two _ _⟩
    rw [results_cell_tmp rfl]
    go_simp
  · refine bodyPost_ret (v := .tuple #[.agg #[.int .i64 1, .int .i64 p, .string (s.extract p E)], .int .i64 0]) ?_ rfl ⟨ret_one (k := 1) (er := 0) (oneR_ok HK.out (by decide) HE.out (by unfold badW; rw [HB.out]; rfl)), below_two _ _⟩
    rw [results_cell_tmp rfl]
    go_simp
set_option maxHeartbeats 4000000 in
theorem one_sign (s : ByteArray) (p n : Nat) (w : World) (hs : s.size ≤ 4096) (hp : p < s.size) (hn : (s[p]'hp).toNat = n) (hL : isL n = false) (hD : isD n = false) :
    Calls Tryd.prog 130 #[.string s, .int .i64 p] w fun e w' => e = .returned (.tuple #[valE (oneR s p n).1, .int .i64 (oneR s p n).2]) ∧ Below w.heap.size w w' := by
  have HL := Lib.hid hL
  have HD := Lib.hid hD
  have hE : endOf (bl s) p n = p + 1 := by unfold endOf; rw [hL, hD]; rfl
  have HE := Lib.hid hE
  have hk : kindC n = if isS n then 3 else 0 := by unfold kindC; rw [hL, hD]; rfl
  have HK := Lib.hid hk
  clear hE hk hL hD
  cases hb : isS n
  all_goals
    have HB := Lib.hid hb
    clear hb
    go_enter Tryd.func130, Tryd.ntmps130
    go_wp2_with (first | (go_at_call 126; refine (letter_any _ _).mono ?_; rintro e w' ⟨rfl, hw⟩; rw [hw, HL.out]) | (go_at_call 176; refine (digit_any _ _).mono ?_; rintro e w' ⟨rfl, hw⟩; rw [hw, HD.out]) | (go_at_call 68; refine (sign_any _ _).mono ?_; rintro e w' ⟨rfl, hw⟩; rw [hw, HB.out]))
    (try simp only [Exit.inBlock, Exit.then])
  · refine bodyPost_ret (v := .tuple #[.agg #[.int .i64 0, .int .i64 0, .string ⟨#[]⟩], .int .i64 15]) ?_ rfl ⟨ret_one (k := 0) (p := 0) (er := 15) (oneR_bad (by rw [HK.out, HB.out]; rfl)), below_two _ _⟩
    rw [results_cell_tmp rfl]
    go_simp
  · refine bodyPost_ret (v := .tuple #[.agg #[.int .i64 3, .int .i64 p, .string (s.extract p (p + 1))], .int .i64 0]) ?_ rfl ⟨ret_one (k := 3) (er := 0) (oneR_ok (by rw [HK.out, HB.out]; rfl) (by decide) HE.out rfl), below_two _ _⟩
    rw [results_cell_tmp rfl]
    go_simp
theorem below_two_d {w : World} (o1 o2 : Obj) (n : Nat) : Below w.heap.size w (((w.alloc o1).alloc o2).drewN n) := below_drewN (below_two o1 o2) n
theorem below_put3 {w w' : World} (h : Below w.heap.size w w') (x y z : Value) : Below w.heap.size w (((w'.setCell ⟨w.heap.size, 0, none⟩ x).setCell ⟨w.heap.size, 1, none⟩ y).setCell ⟨w.heap.size, 2, none⟩ z) :=
  ((h.setCell (p := ⟨w.heap.size, 0, none⟩) (Nat.le_refl _) x).setCell (p := ⟨w.heap.size, 1, none⟩) (Nat.le_refl _) y).setCell (p := ⟨w.heap.size, 2, none⟩) (Nat.le_refl _) z
theorem slash_no {l : List UInt8} {e : Nat} (h : slashB l e = false) {p : Nat} (he : p + runN isD (l.drop p) = e) : numE l p = e := by unfold numE; rw [he, h]; rfl
theorem slash_yes {l : List UInt8} {e : Nat} (h : slashB l e = true) {p : Nat} (he : p + runN isD (l.drop p) = e) : numE l p = e + 1 + runN isD (l.drop (e + 1)) := by unfold numE; rw [he, h]; rfl
set_option maxHeartbeats 4000000 in
theorem one_num_short (s : ByteArray) (p n e1 : Nat) (w : World) (hs : s.size ≤ 4096) (hp : p < s.size) (hn : (s[p]'hp).toNat = n) (hL : isL n = false) (hD : isD n = true) (hM : MaxL w) (he : p + runN isD ((bl s).drop p) = e1) (hw : ¬ e1 + 1 < s.size) :
    Calls Tryd.prog 130 #[.string s, .int .i64 p] w fun e w' => e = .returned (.tuple #[valE (oneR s p n).1, .int .i64 (oneR s p n).2]) ∧ Below w.heap.size w w' := by
  have HL := Lib.hid hL
  have HD := Lib.hid hD
  have hsl : slashB (bl s) e1 = false := by
    unfold slashB
    rw [show (bl s)[e1 + 1]? = none from List.getElem?_eq_none (by rw [bl_len]; omega), Option.elim_none, Bool.and_false]
  have hE : endOf (bl s) p n = e1 := by unfold endOf; rw [hL, hD, slash_no hsl he]; rfl
  have hk : kindC n = 2 := by unfold kindC; rw [hL, hD]; rfl
  have hr1 := runN_le isD ((bl s).drop p)
  rw [List.length_drop, bl_len] at hr1
  have HRUN := Lib.hid (fun w => run_digit s p w (by omega) (by omega))
  rw [he] at HRUN
  obtain ⟨E, hEE⟩ : ∃ E, e1 = E := ⟨_, rfl⟩
  have hpE : p ≤ E := by omega
  have hEs : E ≤ s.size := by omega
  subst hEE
  have hp1 : p ≤ e1 := by omega
  have HE := Lib.hid hE
  have HK := Lib.hid hk
  have HM := Lib.hid (fun t o1 o2 (ht : t.size ≤ 4096) => isNumber_drew t ((w.alloc o1).alloc o2) (by omega) (hM.below (below_two o1 o2)))
  have htx : (s.extract p e1).size ≤ 4096 := by rw [ByteArray.size_extract]; omega
  have HTX := Lib.hid htx
  clear hE hk hL hD hM hsl he hr1 htx 
  cases hb : numB (bl (s.extract p e1))
  all_goals
    have HB := Lib.hid hb
    clear hb
    go_enter Tryd.func130, Tryd.ntmps130
    go_wp2_with (first | (go_at_call 126; refine (letter_any _ _).mono ?_; rintro e w' ⟨rfl, hw⟩; rw [hw, HL.out]) | (go_at_call 176; refine (digit_any _ _).mono ?_; rintro e w' ⟨rfl, hw⟩; first | rw [hw, HD.out]) | (go_at_call 178; first | with_reducible refine (HRUN.out _).mono ?_; rintro e w' ⟨rfl, hw⟩; rw [hw]) | (go_at_call 67; refine (HM.out _ _ _ HTX.out).mono ?_; rintro e w' ⟨rfl, q, rfl⟩; rw [HB.out]))
    (try simp only [Exit.inBlock, Exit.then])
  · refine bodyPost_ret (v := .tuple #[.agg #[.int .i64 0, .int .i64 0, .string ⟨#[]⟩], .int .i64 2]) ?_ rfl ⟨ret_one (k := 0) (p := 0) (er := 2) (oneR_no HK.out (by decide) HE.out (by unfold badW; rw [HB.out]; rfl)), ?_⟩
    · rw [results_cell_tmp rfl]
      go_simp
    · exact below_put3 (below_two_d _ _ _) _ _ _
  · refine bodyPost_ret (v := .tuple #[.agg #[.int .i64 2, .int .i64 p, .string (s.extract p e1)], .int .i64 0]) ?_ rfl ⟨ret_one (k := 2) (er := 0) (oneR_ok HK.out (by decide) HE.out (by unfold badW; rw [HB.out]; rfl)), ?_⟩
    · rw [results_cell_tmp rfl]
      go_simp
    · exact below_put3 (below_two_d _ _ _) _ _ _
set_option maxHeartbeats 4000000 in
theorem one_num_other (s : ByteArray) (p n e1 : Nat) (w : World) (hs : s.size ≤ 4096) (hp : p < s.size) (hn : (s[p]'hp).toNat = n) (hL : isL n = false) (hD : isD n = true) (hM : MaxL w) (he : p + runN isD ((bl s).drop p) = e1) (h1 : e1 + 1 < s.size) (hw : (s[e1]'(by omega)) ≠ 47) :
    Calls Tryd.prog 130 #[.string s, .int .i64 p] w fun e w' => e = .returned (.tuple #[valE (oneR s p n).1, .int .i64 (oneR s p n).2]) ∧ Below w.heap.size w w' := by
  have HL := Lib.hid hL
  have HD := Lib.hid hD
  have hsl : slashB (bl s) e1 = false := by
    unfold slashB
    rw [bl_at s (show e1 < s.size by omega), decide_eq_false (by intro e; injection e with e; exact hw e), Bool.false_and]
  have hE : endOf (bl s) p n = e1 := by unfold endOf; rw [hL, hD, slash_no hsl he]; rfl
  have hk : kindC n = 2 := by unfold kindC; rw [hL, hD]; rfl
  have hr1 := runN_le isD ((bl s).drop p)
  rw [List.length_drop, bl_len] at hr1
  have HRUN := Lib.hid (fun w => run_digit s p w (by omega) (by omega))
  rw [he] at HRUN
  obtain ⟨E, hEE⟩ : ∃ E, e1 = E := ⟨_, rfl⟩
  have hpE : p ≤ E := by omega
  have hEs : E ≤ s.size := by omega
  subst hEE
  have e47 : (((s[e1]'(Nat.lt_of_succ_lt h1)).toNat : Int) == 47) = false := by rw [beq_eq_false_iff_ne]; intro e; apply hw; apply UInt8.toNat_inj.1; show _ = 47; omega
  have hp1 : p ≤ e1 := by omega
  have HE := Lib.hid hE
  have HK := Lib.hid hk
  have HM := Lib.hid (fun t o1 o2 (ht : t.size ≤ 4096) => isNumber_drew t ((w.alloc o1).alloc o2) (by omega) (hM.below (below_two o1 o2)))
  have htx : (s.extract p e1).size ≤ 4096 := by rw [ByteArray.size_extract]; omega
  have HTX := Lib.hid htx
  clear hE hk hL hD hM hsl he hr1 htx hw
  cases hb : numB (bl (s.extract p e1))
  all_goals
    have HB := Lib.hid hb
    clear hb
    go_enter Tryd.func130, Tryd.ntmps130
    go_wp2_with (first | (go_at_call 126; refine (letter_any _ _).mono ?_; rintro e w' ⟨rfl, hw⟩; rw [hw, HL.out]) | (go_at_call 176; refine (digit_any _ _).mono ?_; rintro e w' ⟨rfl, hw⟩; first | rw [hw, HD.out]) | (go_at_call 178; first | with_reducible refine (HRUN.out _).mono ?_; rintro e w' ⟨rfl, hw⟩; rw [hw]) | (go_at_call 67; refine (HM.out _ _ _ HTX.out).mono ?_; rintro e w' ⟨rfl, q, rfl⟩; rw [HB.out]))
    (try simp only [Exit.inBlock, Exit.then])
  · refine bodyPost_ret (v := .tuple #[.agg #[.int .i64 0, .int .i64 0, .string ⟨#[]⟩], .int .i64 2]) ?_ rfl ⟨ret_one (k := 0) (p := 0) (er := 2) (oneR_no HK.out (by decide) HE.out (by unfold badW; rw [HB.out]; rfl)), ?_⟩
    · rw [results_cell_tmp rfl]
      go_simp
    · exact below_put3 (below_two_d _ _ _) _ _ _
  · refine bodyPost_ret (v := .tuple #[.agg #[.int .i64 2, .int .i64 p, .string (s.extract p e1)], .int .i64 0]) ?_ rfl ⟨ret_one (k := 2) (er := 0) (oneR_ok HK.out (by decide) HE.out (by unfold badW; rw [HB.out]; rfl)), ?_⟩
    · rw [results_cell_tmp rfl]
      go_simp
    · exact below_put3 (below_two_d _ _ _) _ _ _
set_option maxHeartbeats 4000000 in
theorem one_num_nodig (s : ByteArray) (p n e1 : Nat) (w : World) (hs : s.size ≤ 4096) (hp : p < s.size) (hn : (s[p]'hp).toNat = n) (hL : isL n = false) (hD : isD n = true) (hM : MaxL w) (he : p + runN isD ((bl s).drop p) = e1) (h1 : e1 + 1 < s.size) (hw : (s[e1]'(by omega)) = 47) (hw2 : isD (s[e1 + 1]'h1).toNat = false) :
    Calls Tryd.prog 130 #[.string s, .int .i64 p] w fun e w' => e = .returned (.tuple #[valE (oneR s p n).1, .int .i64 (oneR s p n).2]) ∧ Below w.heap.size w w' := by
  have HL := Lib.hid hL
  have HD := Lib.hid hD
  have hsl : slashB (bl s) e1 = false := by
    unfold slashB
    rw [bl_at s h1, Option.elim_some, hw2, Bool.and_false]
  have hE : endOf (bl s) p n = e1 := by unfold endOf; rw [hL, hD, slash_no hsl he]; rfl
  have hk : kindC n = 2 := by unfold kindC; rw [hL, hD]; rfl
  have hr1 := runN_le isD ((bl s).drop p)
  rw [List.length_drop, bl_len] at hr1
  have HRUN := Lib.hid (fun w => run_digit s p w (by omega) (by omega))
  rw [he] at HRUN
  obtain ⟨E, hEE⟩ : ∃ E, e1 = E := ⟨_, rfl⟩
  have hpE : p ≤ E := by omega
  have hEs : E ≤ s.size := by omega
  subst hEE
  have e47 : (((s[e1]'(Nat.lt_of_succ_lt h1)).toNat : Int) == 47) = true := by rw [hw]; rfl
  have HD2 := Lib.hid hw2
  have hp1 : p ≤ e1 := by omega
  have HE := Lib.hid hE
  have HK := Lib.hid hk
  have HM := Lib.hid (fun t o1 o2 (ht : t.size ≤ 4096) => isNumber_drew t ((w.alloc o1).alloc o2) (by omega) (hM.below (below_two o1 o2)))
  have htx : (s.extract p e1).size ≤ 4096 := by rw [ByteArray.size_extract]; omega
  have HTX := Lib.hid htx
  clear hE hk hL hD hM hsl he hr1 htx hw hw2
  cases hb : numB (bl (s.extract p e1))
  all_goals
    have HB := Lib.hid hb
    clear hb
    go_enter Tryd.func130, Tryd.ntmps130
    go_wp2_with (first | (go_at_call 126; refine (letter_any _ _).mono ?_; rintro e w' ⟨rfl, hw⟩; rw [hw, HL.out]) | (go_at_call 176; refine (digit_any _ _).mono ?_; rintro e w' ⟨rfl, hw⟩; first | rw [hw, HD.out] | rw [hw, HD2.out]) | (go_at_call 178; first | with_reducible refine (HRUN.out _).mono ?_; rintro e w' ⟨rfl, hw⟩; rw [hw]) | (go_at_call 67; refine (HM.out _ _ _ HTX.out).mono ?_; rintro e w' ⟨rfl, q, rfl⟩; rw [HB.out]))
    (try simp only [Exit.inBlock, Exit.then])
  · refine bodyPost_ret (v := .tuple #[.agg #[.int .i64 0, .int .i64 0, .string ⟨#[]⟩], .int .i64 2]) ?_ rfl ⟨ret_one (k := 0) (p := 0) (er := 2) (oneR_no HK.out (by decide) HE.out (by unfold badW; rw [HB.out]; rfl)), ?_⟩
    · rw [results_cell_tmp rfl]
      go_simp
    · exact below_put3 (below_two_d _ _ _) _ _ _
  · refine bodyPost_ret (v := .tuple #[.agg #[.int .i64 2, .int .i64 p, .string (s.extract p e1)], .int .i64 0]) ?_ rfl ⟨ret_one (k := 2) (er := 0) (oneR_ok HK.out (by decide) HE.out (by unfold badW; rw [HB.out]; rfl)), ?_⟩
    · rw [results_cell_tmp rfl]
      go_simp
    · exact below_put3 (below_two_d _ _ _) _ _ _
set_option maxHeartbeats 4000000 in
theorem one_num_both (s : ByteArray) (p n e1 : Nat) (w : World) (hs : s.size ≤ 4096) (hp : p < s.size) (hn : (s[p]'hp).toNat = n) (hL : isL n = false) (hD : isD n = true) (hM : MaxL w) (he : p + runN isD ((bl s).drop p) = e1) (h1 : e1 + 1 < s.size) (hw : (s[e1]'(by omega)) = 47) (hw2 : isD (s[e1 + 1]'h1).toNat = true) :
    Calls Tryd.prog 130 #[.string s, .int .i64 p] w fun e w' => e = .returned (.tuple #[valE (oneR s p n).1, .int .i64 (oneR s p n).2]) ∧ Below w.heap.size w w' := by
  have HL := Lib.hid hL
  have HD := Lib.hid hD
  have hsl : slashB (bl s) e1 = true := by
    unfold slashB
    rw [bl_at s (show e1 < s.size by omega), bl_at s h1, hw, Option.elim_some, hw2]; rfl
  have hE : endOf (bl s) p n = e1 + 1 + runN isD ((bl s).drop (e1 + 1)) := by unfold endOf; rw [hL, hD, slash_yes hsl he]; rfl
  have hk : kindC n = 2 := by unfold kindC; rw [hL, hD]; rfl
  have hr1 := runN_le isD ((bl s).drop p)
  rw [List.length_drop, bl_len] at hr1
  have HRUN := Lib.hid (fun w => run_digit s p w (by omega) (by omega))
  rw [he] at HRUN
  have HRUN0 := Lib.hid (fun w => run_digit s (e1 + 1) w (by omega) (by omega))
  have hr2 := runN_le isD ((bl s).drop (e1 + 1))
  rw [List.length_drop, bl_len] at hr2
  obtain ⟨E, hEE⟩ : ∃ E, e1 + 1 + runN isD ((bl s).drop (e1 + 1)) = E := ⟨_, rfl⟩
  rw [hEE] at hE
  have HRUN2 : Hid (∀ w, Calls Tryd.prog 178 #[.string s, .int .i64 ((e1 : Int) + 1), .func (.func 176) #[] #[]] w fun e w' => e = .returned (.int .i64 (E : Int)) ∧ w' = w) := Lib.hid (fun w => by have h := HRUN0.out w; rwa [hEE] at h)
  have hpE : p ≤ E := by omega
  have hEs : E ≤ s.size := by omega
  clear hEE hr2 HRUN0
  have e47 : (((s[e1]'(Nat.lt_of_succ_lt h1)).toNat : Int) == 47) = true := by rw [hw]; rfl
  have HD2 := Lib.hid hw2
  have hp1 : p ≤ e1 := by omega
  have HE := Lib.hid hE
  have HK := Lib.hid hk
  have HM := Lib.hid (fun t o1 o2 (ht : t.size ≤ 4096) => isNumber_drew t ((w.alloc o1).alloc o2) (by omega) (hM.below (below_two o1 o2)))
  have htx : (s.extract p E).size ≤ 4096 := by rw [ByteArray.size_extract]; omega
  have HTX := Lib.hid htx
  clear hE hk hL hD hM hsl he hr1 htx hw hw2
  cases hb : numB (bl (s.extract p E))
  all_goals
    have HB := Lib.hid hb
    clear hb
    go_enter Tryd.func130, Tryd.ntmps130
    go_wp2_with (first | (go_at_call 126; refine (letter_any _ _).mono ?_; rintro e w' ⟨rfl, hw⟩; rw [hw, HL.out]) | (go_at_call 176; refine (digit_any _ _).mono ?_; rintro e w' ⟨rfl, hw⟩; first | rw [hw, HD.out] | rw [hw, HD2.out]) | (go_at_call 178; (first | with_reducible refine (HRUN.out _).mono ?_ | with_reducible refine (HRUN2.out _).mono ?_); rintro e w' ⟨rfl, hw⟩; rw [hw]) | (go_at_call 67; refine (HM.out _ _ _ HTX.out).mono ?_; rintro e w' ⟨rfl, q, rfl⟩; rw [HB.out]))
    (try simp only [Exit.inBlock, Exit.then])
  · refine bodyPost_ret (v := .tuple #[.agg #[.int .i64 0, .int .i64 0, .string ⟨#[]⟩], .int .i64 2]) ?_ rfl ⟨ret_one (k := 0) (p := 0) (er := 2) (oneR_no HK.out (by decide) HE.out (by unfold badW; rw [HB.out]; rfl)), ?_⟩
    · rw [results_cell_tmp rfl]
      go_simp
    · exact below_put3 (below_two_d _ _ _) _ _ _
  · refine bodyPost_ret (v := .tuple #[.agg #[.int .i64 2, .int .i64 p, .string (s.extract p E)], .int .i64 0]) ?_ rfl ⟨ret_one (k := 2) (er := 0) (oneR_ok HK.out (by decide) HE.out (by unfold badW; rw [HB.out]; rfl)), ?_⟩
    · rw [results_cell_tmp rfl]
      go_simp
    · exact below_put3 (below_two_d _ _ _) _ _ _
theorem one_any (s : ByteArray) (p n : Nat) (w : World) (hs : s.size ≤ 4096) (hp : p < s.size) (hn : (s[p]'hp).toNat = n) (hM : MaxL w) :
    Calls Tryd.prog 130 #[.string s, .int .i64 p] w fun e w' => e = .returned (.tuple #[valE (oneR s p n).1, .int .i64 (oneR s p n).2]) ∧ Below w.heap.size w w' := by
  cases hL : isL n
  · cases hD : isD n
    · exact one_sign s p n w hs hp hn hL hD
    · obtain ⟨e1, he⟩ : ∃ e1, p + runN isD ((bl s).drop p) = e1 := ⟨_, rfl⟩
      by_cases h1 : e1 + 1 < s.size
      · by_cases h2 : (s[e1]'(by omega)) = 47
        · cases h3 : isD (s[e1 + 1]'h1).toNat
          · exact one_num_nodig s p n e1 w hs hp hn hL hD hM he h1 h2 h3
          · exact one_num_both s p n e1 w hs hp hn hL hD hM he h1 h2 h3
        · exact one_num_other s p n e1 w hs hp hn hL hD hM he h1 h2
      · exact one_num_short s p n e1 w hs hp hn hL hD hM he h1
  · exact one_name s p n w hs hp hn hL
end Go.Proofs.YtdhhbpnnahdofaaDoor
