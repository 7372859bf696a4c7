/- What the laws of Sturm need besides (printed by stu.py). -/
import Derived.Test.YtmchjmflkaiakaaGreatDoorSoD
import Derived.Test.YtmchjmflkaiakaaGreatDoorSoE
namespace Go.Proofs.YtmchjmflkaiakaaGreatDoor
open Go.RowKit
set_option linter.unusedVariables false
set_option linter.unusedSimpArgs false
def sgI (m : Nat) : Int := if m % 2 = 0 then 1 else -1
theorem sgI_succ (m : Nat) : sgI (m + 1) = -sgI m := by
 unfold sgI
 by_cases h : m % 2 = 0
 ·rw [if_pos h, if_neg (by omega)]
 ·rw [if_neg h, if_pos (by omega)]; rfl
theorem sgI_or (m : Nat) : sgI m = 1 ∨ sgI m = -1 := by unfold sgI; split; exact .inl rfl; exact .inr rfl
theorem sgQ_pos {a : Rat} (h : 0 < a) : sgnQ a = 1 := by unfold sgnQ cmpQ; grind
theorem sgQ_neg {a : Rat} (h : a < 0) : sgnQ a = -1 := by unfold sgnQ cmpQ; grind
theorem sgQ_zero : sgnQ 0 = 0 := by unfold sgnQ cmpQ; grind
theorem prd_sign (x : Rat) : ∀ (rs : List Rat) (i : Nat), i ≤ rs.length → (∀ k, k < i → qx rs k < x) → (∀ k, i ≤ k → k < rs.length → x < qx rs k) → (sgI (rs.length - i) = 1 ∧ 0 < prd rs x) ∨ (sgI (rs.length - i) = -1 ∧ prd rs x < 0)
 | [], i, hi, _, _ => by
   have e : i = 0 := by simpa using hi
   subst e
   exact .inl ⟨rfl, by show (0 : Rat) < 1; decide +kernel⟩
 | r :: l, 0, _, _, h2 => by
   have ih := prd_sign x l 0 (Nat.zero_le _) (fun k hk => absurd hk (Nat.not_lt_zero _)) (fun k _ hk => h2 (k + 1) (Nat.zero_le _) (by simpa using hk))
   have hr : x < r := h2 0 (Nat.le_refl _) (by simp)
   rw [prd_cons]
   have e : (r :: l).length - 0 = (l.length - 0) + 1 := by simp
   rw [e, sgI_succ]
   rcases ih with ⟨a, b⟩ | ⟨a, b⟩
   ·refine .inr ⟨by rw [a], ?_⟩
    have := Rat.mul_pos b (show 0 < r - x by grind); grind
   ·refine .inl ⟨by rw [a]; rfl, ?_⟩
    have := Rat.mul_pos (show 0 < -prd l x by grind) (show 0 < r - x by grind); grind
 | r :: l, i + 1, hi, h1, h2 => by
   have ih := prd_sign x l i (by simpa using hi) (fun k hk => h1 (k + 1) (by omega)) (fun k hk hk2 => h2 (k + 1) (by omega) (by simpa using hk2))
   have hr : r < x := h1 0 (by omega)
   rw [prd_cons]
   have e : (r :: l).length - (i + 1) = l.length - i := by simp
   rw [e]
   rcases ih with ⟨a, b⟩ | ⟨a, b⟩
   ·exact .inl ⟨a, Rat.mul_pos b (by grind)⟩
   ·refine .inr ⟨a, ?_⟩
    have := Rat.mul_pos (show 0 < -prd l x by grind) (show 0 < x - r by grind); grind
theorem asc_lt {rs : List Rat} (h : rs.Pairwise (· < ·)) {i j : Nat} (hij : i < j) (hj : j < rs.length) : qx rs i < qx rs j := by
 have := List.pairwise_iff_getElem.1 h i j (by omega) hj hij
 unfold qx
 rw [List.getD_eq_getElem?_getD, List.getD_eq_getElem?_getD, List.getElem?_eq_getElem hj, List.getElem?_eq_getElem (show i < rs.length by omega)]
 exact this
theorem qx_mem {rs : List Rat} {i : Nat} (hi : i < rs.length) : qx rs i ∈ rs := by
 unfold qx
 rw [List.getD_eq_getElem?_getD, List.getElem?_eq_getElem hi]
 exact List.getElem_mem _
theorem end_signs {rs : List Rat} (hp : rs.Pairwise (· < ·)) {t : Spn} {i : Nat} (hi : i < rs.length) (h : Iso rs t (qx rs i)) : ∃ lo hi' : Int, sgnQ (ev (rootL [1] rs) t.1) = lo ∧ sgnQ (ev (rootL [1] rs) t.2) = hi' ∧ (0 ≤ lo * sgI (rs.length - i) ∧ lo * sgI (rs.length - i) ≤ 1) ∧ (-1 ≤ hi' * sgI (rs.length - i) ∧ hi' * sgI (rs.length - i) ≤ 0) ∧ (-1 ≤ lo ∧ lo ≤ 1) ∧ (-1 ≤ hi' ∧ hi' ≤ 1) := by
 have e1 : ∀ x, ev (rootL [1] rs) x = prd rs x := fun x => by rw [ev_root, ev_cons, ev_nil]; grind
 rcases h.2 with e | ⟨h1, h2, h3⟩
 ·have e0 : ev (rootL [1] rs) (qx rs i) = 0 := by rw [e1]; exact prd_zero.2 (qx_mem hi)
  refine ⟨0, 0, by rw [e]; show sgnQ (ev (rootL [1] rs) (qx rs i)) = 0; rw [e0]; exact sgQ_zero, by rw [e]; show sgnQ (ev (rootL [1] rs) (qx rs i)) = 0; rw [e0]; exact sgQ_zero, by omega, by omega, by omega, by omega⟩
 ·have below : ∀ k, k < i → qx rs k < t.1 := fun k hk => by
   have hk2 := asc_lt hp hk hi
   rcases h3 _ (qx_mem (show k < rs.length by omega)) (by grind) with h | h
   ·exact h
   ·grind
  have above : ∀ k, i < k → k < rs.length → t.2 < qx rs k := fun k hk hk2 => by
   have hk3 := asc_lt hp hk hk2
   rcases h3 _ (qx_mem hk2) (by grind) with h | h
   ·grind
   ·exact h
  have s1 := prd_sign t.1 rs i (by omega) below (fun k hk hk2 => by
   rcases Nat.lt_or_ge i k with h | h
   ·have := above k h hk2; grind
   ·have : k = i := by omega
    rw [this]; exact h1)
  have s2 := prd_sign t.2 rs (i + 1) (by omega) (fun k hk => by
   rcases Nat.lt_or_ge k i with h | h
   ·have := below k h; grind
   ·have : k = i := by omega
    rw [this]; exact h2) (fun k hk hk2 => above k (by omega) hk2)
  have e : rs.length - i = (rs.length - (i + 1)) + 1 := by omega
  have e2 : sgI (rs.length - (i + 1)) = -sgI (rs.length - i) := by rw [e, sgI_succ]; omega
  rw [e2] at s2
  refine ⟨_, _, rfl, rfl, ?_⟩
  rw [e1, e1]
  rcases s1 with ⟨a, b⟩ | ⟨a, b⟩ <;> rcases s2 with ⟨a2, b2⟩ | ⟨a2, b2⟩
  ·omega
  ·rw [a, sgQ_pos b, sgQ_neg b2]; decide
  ·rw [a, sgQ_neg b, sgQ_pos b2]; decide
  ·omega
theorem pol_one {rs : List Rat} (hp : rs.Pairwise (· < ·)) (hs : ∀ r ∈ rs, Sml r) (h5 : rs.length ≤ 5) : Pol [1] rs (rootL [1] rs) := ⟨Wgd.one, hs, hp.imp (fun h e => by rw [e] at h; grind), by simp; omega, h5, .inl ⟨rfl, by simp; omega⟩⟩
theorem root_evz {p : Ply} (hz : Qz 7 p) (hl : p.length ≤ 8) {x : Rat} (hx : Rz 300 x) : EvZ KK p x := evz_ex (L := 8) hx (by decide) (by decide) p hz hl
theorem iso_one {rs : List Rat} (hp : rs.Pairwise (· < ·)) {t : Spn} {r : Rat} (h : Iso rs t r) : t.1 ≤ r ∧ r ≤ t.2 ∧ t.1 ≤ t.2 ∧ cntC rs t.1 t.2 = 1 := by
 have e : t.1 ≤ r ∧ r ≤ t.2 := by
  rcases h.2 with e | ⟨h1, h2, -⟩
  ·rw [e]; exact ⟨Rat.le_refl, Rat.le_refl⟩
  ·exact ⟨by grind, by grind⟩
 refine ⟨e.1, e.2, by grind, ?_⟩
 rw [cntC_len, inS_one e.1 e.2 hp h.1]
 ·rfl
 ·intro q hq hne
  rcases h.2 with e2 | ⟨-, -, h3⟩
  ·rw [e2]
   rcases (by grind : q < r ∨ r < q) with h | h
   ·exact .inl h
   ·exact .inr h
  ·exact h3 q hq hne
theorem cnt_snoc (lo hi r : Rat) (l : List Rat) : cntC (l ++ [r]) lo hi = cntC l lo hi + (if lo ≤ r ∧ r ≤ hi then 1 else 0) := by
 rw [cntC_len, cntC_len]
 unfold inS
 rw [List.filter_append, List.length_append]
 by_cases h : lo ≤ r ∧ r ≤ hi
 ·rw [if_pos h, List.filter_cons_of_pos (by simp [h.1, h.2])]; simp
 ·rw [if_neg h, List.filter_cons_of_neg (by simp only [Bool.and_eq_true, decide_eq_true_eq]; exact h)]; simp
theorem sq_last (rs : List Rat) : (rootL [1, 0, 1] rs).length = rs.length + 3 ∧ (rootL [1, 0, 1] rs).getLast? = some 1 := by
 obtain ⟨h1, h2⟩ := root_len (W := [1, 0, 1]) rfl rs
 exact ⟨by rw [h1]; simp; omega, h2⟩
theorem prod_sq (rs : List Rat) : prodN (rootL [1] rs) [1, 0, 1] (rs.length + 1) = rootL [1, 0, 1] rs := by
 have h := prod_is (p := rootL [1] rs) (q := [1, 0, 1]) (T := rootL [1, 0, 1] rs) (root_one_len rs).2 rfl (sq_last rs).2 fun x => by rw [ev_root, ev_root, ev_cons (c := 1) (p := []), ev_nil]; grind
 rwa [(root_one_len rs).1] at h
theorem prod_again (rs : List Rat) (r : Rat) : prodN (rootL [1, 0, 1] rs) [-r, 1] (rs.length + 3) = rootL [1, 0, 1] (r :: rs) := by
 have h := prod_is (p := rootL [1, 0, 1] rs) (q := [-r, 1]) (T := rootL [1, 0, 1] (r :: rs)) (sq_last rs).2 rfl (sq_last (r :: rs)).2 fun x => by rw [ev_root, ev_root, prd_cons, ev_lin]; grind
 rwa [(sq_last rs).1] at h
theorem sqq_z {rs : List Rat} (h : ∀ r ∈ rs, Sml r) (hl : rs.length ≤ 6) : Qz 7 (rootL [1, 0, 1] rs) := by
 obtain ⟨D, hD⟩ := root_cz Wgd.sq.cz rs h
 exact hD.qz.mo (by omega)
theorem pol_sq {rs : List Rat} (hp : rs.Pairwise (· < ·)) (hs : ∀ r ∈ rs, Sml r) (h4 : rs.length ≤ 4) : Pol [1, 0, 1] rs (rootL [1, 0, 1] rs) := ⟨Wgd.sq, hs, hp.imp (fun h e => by rw [e] at h; grind), by simp; omega, by omega, .inl ⟨rfl, by simp; omega⟩⟩
theorem pol_sq2 {rs : List Rat} (hp : rs.Pairwise (· < ·)) (hs : ∀ r ∈ rs, Sml r) (h4 : rs.length ≤ 4) {r : Rat} (hr : r ∈ rs) : Pol [1, 0, 1] rs (rootL [1, 0, 1] (r :: rs)) := ⟨Wgd.sq, hs, hp.imp (fun h e => by rw [e] at h; grind), by simp; omega, by omega, .inr ⟨r, hr, rfl⟩⟩
theorem ratM_z (x : Int) : Rz 1 (ratMq x) := sml_z (sml_of (ratMq_small x))
theorem prt_z {rs : List Rat} {cs : List Nums} {D : Nat} {l2 : List Spn} (hE : Env KK cs rs (1 / 128) 131072 D 1000) (hD : 0 < D ∧ D < 256 ^ 6) (hP : Prt rs 131072 D 885 l2.length l2 rs) {i : Nat} (hi : i < l2.length) : Rz 200 (sx l2 i).1 ∧ Rz 200 (sx l2 i).2 := by
 obtain ⟨b1, b2⟩ := hP.bd i hi
 obtain ⟨z1, z2⟩ := hP.dz i hi
 have q : (131072 : Rat) ≤ 524288 := by decide +kernel
 exact ⟨dz_rz hD.1 hD.2 (by omega) z1 (b1.more q), dz_rz hD.1 hD.2 (by omega) z2 (b2.more q)⟩
end Go.Proofs.YtmchjmflkaiakaaGreatDoor
