/- Package sturm, plain: the polynomials of the laws; all their roots are found, and all numbers on the way are small (made by mku.py out of st2 .. st9.body.lean). -/
import Derived.Test.YtmchjmflkaiakaaGreatDoorStA
set_option exponentiation.threshold 4000
namespace Go.Proofs.YtmchjmflkaiakaaGreatDoor
open Go.RowKit
set_option linter.unusedVariables false
set_option linter.unusedSimpArgs false
theorem Rz.zr : Rz 1 (0 : Rat) := Rz.zero
theorem Rz.add1 {k l : Nat} {x y : Rat} (hx : Rz k x) (hy : Rz l y) : Rz (k + l + 1) (x + y) := by
 rw [Rat.add_def']
 obtain ⟨h1, h2⟩ := den_dvd (x.num * y.den + y.num * x.den) (x.den * y.den) (Nat.mul_pos x.den_pos y.den_pos)
 refine ⟨?_, (hx.2.mul hy.2).le h2 |>.more (by omega)⟩
 have h3 : Sz (k + l) (x.num * y.den).natAbs := by rw [Int.natAbs_mul]; exact hx.1.mul hy.2
 have h4 : Sz (l + k) (y.num * x.den).natAbs := by rw [Int.natAbs_mul]; exact hy.1.mul hx.2
 have h5 := bstr_length_le.1 h3
 have h6 := bstr_length_le.1 h4
 rw [Nat.add_comm l k] at h6
 refine bstr_length_le.2 (Nat.lt_of_le_of_lt h1 ?_)
 rw [Nat.pow_succ]
 omega
theorem Rz.sub1 {k l : Nat} {x y : Rat} (hx : Rz k x) (hy : Rz l y) : Rz (k + l + 1) (x - y) := by
 rw [Rat.sub_eq_add_neg]; exact hx.add1 hy.neg
theorem Rz.frac {m D : Nat} {c : Rat} {z : Int} (hD : 0 < D) (e : c * (D : Rat) = (z : Rat)) (hz : z.natAbs < 256 ^ m) (hD2 : D < 256 ^ m) : Rz m c := by
 have hd : (D : Rat) ≠ 0 := by
  have : (0 : Rat) < (D : Rat) := by exact_mod_cast hD
  grind
 have hc : c = mkRat z D := by
  rw [Rat.mkRat_eq_div, ← e, Rat.div_def, Rat.mul_assoc]
  have : ((D : Int) : Rat) = (D : Rat) := rfl
  rw [Rat.mul_inv_cancel _ hd, Rat.mul_one]
 obtain ⟨h1, h2⟩ := den_dvd z D hD
 rw [hc]
 exact ⟨bstr_length_le.2 (Nat.lt_of_le_of_lt h1 hz), bstr_length_le.2 (Nat.lt_of_le_of_lt h2 hD2)⟩
theorem Rz.int1 {z : Int} (h : z.natAbs < 256) : Rz 1 (z : Rat) := Rz.int (by simpa using h) (by omega)
def Dz (d j : Nat) (x : Rat) : Prop := ∃ z : Int, x * ((d * 2 ^ j : Nat) : Rat) = (z : Rat)
theorem Dz.up {d j : Nat} {x : Rat} (h : Dz d j x) : Dz d (j + 1) x := by
 obtain ⟨z, h⟩ := h
 refine ⟨z * 2, ?_⟩
 have e : ((d * 2 ^ (j + 1) : Nat) : Rat) = ((d * 2 ^ j : Nat) : Rat) * 2 := by rw [Nat.pow_succ, ← Nat.mul_assoc, Rat.natCast_mul]; rfl
 have e2 : ((z * 2 : Int) : Rat) = (z : Rat) * 2 := by rw [Rat.intCast_mul]; rfl
 rw [e, e2, ← h]; grind
theorem Dz.ups {d j : Nat} {x : Rat} (h : Dz d j x) (k : Nat) : Dz d (j + k) x := by
 induction k with
 | zero => exact h
 | succ k ih => exact ih.up
theorem Dz.to {d j J : Nat} {x : Rat} (h : Dz d j x) (hj : j ≤ J) : Dz d J x := by
 obtain ⟨k, rfl⟩ := Nat.le.dest hj
 exact h.ups k
theorem Dz.add {d j : Nat} {x y : Rat} (hx : Dz d j x) (hy : Dz d j y) : Dz d j (x + y) := by
 obtain ⟨a, ha⟩ := hx
 obtain ⟨b, hb⟩ := hy
 exact ⟨a + b, by rw [Rat.intCast_add, ← ha, ← hb]; grind⟩
theorem Dz.neg {d j : Nat} {x : Rat} (hx : Dz d j x) : Dz d j (-x) := by
 obtain ⟨a, ha⟩ := hx
 exact ⟨-a, by rw [Rat.intCast_neg, ← ha]; grind⟩
theorem Dz.sub {d j : Nat} {x y : Rat} (hx : Dz d j x) (hy : Dz d j y) : Dz d j (x - y) := by
 have := hx.add hy.neg
 have e : x + -y = x - y := by grind
 rw [e] at this; exact this
theorem Dz.half {d j : Nat} {x : Rat} (h : Dz d j x) : Dz d (j + 1) (x * (1 / 2)) := by
 obtain ⟨z, h⟩ := h
 refine ⟨z, ?_⟩
 have e : ((d * 2 ^ (j + 1) : Nat) : Rat) = ((d * 2 ^ j : Nat) : Rat) * 2 := by rw [Nat.pow_succ, ← Nat.mul_assoc, Rat.natCast_mul]; rfl
 rw [e, ← h]; grind
theorem Dz.mid {d j : Nat} {s : Spn} (h1 : Dz d j s.1) (h2 : Dz d j s.2) : Dz d (j + 1) (midQ s) := by
 have := (h1.add h2).half
 have e : (s.1 + s.2) * (1 / 2) = midQ s := by unfold midQ; grind
 rw [e] at this; exact this
def inS (rs : List Rat) (lo hi : Rat) : List Rat := rs.filter fun r => decide (lo ≤ r) && decide (r ≤ hi)
theorem inS_mem {rs : List Rat} {lo hi r : Rat} : r ∈ inS rs lo hi ↔ r ∈ rs ∧ lo ≤ r ∧ r ≤ hi := by simp [inS]
theorem inS_cons (r : Rat) (rs : List Rat) (lo hi : Rat) : inS (r :: rs) lo hi = if lo ≤ r ∧ r ≤ hi then r :: inS rs lo hi else inS rs lo hi := by
 unfold inS
 rw [List.filter_cons]
 simp
theorem cntC_len (lo hi : Rat) : ∀ rs : List Rat, cntC rs lo hi = ((inS rs lo hi).length : Int)
 | [] => rfl
 | r :: rs => by
   have := cntC_len lo hi rs
   rw [inS_cons]
   unfold cntC
   by_cases h : lo ≤ r ∧ r ≤ hi
   ·rw [if_pos h, if_pos h, List.length_cons, this]; omega
   ·rw [if_neg h, if_neg h, this]; omega
theorem inS_none {rs : List Rat} {lo hi : Rat} (h : ∀ r ∈ rs, ¬ (lo ≤ r ∧ r ≤ hi)) : inS rs lo hi = [] := by
 unfold inS
 rw [List.filter_eq_nil_iff]
 intro a ha
 have := h a ha
 simp only [Bool.and_eq_true, decide_eq_true_eq]
 exact this
theorem inS_cut {lo m hi : Rat} (h1 : lo ≤ m) (h2 : m ≤ hi) : ∀ {rs : List Rat}, rs.Pairwise (· < ·) → m ∉ rs → inS rs lo hi = inS rs lo m ++ inS rs m hi
 | [], _, _ => rfl
 | r :: rs, hp, hm => by
   have hp' := List.pairwise_cons.1 hp
   have hne : r ≠ m := fun e => hm (by rw [e]; exact List.mem_cons_self)
   have ih := inS_cut h1 h2 hp'.2 (fun h => hm (List.mem_cons_of_mem _ h))
   rw [inS_cons, inS_cons, inS_cons]
   rcases (by grind : r < m ∨ m < r) with h | h
   ·by_cases hl : lo ≤ r
    ·rw [if_pos ⟨hl, by grind⟩, if_pos ⟨hl, by grind⟩, if_neg (by grind), ih]; rfl
    ·rw [if_neg (by grind), if_neg (by grind), if_neg (by grind), ih]
   ·have e : inS rs lo m = [] := inS_none fun q hq hh => by have := hp'.1 q hq; grind
    rw [e] at ih
    rw [e, if_neg (by grind : ¬ (lo ≤ r ∧ r ≤ m)), List.nil_append]
    rw [List.nil_append] at ih
    by_cases hh : r ≤ hi
    ·rw [if_pos ⟨by grind, hh⟩, if_pos ⟨by grind, hh⟩, ih]
    ·rw [if_neg (by grind), if_neg (by grind), ih]
theorem inS_one {m a b : Rat} (h1 : a ≤ m) (h2 : m ≤ b) : ∀ {rs : List Rat}, rs.Pairwise (· < ·) → m ∈ rs → (∀ q ∈ rs, q ≠ m → q < a ∨ b < q) → inS rs a b = [m]
 | [], _, hm, _ => by cases hm
 | r :: rs, hp, hm, ho => by
   have hp' := List.pairwise_cons.1 hp
   rw [inS_cons]
   by_cases e : r = m
   ·subst e
    rw [if_pos ⟨h1, h2⟩, inS_none]
    intro q hq hh
    have := hp'.1 q hq
    have := ho q (List.mem_cons_of_mem _ hq) (by grind)
    grind
   ·have := ho r List.mem_cons_self e
    rw [if_neg (by grind)]
    exact inS_one h1 h2 hp'.2 (by rcases List.mem_cons.1 hm with h | h; exact absurd h.symm e; exact h) (fun q hq => ho q (List.mem_cons_of_mem _ hq))
structure Env (K : Nat) (cs : List Nums) (rs : List Rat) (σ M : Rat) (d J : Nat) : Prop where
 cnt : ∀ lo hi, lo ≤ hi → CtR cs (lo, hi) = cntC rs lo hi
 zero : ∀ x, ev (cs.headD []) x = 0 ↔ x ∈ rs
 sort : rs.Pairwise (· < ·)
 pos : 0 < σ
 sep : ∀ a ∈ rs, ∀ b ∈ rs, a < b → σ < b - a
 szc : ∀ x, Dz d J x → Bd M x → ChZ K cs x
 szr : ∀ x, Dz d J x → Bd (4 * M) x → Rz K x
 few : rs.length ≤ 100
def Iso (rs : List Rat) (t : Spn) (r : Rat) : Prop := r ∈ rs ∧ (t = (r, r) ∨ (t.1 < r ∧ r < t.2 ∧ ∀ q ∈ rs, q ≠ r → q < t.1 ∨ t.2 < q))
def Row (rs : List Rat) : Rat → Rat → List Spn → List Rat → Prop
 | lo, hi, [], [] => lo ≤ hi
 | lo, hi, t :: T, q :: qs => lo ≤ t.1 ∧ t.1 ≤ t.2 ∧ Iso rs t q ∧ Row rs t.2 hi T qs
 | _, _, _, _ => False
theorem Row.le {rs : List Rat} : ∀ {T : List Spn} {qs : List Rat} {lo hi : Rat}, Row rs lo hi T qs → lo ≤ hi
 | [], [], lo, hi, h => h
 | t :: T, q :: qs, lo, hi, h => by
   obtain ⟨h1, h2, h3, h4⟩ := h
   have := h4.le
   grind
 | [], _ :: _, _, _, h => h.elim
 | _ :: _, [], _, _, h => h.elim
theorem Row.lower {rs : List Rat} {T : List Spn} {qs : List Rat} {lo lo' hi : Rat} (h : Row rs lo hi T qs) (hl : lo' ≤ lo) : Row rs lo' hi T qs := by
 cases T with
 | nil => cases qs with
   | nil => unfold Row at *; grind
   | cons => exact h.elim
 | cons t T => cases qs with
   | nil => exact h.elim
   | cons q qs =>
     obtain ⟨h1, h2, h3, h4⟩ := h
     exact ⟨by grind, h2, h3, h4⟩
theorem Row.app {rs : List Rat} {m hi : Rat} {T2 : List Spn} {q2 : List Rat} (hb : Row rs m hi T2 q2) : ∀ {T1 : List Spn} {q1 : List Rat} {lo : Rat}, Row rs lo m T1 q1 → Row rs lo hi (T1 ++ T2) (q1 ++ q2)
 | [], [], lo, h => hb.lower h
 | t :: T, q :: qs, lo, h => by
   obtain ⟨h1, h2, h3, h4⟩ := h
   exact ⟨h1, h2, h3, Row.app hb h4⟩
 | [], _ :: _, _, h => h.elim
 | _ :: _, [], _, h => h.elim
theorem Row.len {rs : List Rat} : ∀ {T : List Spn} {qs : List Rat} {lo hi : Rat}, Row rs lo hi T qs → T.length = qs.length
 | [], [], lo, hi, h => rfl
 | t :: T, q :: qs, lo, hi, h => by
   obtain ⟨h1, h2, h3, h4⟩ := h
   simp [h4.len]
 | [], _ :: _, _, _, h => h.elim
 | _ :: _, [], _, _, h => h.elim
section
variable {K : Nat} {cs : List Nums} {rs : List Rat} {σ M : Rat} {d J : Nat}
theorem Env.M0 (hE : Env K cs rs σ M d J) {x : Rat} (h : Bd M x) : Bd (4 * M) x := by have := h.nn; exact h.more (by grind)
theorem Bd.half {M x : Rat} (h : Bd M x) : Bd M (x * (1 / 2)) := by have := h.nn; unfold Bd at *; grind
theorem Bd.mid {M : Rat} {s : Spn} (h1 : Bd M s.1) (h2 : Bd M s.2) : Bd M (midQ s) := by unfold midQ Bd at *; grind
theorem near_ex (hE : Env K cs rs σ M d J) {m : Rat} (hm : m ∈ rs) (hmz : Dz d J m) : ∀ (k j : Nat) (by_ : Rat), 0 < by_ → by_ ≤ σ * 2 ^ k → Dz d j by_ → j + k + 1 ≤ J → Bd M by_ → Bd M (m - by_) → Bd M (m + by_) →
  ∃ n b, NrR K cs m n by_ (m - b, m + b) ∧ 0 < b ∧ b ≤ by_ * (1 / 2) ∧ (∀ q ∈ rs, q ≠ m → q < m - b ∨ m + b < q) ∧ Dz d (j + k + 1) b
 | k, j, by_, h0, hk, hz, hj, hM, hl, hh => by
   obtain ⟨b, hb⟩ : ∃ b, by_ * (1 / 2) = b := ⟨_, rfl⟩
   have hbz : Dz d (j + 1) b := by rw [← hb]; exact hz.half
   have hbM : Bd M b := by rw [← hb]; exact hM.half
   have hbl : Bd M (m - b) := by unfold Bd at *; grind
   have hbh : Bd M (m + b) := by unfold Bd at *; grind
   have hb0 : 0 < b := by grind
   have z1 : Rz K by_ := hE.szr _ (hz.to (by omega)) (hE.M0 hM)
   have z2 : Rz K b := hE.szr _ (hbz.to (by omega)) (hE.M0 hbM)
   have z3 : ChZ K cs (m - b) := hE.szc _ (hmz.sub (hbz.to (by omega))) hbl
   have z4 : ChZ K cs (m + b) := hE.szc _ (hmz.add (hbz.to (by omega))) hbh
   by_cases hc : CtR cs (m - b, m + b) = 1 ∧ ev (cs.headD []) (m - b) ≠ 0 ∧ ev (cs.headD []) (m + b) ≠ 0
   ·refine ⟨0, b, .stop z1 hb z2 z3 z4 hc.1 hc.2.1 hc.2.2, hb0, by grind, fun q hq hne => ?_, hbz.to (by omega)⟩
    have h1 := hc.1
    rw [hE.cnt _ _ (by grind), cntC_len] at h1
    have h2 : (inS rs (m - b) (m + b)).length = 1 := by omega
    obtain ⟨u, hu⟩ := List.length_eq_one_iff.1 h2
    have hmu : m ∈ inS rs (m - b) (m + b) := inS_mem.2 ⟨hm, by grind, by grind⟩
    rw [hu] at hmu
    have hmu := List.mem_singleton.1 hmu
    rcases (by grind : q < m - b ∨ m + b < q ∨ (m - b ≤ q ∧ q ≤ m + b)) with h | h | h
    ·exact .inl h
    ·exact .inr h
    ·have hqu : q ∈ inS rs (m - b) (m + b) := inS_mem.2 ⟨hq, h⟩
     rw [hu] at hqu
     exact absurd ((List.mem_singleton.1 hqu).trans hmu.symm) hne
   ·match k, hk, hj with
    | 0, hk, hj =>
      exfalso
      apply hc
      have hbs : b < σ := by have := hE.pos; have e : σ * 2 ^ 0 = σ := by rw [Rat.pow_zero]; grind
                             grind
      have ho : ∀ q ∈ rs, q ≠ m → q < m - b ∨ m + b < q := by
       intro q hq hne
       rcases (by grind : q < m ∨ m < q) with h | h
       ·have := hE.sep q hq m hm h; grind
       ·have := hE.sep m hm q hq h; grind
      refine ⟨?_, fun e => ?_, fun e => ?_⟩
      ·rw [hE.cnt _ _ (by grind), cntC_len, inS_one (by grind) (by grind) hE.sort hm ho]; rfl
      ·have := ho _ ((hE.zero _).1 e) (by grind); grind
      ·have := ho _ ((hE.zero _).1 e) (by grind); grind
    | k + 1, hk, hj =>
      have hk2 : b ≤ σ * 2 ^ k := by
       have e : σ * 2 ^ (k + 1) = σ * 2 ^ k * 2 := by rw [Rat.pow_succ]; grind
       rw [e] at hk; grind
      obtain ⟨n, b', h1, h2, h3, h4, h5⟩ := near_ex hE hm hmz k (j + 1) b hb0 hk2 hbz (by omega) hbM hbl hbh
      refine ⟨n + 1, b', .step z1 hb z2 z3 z4 hc h1, h2, by grind, h4, ?_⟩
      have e : j + (k + 1) + 1 = j + 1 + k + 1 := by omega
      rw [e]; exact h5
theorem split_ex (hE : Env K cs rs σ M d J) : ∀ (n j : Nat) (s : Spn) (out : List Spn), s.1 < s.2 → s.1 ∉ rs → s.2 ∉ rs → s.2 - s.1 ≤ σ * 2 ^ n → Dz d j s.1 → Dz d j s.2 → j + (n + 2) * (n + 2) ≤ J → Bd M s.1 → Bd M s.2 → out.length + (inS rs s.1 s.2).length ≤ 200 →
  ∃ T, SpR K cs out s (out ++ T) ∧ Row rs s.1 s.2 T (inS rs s.1 s.2) ∧ (∀ t ∈ T, Bd M t.1 ∧ Bd M t.2) ∧ ∀ t ∈ T, Dz d (j + (n + 2) * (n + 2)) t.1 ∧ Dz d (j + (n + 2) * (n + 2)) t.2
 | n, j, s, out, hs, h1, h2, hw, z1, z2, hj, b1, b2, hlen => by
   have hle : s.1 ≤ s.2 := by grind
   have y1 : ChZ K cs s.1 := hE.szc _ (z1.to (by omega)) b1
   have y2 : ChZ K cs s.2 := hE.szc _ (z2.to (by omega)) b2
   have hct : CtR cs s = ((inS rs s.1 s.2).length : Int) := by rw [← cntC_len]; exact hE.cnt s.1 s.2 hle
   match hL : inS rs s.1 s.2 with
   | [] =>
     rw [hL] at hct
     exact ⟨[], by rw [List.append_nil]; exact .none y1 y2 hct, hle, (fun t ht => nomatch ht), (fun t ht => nomatch ht)⟩
   | [r] =>
     rw [hL] at hct
     refine ⟨[s], .one y1 y2 hct (by omega), ⟨by grind, hle, ?_, by show s.2 ≤ s.2; grind⟩, fun t ht => ?_, fun t ht => ?_⟩
     ·have hr : r ∈ inS rs s.1 s.2 := by rw [hL]; exact List.mem_cons_self
      have hr' := inS_mem.1 hr
      refine ⟨hr'.1, .inr ⟨?_, ?_, fun q hq hne => ?_⟩⟩
      ·rcases (by grind : s.1 < r ∨ s.1 = r) with h | h
       ·exact h
       ·rw [h] at h1; exact absurd hr'.1 h1
      ·rcases (by grind : r < s.2 ∨ s.2 = r) with h | h
       ·exact h
       ·rw [h] at h2; exact absurd hr'.1 h2
      ·rcases (by grind : q < s.1 ∨ s.2 < q ∨ (s.1 ≤ q ∧ q ≤ s.2)) with h | h | h
       ·exact .inl h
       ·exact .inr h
       ·have : q ∈ inS rs s.1 s.2 := inS_mem.2 ⟨hq, h⟩
        rw [hL] at this
        exact absurd (List.mem_singleton.1 this) hne
     ·rw [List.mem_singleton.1 ht]; exact ⟨b1, b2⟩
     ·rw [List.mem_singleton.1 ht]; exact ⟨z1.to (by omega), z2.to (by omega)⟩
   | u :: v :: rest =>
     have hu : u ∈ inS rs s.1 s.2 := by rw [hL]; exact List.mem_cons_self
     have hv : v ∈ inS rs s.1 s.2 := by rw [hL]; exact List.mem_cons_of_mem _ List.mem_cons_self
     have hsorted : (inS rs s.1 s.2).Pairwise (· < ·) := hE.sort.sublist List.filter_sublist
     have huv : u < v := by rw [hL] at hsorted; exact (List.pairwise_cons.1 hsorted).1 v List.mem_cons_self
     have hu' := inS_mem.1 hu
     have hv' := inS_mem.1 hv
     have hsep := hE.sep u hu'.1 v hv'.1 huv
     have hc0 : CtR cs s ≠ 0 := by rw [hct, hL, List.length_cons]; omega
     have hc1 : CtR cs s ≠ 1 := by rw [hct, hL, List.length_cons, List.length_cons]; omega
     match n, hw, hj with
     | 0, hw, hj =>
       exfalso
       have e : σ * 2 ^ 0 = σ := by rw [Rat.pow_zero]; grind
       rw [e] at hw; grind
     | n + 1, hw, hj =>
       have e2 : σ * 2 ^ (n + 1) = σ * 2 ^ n * 2 := by rw [Rat.pow_succ]; grind
       rw [e2] at hw
       obtain ⟨m, hm⟩ : ∃ m, midQ s = m := ⟨_, rfl⟩
       have hm1 : s.1 < m := by rw [← hm]; unfold midQ; grind
       have hm2 : m < s.2 := by rw [← hm]; unfold midQ; grind
       have hw1 : m - s.1 ≤ σ * 2 ^ n := by rw [← hm]; unfold midQ; grind
       have hw2 : s.2 - m ≤ σ * 2 ^ n := by rw [← hm]; unfold midQ; grind
       have zm : Dz d (j + 1) m := by rw [← hm]; exact z1.mid z2
       have bm : Bd M m := by rw [← hm]; exact Bd.mid b1 b2
       have esq : (n + 1 + 2) * (n + 1 + 2) = (n + 2) * (n + 2) + 2 * n + 5 := by grind
       have hMZ : MidZ K s := ⟨hE.szr _ (z1.to (by omega)) (hE.M0 b1), hE.szr _ (z2.to (by omega)) (hE.M0 b2), hE.szr _ ((z1.add z2).to (by omega)) (by have := b1.nn; unfold Bd at *; grind), by rw [hm]; exact hE.szr _ (zm.to (by omega)) (hE.M0 bm)⟩
       have ym : ChZ K cs (midQ s) := by rw [hm]; exact hE.szc _ (zm.to (by omega)) bm
       by_cases hmr : m ∈ rs
       ·have hby : 0 < s.2 - m := by grind
        have bbl : Bd M (m - (s.2 - m)) := by
         have e : m - (s.2 - m) = s.1 := by rw [← hm]; unfold midQ; grind
         rw [e]; exact b1
        have bbh : Bd M (m + (s.2 - m)) := by
         have e : m + (s.2 - m) = s.2 := by grind
         rw [e]; exact b2
        have bb : Bd M (s.2 - m) := by unfold Bd at *; grind
        obtain ⟨k, b, hN, hb0, hbb, hbo, hbz⟩ := near_ex hE hmr (zm.to (by omega)) n (j + 1) (s.2 - m) hby hw2 ((z2.up).sub zm) (by omega) bb bbl bbh
        have c1 : m - b ∉ rs := fun h => by have := hbo _ h (by grind); grind
        have c2 : m + b ∉ rs := fun h => by have := hbo _ h (by grind); grind
        have d1 : s.1 < m - b := by rw [← hm] at hbb ⊢; unfold midQ at *; grind
        have d2 : m + b < s.2 := by grind
        have bl : Bd M (m - b) := by unfold Bd at *; grind
        have bh : Bd M (m + b) := by unfold Bd at *; grind
        have zl : Dz d (j + 1 + n + 1) (m - b) := (zm.to (by omega)).sub hbz
        have zh : Dz d (j + 1 + n + 1) (m + b) := (zm.to (by omega)).add hbz
        have hcut : inS rs s.1 s.2 = inS rs s.1 (m - b) ++ (m :: inS rs (m + b) s.2) := by
         rw [inS_cut (m := m - b) (by grind) (by grind) hE.sort c1, inS_cut (lo := m - b) (m := m + b) (by grind) (by grind) hE.sort c2, inS_one (by grind) (by grind) hE.sort hmr hbo]; rfl
        have hlen2 : (inS rs s.1 s.2).length = (inS rs s.1 (m - b)).length + (1 + (inS rs (m + b) s.2).length) := by rw [hcut, List.length_append, List.length_cons]; omega
        obtain ⟨T1, p1, r1, s1, w1⟩ := split_ex hE n (j + 1 + n + 1) (s.1, m - b) out d1 h1 c1 (by show m - b - s.1 ≤ _; grind) (z1.to (by omega)) zl (by omega) b1 bl (by show out.length + (inS rs s.1 (m - b)).length ≤ 200; omega)
        have hT1 : T1.length = (inS rs s.1 (m - b)).length := r1.len
        obtain ⟨T2, p2, r2, s2, w2⟩ := split_ex hE n (j + 1 + n + 1) (m + b, s.2) (out ++ T1 ++ [(m, m)]) d2 c2 h2 (by show s.2 - (m + b) ≤ _; grind) zh (z2.to (by omega)) (by omega) bh b2 (by show (out ++ T1 ++ [(m, m)]).length + (inS rs (m + b) s.2).length ≤ 200; rw [List.length_append, List.length_append, List.length_singleton]; omega)
        refine ⟨T1 ++ ((m, m) :: T2), ?_, ?_, ?_, ?_⟩
        ·have hh := SpR.root (o1 := out ++ T1) (o2 := out ++ T1 ++ [(m, m)] ++ T2) y1 y2 hc0 hc1 hMZ ym (by rw [hm]; exact (hE.zero m).2 hmr) (by rw [hm]; exact hN) p1 (by rw [List.length_append]; omega) (by rw [hm]; exact p2)
         have e : out ++ (T1 ++ ((m, m) :: T2)) = out ++ T1 ++ [(m, m)] ++ T2 := by simp
         rw [e]; exact hh
        ·rw [← hL, hcut]
         refine Row.app (m := m - b) ?_ r1
         exact ⟨by show m - b ≤ m; grind, by show m ≤ m; grind, ⟨hmr, .inl rfl⟩, r2.lower (by show m ≤ m + b; grind)⟩
        ·intro t ht
         rcases List.mem_append.1 ht with h | h
         ·exact s1 t h
         ·rcases List.mem_cons.1 h with rfl | h
          ·exact ⟨bm, bm⟩
          ·exact s2 t h
        ·intro t ht
         rcases List.mem_append.1 ht with h | h
         ·exact ⟨(w1 t h).1.to (by omega), (w1 t h).2.to (by omega)⟩
         ·rcases List.mem_cons.1 h with rfl | h
          ·exact ⟨zm.to (by omega), zm.to (by omega)⟩
          ·exact ⟨(w2 t h).1.to (by omega), (w2 t h).2.to (by omega)⟩
       ·have hcut : inS rs s.1 s.2 = inS rs s.1 m ++ inS rs m s.2 := inS_cut (by grind) (by grind) hE.sort hmr
        have hlen2 : (inS rs s.1 s.2).length = (inS rs s.1 m).length + (inS rs m s.2).length := by rw [hcut, List.length_append]
        obtain ⟨T1, p1, r1, s1, w1⟩ := split_ex hE n (j + 1) (s.1, m) out hm1 h1 hmr hw1 z1.up zm (by omega) b1 bm (by show out.length + (inS rs s.1 m).length ≤ 200; omega)
        have hT1 : T1.length = (inS rs s.1 m).length := r1.len
        obtain ⟨T2, p2, r2, s2, w2⟩ := split_ex hE n (j + 1) (m, s.2) (out ++ T1) hm2 hmr h2 hw2 zm z2.up (by omega) bm b2 (by show (out ++ T1).length + (inS rs m s.2).length ≤ 200; rw [List.length_append]; omega)
        refine ⟨T1 ++ T2, ?_, ?_, ?_, ?_⟩
        ·have hh := SpR.two (o1 := out ++ T1) (o2 := out ++ T1 ++ T2) y1 y2 hc0 hc1 hMZ ym (by rw [hm]; exact fun h => hmr ((hE.zero m).1 h)) (by rw [hm]; exact p1) (by rw [hm]; exact p2)
         rw [← List.append_assoc]; exact hh
        ·rw [← hL, hcut]; exact Row.app r2 r1
        ·intro t ht
         rcases List.mem_append.1 ht with h | h
         ·exact s1 t h
         ·exact s2 t h
        ·intro t ht
         rcases List.mem_append.1 ht with h | h
         ·exact ⟨(w1 t h).1.to (by omega), (w1 t h).2.to (by omega)⟩
         ·exact ⟨(w2 t h).1.to (by omega), (w2 t h).2.to (by omega)⟩
end
section
variable {K : Nat} {cs : List Nums} {rs : List Rat} {σ M : Rat} {d J : Nat}
theorem Iso.in_ {t : Spn} {r : Rat} (h : Iso rs t r) : t.1 ≤ r ∧ r ≤ t.2 := by
 rcases h.2 with e | ⟨h1, h2, -⟩
 ·rw [e]; exact ⟨Rat.le_refl, Rat.le_refl⟩
 ·grind
theorem Iso.only {t : Spn} {r : Rat} (h : Iso rs t r) {q : Rat} (hq : q ∈ rs) (h1 : t.1 ≤ q) (h2 : q ≤ t.2) : q = r := by
 rcases h.2 with e | ⟨h3, h4, h5⟩
 ·rw [e] at h1 h2
  have h1 : r ≤ q := h1
  have h2 : q ≤ r := h2
  grind
 ·rcases Decidable.em (q = r) with e | e
  ·exact e
  ·have := h5 q hq e; grind
theorem halve_ok (hE : Env K cs rs σ M d J) {t : Spn} {r : Rat} (hi : Iso rs t r) {j : Nat} (z1 : Dz d j t.1) (z2 : Dz d j t.2) (hj : j + 1 ≤ J) (b1 : Bd M t.1) (b2 : Bd M t.2) :
  HvZ K cs t ∧ Iso rs (halveL cs t) r ∧ t.1 ≤ (halveL cs t).1 ∧ (halveL cs t).2 ≤ t.2 ∧ (halveL cs t).2 - (halveL cs t).1 ≤ (t.2 - t.1) * (1 / 2) ∧ Dz d (j + 1) (halveL cs t).1 ∧ Dz d (j + 1) (halveL cs t).2 ∧ Bd M (halveL cs t).1 ∧ Bd M (halveL cs t).2 := by
 have hin := hi.in_
 obtain ⟨m, hm⟩ : ∃ m, midQ t = m := ⟨_, rfl⟩
 have zm : Dz d (j + 1) m := by rw [← hm]; exact z1.mid z2
 have bm : Bd M m := by rw [← hm]; exact Bd.mid b1 b2
 have em : m + m = t.1 + t.2 := by rw [← hm]; unfold midQ; grind
 have hMZ : MidZ K t := ⟨hE.szr _ (z1.to (by omega)) (hE.M0 b1), hE.szr _ (z2.to (by omega)) (hE.M0 b2), hE.szr _ ((z1.add z2).to (by omega)) (by have := b1.nn; unfold Bd at *; grind), by rw [hm]; exact hE.szr _ (zm.to (by omega)) (hE.M0 bm)⟩
 have hv : HvZ K cs t := ⟨hMZ, hE.szc _ (z1.to (by omega)) b1, by rw [hm]; exact hE.szc _ (zm.to (by omega)) bm⟩
 refine ⟨hv, ?_⟩
 unfold halveL
 rw [hm]
 by_cases h0 : ev (cs.headD []) m = 0
 ·rw [if_pos h0]
  have hmr := (hE.zero m).1 h0
  have e : m = r := hi.only hmr (by grind) (by grind)
  refine ⟨⟨hi.1, .inl (by rw [e])⟩, by show t.1 ≤ m; grind, by show m ≤ t.2; grind, by show m - m ≤ _; grind, zm, zm, bm, bm⟩
 ·rw [if_neg h0]
  have hne : m ≠ r := fun e => h0 ((hE.zero m).2 (e ▸ hi.1))
  rcases hi.2 with e | ⟨h3, h4, h5⟩
  ·exfalso
   rw [e] at em
   apply hne
   have em : m + m = r + r := em
   grind
  have hc : CtR cs (t.1, m) = ((inS rs t.1 m).length : Int) := by rw [← cntC_len]; exact hE.cnt t.1 m (by grind)
  by_cases hr : r < m
  ·have e1 : inS rs t.1 m = [r] := inS_one (by grind) (by grind) hE.sort hi.1 fun q hq hne => by
    rcases h5 q hq hne with h | h
    ·exact .inl h
    ·exact .inr (by grind)
   rw [if_pos (by rw [hc, e1]; rfl)]
   refine ⟨⟨hi.1, .inr ⟨h3, hr, fun q hq hne => ?_⟩⟩, Rat.le_refl, by show m ≤ t.2; grind, by show m - t.1 ≤ _; grind, z1.to (by omega), zm, b1, bm⟩
   rcases h5 q hq hne with h | h
   ·exact .inl h
   ·exact .inr (by show m < q; grind)
  ·have e1 : inS rs t.1 m = [] := inS_none fun q hq hh => by
    have := hi.only hq hh.1 (by grind)
    grind
   rw [if_neg (by rw [hc, e1]; decide)]
   refine ⟨⟨hi.1, .inr ⟨by show m < r; grind, h4, fun q hq hne => ?_⟩⟩, by show t.1 ≤ m; grind, Rat.le_refl, by show t.2 - m ≤ _; grind, zm, z2.to (by omega), bm, b2⟩
   rcases h5 q hq hne with h | h
   ·exact .inl (by show q < m; grind)
   ·exact .inr h
theorem part_ex (hE : Env K cs rs σ M d J) : ∀ (k j : Nat) (a b : Spn) (p q : Rat), Iso rs a p → Iso rs b q → p < q → a.2 ≤ b.1 → (a.2 - a.1) + (b.2 - b.1) ≤ σ * 2 ^ k → Dz d j a.1 → Dz d j a.2 → Dz d j b.1 → Dz d j b.2 → j + k ≤ J →
  Bd M a.1 → Bd M a.2 → Bd M b.1 → Bd M b.2 →
  ∃ n a2 b2, PtR K cs n a b a2 b2 ∧ Iso rs a2 p ∧ Iso rs b2 q ∧ a2.2 < b2.1 ∧ a.1 ≤ a2.1 ∧ a2.2 ≤ a.2 ∧ b.1 ≤ b2.1 ∧ b2.2 ≤ b.2 ∧ Dz d (j + k) a2.1 ∧ Dz d (j + k) a2.2 ∧ Dz d (j + k) b2.1 ∧ Dz d (j + k) b2.2 ∧ Bd M a2.1 ∧ Bd M a2.2 ∧ Bd M b2.1 ∧ Bd M b2.2
 | k, j, a, b, p, q, ha, hb, hpq, hab, hw, za1, za2, zb1, zb2, hj, ba1, ba2, bb1, bb2 => by
   have r1 : Rz K a.2 := hE.szr _ (za2.to (by omega)) (hE.M0 ba2)
   have r2 : Rz K b.1 := hE.szr _ (zb1.to (by omega)) (hE.M0 bb1)
   by_cases hlt : a.2 < b.1
   ·exact ⟨0, a, b, .stop r1 r2 hlt, ha, hb, hlt, Rat.le_refl, Rat.le_refl, Rat.le_refl, Rat.le_refl, za1.to (by omega), za2.to (by omega), zb1.to (by omega), zb2.to (by omega), ba1, ba2, bb1, bb2⟩
   ·match k, hw, hj with
    | 0, hw, hj =>
      exfalso
      have e : σ * 2 ^ 0 = σ := by rw [Rat.pow_zero]; grind
      rw [e] at hw
      have := hE.sep p ha.1 q hb.1 hpq
      have := ha.in_; have := hb.in_
      grind
    | k + 1, hw, hj =>
      have e2 : σ * 2 ^ (k + 1) = σ * 2 ^ k * 2 := by rw [Rat.pow_succ]; grind
      rw [e2] at hw
      obtain ⟨va, ia, la1, la2, wa, ya1, ya2, ma1, ma2⟩ := halve_ok hE ha za1 za2 (by omega) ba1 ba2
      obtain ⟨vb, ib, lb1, lb2, wb, yb1, yb2, mb1, mb2⟩ := halve_ok hE hb zb1 zb2 (by omega) bb1 bb2
      obtain ⟨n, a2, b2, h1, h2, h3, h4, h5, h6, h7, h8, h9, h10, h11, h12, h13⟩ := part_ex hE k (j + 1) _ _ p q ia ib hpq (by grind) (by grind) ya1 ya2 yb1 yb2 (by omega) ma1 ma2 mb1 mb2
      have ej : j + (k + 1) = j + 1 + k := by omega
      rw [ej]
      exact ⟨n + 1, a2, b2, .step r1 r2 (by grind) va vb h1, h2, h3, h4, by grind, by grind, by grind, by grind, h9, h10, h11, h12, h13⟩
def sx (l : List Spn) (i : Nat) : Spn := l.getD i (0, 0)
def qx (l : List Rat) (i : Nat) : Rat := l.getD i 0
theorem sx_get {l : List Spn} {i : Nat} (h : i < l.length) : l[i]? = some (sx l i) := by
 unfold sx; rw [List.getD_eq_getElem?_getD, List.getElem?_eq_getElem h]; rfl
theorem sx_set {l : List Spn} {i j : Nat} {v : Spn} (h : i < l.length) : sx (l.set i v) j = if j = i then v else sx l j := by
 unfold sx
 rw [List.getD_eq_getElem?_getD, List.getD_eq_getElem?_getD, List.getElem?_set]
 by_cases e : i = j
 ·subst e; rw [if_pos rfl, if_pos h, if_pos rfl]; rfl
 ·rw [if_neg e, if_neg (fun h => e h.symm)]
structure Prt (rs : List Rat) (M : Rat) (d j i : Nat) (l : List Spn) (qs : List Rat) : Prop where
 len : l.length = qs.length
 iso : ∀ k, k < l.length → Iso rs (sx l k) (qx qs k)
 asc : ∀ k, k + 1 < l.length → qx qs k < qx qs (k + 1)
 row : ∀ k, k + 1 < l.length → (sx l k).2 ≤ (sx l (k + 1)).1
 prt : ∀ k, k + 1 < l.length → k < i → (sx l k).2 < (sx l (k + 1)).1
 bd : ∀ k, k < l.length → Bd M (sx l k).1 ∧ Bd M (sx l k).2
 dz : ∀ k, k < l.length → Dz d j (sx l k).1 ∧ Dz d j (sx l k).2
theorem fix_ex (hE : Env K cs rs σ M d J) {k : Nat} (hk : 4 * M ≤ σ * 2 ^ k) : ∀ (n i j : Nat) (l : List Spn) (qs : List Rat), Prt rs M d j i l qs → l.length ≤ n + (i + 1) → j + n * k ≤ J →
  ∃ l2, FxR K cs (i + 1) l l2 ∧ Prt rs M d (j + n * k) l2.length l2 qs
 | 0, i, j, l, qs, h, hn, hj => by
   refine ⟨l, .stop (by omega), ⟨h.len, h.iso, h.asc, h.row, fun a ha _ => h.prt a ha (by omega), h.bd, ?_⟩⟩
   rw [Nat.zero_mul, Nat.add_zero]; exact h.dz
 | n + 1, i, j, l, qs, h, hn, hj => by
   have en : j + (n + 1) * k = j + k + n * k := by rw [Nat.add_mul]; omega
   by_cases hi : i + 1 < l.length
   ·have hi0 : i < l.length := by omega
    obtain ⟨ba1, ba2⟩ := h.bd i hi0
    obtain ⟨bb1, bb2⟩ := h.bd (i + 1) hi
    obtain ⟨za1, za2⟩ := h.dz i hi0
    obtain ⟨zb1, zb2⟩ := h.dz (i + 1) hi
    have hM := ba1.nn
    obtain ⟨n1, a2, b2, h1, h2, h3, h4, h5, h6, h7, h8, h9, h10, h11, h12, h13, h14, h15, h16⟩ := part_ex hE k j _ _ _ _ (h.iso i hi0) (h.iso (i + 1) hi) (h.asc i hi) (h.row i hi) (by unfold Bd at *; grind) za1 za2 zb1 zb2 (by omega) ba1 ba2 bb1 bb2
    have hl2 : ((l.set i a2).set (i + 1) b2).length = l.length := by rw [List.length_set, List.length_set]
    have hsx : ∀ q, sx ((l.set i a2).set (i + 1) b2) q = if q = i + 1 then b2 else if q = i then a2 else sx l q := fun q => by
     rw [sx_set (by rw [List.length_set]; exact hi), sx_set hi0]
    have hP : Prt rs M d (j + k) (i + 1) ((l.set i a2).set (i + 1) b2) qs := by
     refine ⟨by rw [hl2]; exact h.len, ?_, ?_, ?_, ?_, ?_, ?_⟩
     ·intro q hq
      rw [hl2] at hq
      rw [hsx]
      by_cases e1 : q = i + 1
      ·rw [if_pos e1, e1]; exact h3
      ·rw [if_neg e1]
       by_cases e2 : q = i
       ·rw [if_pos e2, e2]; exact h2
       ·rw [if_neg e2]; exact h.iso q hq
     ·intro q hq; rw [hl2] at hq; exact h.asc q hq
     ·intro q hq
      rw [hl2] at hq
      have hr := h.row q hq
      rw [hsx, hsx]
      by_cases e1 : q = i + 1
      ·subst e1
       rw [if_pos rfl, if_neg (by omega), if_neg (by omega)]; grind
      ·rw [if_neg e1]
       by_cases e2 : q = i
       ·subst e2; rw [if_pos rfl, if_pos rfl]; grind
       ·rw [if_neg e2, if_neg (show q + 1 ≠ i + 1 by omega)]
        by_cases e3 : q + 1 = i
        ·rw [if_pos e3]; rw [e3] at hr; grind
        ·rw [if_neg e3]; exact hr
     ·intro q hq hqi
      rw [hl2] at hq
      rw [hsx, hsx, if_neg (show q ≠ i + 1 by omega)]
      by_cases e2 : q = i
      ·subst e2; rw [if_pos rfl, if_pos rfl]; exact h4
      ·have hr := h.prt q hq (by omega)
       rw [if_neg e2, if_neg (show q + 1 ≠ i + 1 by omega)]
       by_cases e3 : q + 1 = i
       ·rw [if_pos e3]; rw [e3] at hr; grind
       ·rw [if_neg e3]; exact hr
     ·intro q hq
      rw [hl2] at hq
      rw [hsx]
      by_cases e1 : q = i + 1
      ·rw [if_pos e1]; exact ⟨h15, h16⟩
      ·rw [if_neg e1]
       by_cases e2 : q = i
       ·rw [if_pos e2]; exact ⟨h13, h14⟩
       ·rw [if_neg e2]; exact h.bd q hq
     ·intro q hq
      rw [hl2] at hq
      rw [hsx]
      by_cases e1 : q = i + 1
      ·rw [if_pos e1]; exact ⟨h11, h12⟩
      ·rw [if_neg e1]
       by_cases e2 : q = i
       ·rw [if_pos e2]; exact ⟨h9, h10⟩
       ·rw [if_neg e2]; exact ⟨(h.dz q hq).1.to (by omega), (h.dz q hq).2.to (by omega)⟩
    obtain ⟨l2, f1, f2⟩ := fix_ex hE hk n (i + 1) (j + k) _ qs hP (by rw [hl2]; omega) (by omega)
    refine ⟨l2, .step hi (sx_get hi0) (sx_get hi) h1 f1, ?_⟩
    rw [en]; exact f2
   ·refine ⟨l, .stop (by omega), ⟨h.len, h.iso, h.asc, h.row, fun a ha _ => h.prt a ha (by omega), h.bd, fun a ha => ?_⟩⟩
    exact ⟨(h.dz a ha).1.to (by omega), (h.dz a ha).2.to (by omega)⟩
theorem Row.prt : ∀ {T : List Spn} {qs : List Rat} {lo hi : Rat}, Row rs lo hi T qs → qs.Pairwise (· < ·) → (∀ k, k < T.length → Iso rs (sx T k) (qx qs k)) ∧ (∀ k, k + 1 < T.length → qx qs k < qx qs (k + 1) ∧ (sx T k).2 ≤ (sx T (k + 1)).1) ∧ (∀ k, k < T.length → lo ≤ (sx T k).1)
 | [], [], lo, hi, h, _ => ⟨fun k hk => absurd hk (Nat.not_lt_zero _), fun k hk => absurd hk (Nat.not_lt_zero _), fun k hk => absurd hk (Nat.not_lt_zero _)⟩
 | t :: T, q :: qs, lo, hi, h, hp => by
   obtain ⟨h1, h2, h3, h4⟩ := h
   have hp' := List.pairwise_cons.1 hp
   obtain ⟨i1, i2, i3⟩ := Row.prt h4 hp'.2
   have hl := h4.len
   refine ⟨fun k hk => ?_, fun k hk => ?_, fun k hk => ?_⟩
   ·cases k with
    | zero => exact h3
    | succ k => exact i1 k (by simpa using hk)
   ·cases k with
    | zero =>
      have hk0 : 0 < T.length := by simpa using hk
      refine ⟨hp'.1 _ ?_, i3 0 hk0⟩
      have : qx (q :: qs) (0 + 1) = qx qs 0 := rfl
      rw [this]
      unfold qx
      rw [List.getD_eq_getElem?_getD, List.getElem?_eq_getElem (by omega)]
      exact List.getElem_mem _
    | succ k => exact i2 k (by simpa using hk)
   ·cases k with
    | zero => exact h1
    | succ k => have := i3 k (by simpa using hk); exact Rat.le_trans h1 (Rat.le_trans h2 this)
 | [], _ :: _, _, _, h, _ => h.elim
 | _ :: _, [], _, _, h, _ => h.elim
inductive FnR (K : Nat) (cs : List Nums) (wd : Rat) : Nat → Spn → Spn → Prop
 | stop {t : Spn} (h1 : Rz K t.1) (h2 : Rz K t.2) (h3 : Rz K (t.2 - t.1)) (h : t.2 - t.1 ≤ wd) : FnR K cs wd 0 t t
 | step {n : Nat} {t t2 : Spn} (h1 : Rz K t.1) (h2 : Rz K t.2) (h3 : Rz K (t.2 - t.1)) (h : wd < t.2 - t.1) (hv : HvZ K cs t) (hr : FnR K cs wd n (halveL cs t) t2) : FnR K cs wd (n + 1) t t2
theorem fine_ex (hE : Env K cs rs σ M d J) {wd : Rat} : ∀ (k j : Nat) (t : Spn) (r : Rat), Iso rs t r → t.2 - t.1 ≤ wd * 2 ^ k → Dz d j t.1 → Dz d j t.2 → j + k ≤ J → Bd M t.1 → Bd M t.2 → ∃ n t2, FnR K cs wd n t t2 ∧ Iso rs t2 r ∧ t2.2 - t2.1 ≤ wd ∧ Rz K t2.1 ∧ Rz K t2.2
 | k, j, t, r, hi, hw, z1, z2, hj, b1, b2 => by
   have y1 := hE.szr _ (z1.to (show j ≤ J by omega)) (hE.M0 b1)
   have y2 := hE.szr _ (z2.to (show j ≤ J by omega)) (hE.M0 b2)
   have y3 := hE.szr _ ((z2.sub z1).to (show j ≤ J by omega)) (by have := b1.nn; unfold Bd at *; grind)
   by_cases hlt : t.2 - t.1 ≤ wd
   ·exact ⟨0, t, .stop y1 y2 y3 hlt, hi, hlt, y1, y2⟩
   ·match k, hw, hj with
    | 0, hw, hj =>
      exfalso
      have e : wd * 2 ^ 0 = wd := by rw [Rat.pow_zero]; grind
      rw [e] at hw; grind
    | k + 1, hw, hj =>
      have e2 : wd * 2 ^ (k + 1) = wd * 2 ^ k * 2 := by rw [Rat.pow_succ]; grind
      rw [e2] at hw
      obtain ⟨va, ia, la1, la2, wa, ya1, ya2, ma1, ma2⟩ := halve_ok hE hi z1 z2 (by omega) b1 b2
      obtain ⟨n, t2, h1, h2, h3, h4⟩ := fine_ex hE (wd := wd) k (j + 1) _ r ia (by grind) ya1 ya2 (by omega) ma1 ma2
      exact ⟨n + 1, t2, .step y1 y2 y3 (by grind) va h1, h2, h3, h4⟩
end
def gz (a b r : Nat) : Nat := 2 ^ r * (a + 2 * b + 1)
theorem gz_succ (a b r : Nat) : gz (2 * a + 2 * b + 1) b r = gz a b (r + 1) := by
 unfold gz; rw [Nat.pow_succ, Nat.mul_assoc]; congr 1; omega
theorem gz_ge (a b r : Nat) : a + 2 * b + 1 ≤ gz a b r := Nat.le_mul_of_pos_left _ (Nat.two_pow_pos r)
theorem gz_two (a b r : Nat) : 2 * a + 4 * b + 2 ≤ gz a b (r + 1) := by
 rw [← gz_succ]; have := gz_ge (2 * a + 2 * b + 1) b r; omega
theorem sub_mem (b : Rat) : ∀ (k : Nat) (rest q : Ply), ∀ c ∈ subL b k rest q, c ∈ rest ∨ ∃ u ∈ rest, ∃ v ∈ q, c = u - b * v
 | k, rest, [], c, h => by
   have : subL b k rest [] = rest := by cases k <;> cases rest <;> rfl
   rw [this] at h; exact .inl h
 | 0, r :: rest, a :: q, c, h => by
   have h : c ∈ (r - b * a) :: subL b 0 rest q := h
   rcases List.mem_cons.1 h with e | h
   ·exact .inr ⟨r, List.mem_cons_self, a, List.mem_cons_self, e⟩
   ·rcases sub_mem b 0 rest q c h with h | ⟨u, hu, v, hv, e⟩
    ·exact .inl (List.mem_cons_of_mem _ h)
    ·exact .inr ⟨u, List.mem_cons_of_mem _ hu, v, List.mem_cons_of_mem _ hv, e⟩
 | k + 1, r :: rest, a :: q, c, h => by
   have h : c ∈ r :: subL b k rest (a :: q) := h
   rcases List.mem_cons.1 h with e | h
   ·exact .inl (e ▸ List.mem_cons_self)
   ·rcases sub_mem b k rest (a :: q) c h with h | ⟨u, hu, v, hv, e⟩
    ·exact .inl (List.mem_cons_of_mem _ h)
    ·exact .inr ⟨u, List.mem_cons_of_mem _ hu, v, hv, e⟩
 | 0, [], a :: q, c, h => by simp [subL] at h
 | k + 1, [], a :: q, c, h => by simp [subL] at h
theorem last_of {q : Ply} (h0 : q ≠ []) : ∃ d, q.getLast? = some d := ⟨_, List.getLast?_eq_some_getLast h0⟩
theorem Tr.lead {q : Ply} (hq : Tr q) (h0 : q ≠ []) : q.getLast?.getD 0 ≠ 0 := by
 obtain ⟨d, hd⟩ := last_of h0
 rw [hd]; exact hq d hd
theorem step_short {q rest : Ply} (hq0 : q ≠ []) (hq : Tr q) (h : q.length ≤ rest.length) : (trimL (subL (leadB rest q) (rest.length - q.length) rest q)).length < rest.length := by
 have hr0 : rest ≠ [] := fun e => by
  rw [e] at h
  exact hq0 (List.eq_nil_of_length_eq_zero (by simpa using h))
 obtain ⟨d, hd⟩ := last_of hq0
 obtain ⟨c, hc⟩ := last_of hr0
 have h1 := sub_last (leadB rest q) (rest.length - q.length) rest q c d (by omega) hc hd
 have h2 : c - leadB rest q * d = 0 := by
  unfold leadB
  rw [hc, hd]
  show c - c / d * d = 0
  have : c / d * d = c := Rat.div_mul_cancel (hq d hd)
  rw [this]; grind
 rw [h2] at h1
 have h3 := trim_short h1
 rwa [sub_len _ _ _ _ (by omega)] at h3
theorem divL_fuel {q : Ply} (hq0 : q ≠ []) (hq : Tr q) : ∀ (r n : Nat) (by_ rest : Ply), rest.length < r + q.length → r ≤ n → divL q n by_ rest = divL q r by_ rest
 | 0, n, by_, rest, h, _ => by
   cases n with
   | zero => rfl
   | succ n =>
     show (if q.length ≤ rest.length then _ else _) = _
     rw [if_neg (by omega)]; rfl
 | r + 1, n, by_, rest, h, hn => by
   obtain ⟨n, rfl⟩ : ∃ m, n = m + 1 := ⟨n - 1, by omega⟩
   show (if q.length ≤ rest.length then divL q n (by_.set (rest.length - q.length) (leadB rest q)) (trimL (subL (leadB rest q) (rest.length - q.length) rest q)) else (by_, rest)) = if q.length ≤ rest.length then divL q r (by_.set (rest.length - q.length) (leadB rest q)) (trimL (subL (leadB rest q) (rest.length - q.length) rest q)) else (by_, rest)
   by_cases hl : q.length ≤ rest.length
   ·rw [if_pos hl, if_pos hl]
    exact divL_fuel hq0 hq r n _ _ (by have := step_short hq0 hq hl; omega) (by omega)
   ·rw [if_neg hl, if_neg hl]
theorem Qz.set' {k : Nat} {p : Nums} {i : Nat} {v : Rat} (h : Qz k p) (hv : Rz k v) : Qz k (p.set i v) := fun c hc => by
 rcases List.mem_or_eq_of_mem_set hc with h1 | h1
 ·exact h c h1
 ·rw [h1]; exact hv
theorem trim_mem : ∀ (p : Nums), ∀ c ∈ trimL p, c ∈ p
 | [], c, h => h
 | a :: p, c, h => by
   have ih := trim_mem p
   unfold trimL at h
   split at h
   ·split at h
    ·cases h
    ·rw [List.mem_singleton.1 h]; exact List.mem_cons_self
   ·rename_i t e
    rcases List.mem_cons.1 h with e | h
    ·exact e ▸ List.mem_cons_self
    ·exact List.mem_cons_of_mem _ (ih c (by rw [e]; exact h))
theorem Qz.trim' {K : Nat} {p : Nums} (h : Qz K p) : Qz K (trimL p) := fun c hc => h c (trim_mem p c hc)
theorem Qz.mo {k l : Nat} {p : Nums} (h : Qz k p) (hk : k ≤ l) : Qz l p := fun c hc => (h c hc).more hk
theorem Qz.last {K : Nat} {p : Nums} (h : Qz K p) (hK : 1 ≤ K) : Rz K (p.getLast?.getD 0) := by
 cases e : p.getLast? with
 | none => exact Rz.zr.more hK
 | some d => exact h d (List.mem_of_getLast? e)
theorem dv_ex {K b : Nat} {q : Ply} (hq0 : q ≠ []) (hq : Tr q) (zq : Qz b q) (hb1 : 1 ≤ b) : ∀ (r a : Nat) (by_ rest : Ply), 1 ≤ a → Qz a rest → rest.length < r + q.length → Qz (gz a b r) by_ → gz a b r ≤ K →
  ∃ m, DvR K q m by_ rest (divL q r by_ rest).1 (divL q r by_ rest).2 ∧ Qz (gz a b r) (divL q r by_ rest).1 ∧ Qz (gz a b r) (divL q r by_ rest).2
 | 0, a, by_, rest, ha, zr, hl, zb, hK => by
   have := gz_ge a b 0
   exact ⟨0, .stop (zr.mo (by omega)) (by omega), zb, zr.mo (by omega)⟩
 | r + 1, a, by_, rest, ha, zr, hl, zb, hK => by
   have g1 := gz_ge a b (r + 1)
   have g2 := gz_two a b r
   by_cases h : q.length ≤ rest.length
   ·have e : divL q (r + 1) by_ rest = divL q r (by_.set (rest.length - q.length) (leadB rest q)) (trimL (subL (leadB rest q) (rest.length - q.length) rest q)) := if_pos h
    rw [e]
    obtain ⟨b0, hb0⟩ : ∃ b0, leadB rest q = b0 := ⟨_, rfl⟩
    have zb0 : Rz (a + b) b0 := by rw [← hb0]; exact (zr.last ha).div (zq.last hb1) (hq.lead hq0)
    have zbc : ∀ c ∈ q, Rz (a + b + b) (b0 * c) := fun c hc => zb0.mul (zq c hc)
    have zs : Qz (2 * a + 2 * b + 1) (subL b0 (rest.length - q.length) rest q) := fun c hc => by
     rcases sub_mem _ _ _ _ c hc with h | ⟨u, hu, v, hv, e⟩
     ·exact (zr c h).more (by omega)
     ·rw [e]; exact ((zr u hu).sub1 (zbc v hv)).more (by omega)
    have hsh := step_short hq0 hq h
    rw [hb0] at hsh ⊢
    obtain ⟨m, h1, h2, h3⟩ := dv_ex (K := K) hq0 hq zq hb1 r (2 * a + 2 * b + 1) (by_.set (rest.length - q.length) b0) (trimL (subL b0 (rest.length - q.length) rest q)) (by omega) zs.trim' (by omega) (by rw [gz_succ]; exact zb.set' (zb0.more (by omega))) (by rw [gz_succ]; exact hK)
    rw [gz_succ] at h2 h3
    exact ⟨m + 1, .step (zr.mo (by omega)) h hb0 (zb0.more (by omega)) (fun c hc => (zbc c hc).more (by omega)) (zs.mo (by omega)) h1, h2, h3⟩
   ·have e : divL q (r + 1) by_ rest = (by_, rest) := if_neg h
    rw [e]
    exact ⟨0, .stop (zr.mo (by omega)) (by omega), zb, zr.mo (by omega)⟩
theorem div_ex {K a b r : Nat} {p q : Ply} (hq0 : q ≠ []) (hq : Tr q) (zp : Qz a p) (zq : Qz b q) (ha1 : 1 ≤ a) (hb1 : 1 ≤ b) (hl : (trimL p).length < r + q.length) (hK : gz a b r ≤ K) :
  DivR K p q (divideL p q).1 (divideL p q).2 ∧ Qz (gz a b r) (divideL p q).1 ∧ Qz (gz a b r) (divideL p q).2 := by
 have g1 := gz_ge a b r
 have hq1 : 1 ≤ q.length := by
  rcases Nat.eq_zero_or_pos q.length with h | h
  ·exact absurd (List.eq_nil_of_length_eq_zero h) hq0
  ·exact h
 -- the fuel does not matter
 have e : divideL p q = divL q r (zerosL ((trimL p).length + 1 - q.length)) (trimL p) := by
  unfold divideL
  rcases Nat.le_total r ((trimL p).length + 1) with h | h
  ·exact divL_fuel hq0 hq r _ _ _ hl h
  ·exact (divL_fuel hq0 hq _ r _ _ (by omega) h).symm
 have hz : Qz (gz a b r) (zerosL ((trimL p).length + 1 - q.length)) := fun c hc => by
  rw [(List.mem_replicate.1 hc).2]; exact Rz.zr.more (by omega)
 obtain ⟨m, h1, h2, h3⟩ := dv_ex hq0 hq zq hb1 r a _ (trimL p) ha1 zp.trim' hl hz hK
 rw [← e] at h1 h2 h3
 exact ⟨⟨zp.mo (by omega), zq.mo (by omega), hq0, hq.lead hq0, m, h1⟩, h2, h3⟩
theorem Rz.ab {k : Nat} {x : Rat} (h : Rz k x) : Rz k (absQ' x) := by unfold absQ'; split; exact h.neg; exact h
theorem scaled_z {s : Nat} {p : Ply} (hp : Tr p) (h0 : p ≠ []) (z : Qz s p) (hs : 1 ≤ s) : Qz (2 * s) (scaledL p) := fun c hc => by
 obtain ⟨u, hu, rfl⟩ := List.mem_map.1 hc
 have h1 : absQ' (p.getLast?.getD 0) ≠ 0 := by have := absQ'_pos (hp.lead h0); grind
 exact ((z u hu).div (z.last hs).ab h1).more (by omega)
theorem pot {s A B R : Nat} (hAB : B ≤ A) (hRB : R < B) (c : Nat) : (c * s * 2 ^ (A - B)) * 2 ^ B * c ^ R ≤ s * 2 ^ A * c ^ B ∨ c = 0 := by
 rcases Nat.eq_zero_or_pos c with h | h
 ·exact .inr h
 ·refine .inl ?_
  have e1 : 2 ^ (A - B) * 2 ^ B = 2 ^ A := by rw [← Nat.pow_add]; congr 1; omega
  have e2 : c * c ^ R ≤ c ^ B := by
   rw [← Nat.pow_succ']; exact Nat.pow_le_pow_right h hRB
  calc (c * s * 2 ^ (A - B)) * 2 ^ B * c ^ R = s * (2 ^ (A - B) * 2 ^ B) * (c * c ^ R) := by
        simp only [Nat.mul_assoc, Nat.mul_left_comm, Nat.mul_comm]
   _ = s * 2 ^ A * (c * c ^ R) := by rw [e1]
   _ ≤ s * 2 ^ A * c ^ B := Nat.mul_le_mul_left _ e2
theorem pot_ge {s A B : Nat} (hB : 0 < B) (c : Nat) (hc : 0 < c) : c * s * 2 ^ (A - B) ≤ s * 2 ^ A * c ^ B := by
 have e1 : 2 ^ (A - B) ≤ 2 ^ A := Nat.pow_le_pow_right (by omega) (by omega)
 have e2 : c ≤ c ^ B := by
  have := Nat.pow_le_pow_right hc (show 1 ≤ B from hB)
  rwa [Nat.pow_one] at this
 calc c * s * 2 ^ (A - B) = s * 2 ^ (A - B) * c := by simp only [Nat.mul_assoc, Nat.mul_left_comm, Nat.mul_comm]
  _ ≤ s * 2 ^ A * c ^ B := Nat.mul_le_mul (Nat.mul_le_mul_left _ e1) e2
theorem gz_le8 {s A B : Nat} (hs : 1 ≤ s) (h : B ≤ A) : gz s s (A + 1 - B) ≤ 8 * s * 2 ^ (A - B) := by
 unfold gz
 rw [show A + 1 - B = (A - B) + 1 by omega, Nat.pow_succ]
 have := Nat.mul_le_mul_left (2 ^ (A - B)) (show 2 * (s + 2 * s + 1) ≤ 8 * s by omega)
 calc 2 ^ (A - B) * 2 * (s + 2 * s + 1) = 2 ^ (A - B) * (2 * (s + 2 * s + 1)) := by rw [Nat.mul_assoc]
  _ ≤ 2 ^ (A - B) * (8 * s) := this
  _ = 8 * s * 2 ^ (A - B) := Nat.mul_comm _ _
theorem gz_le16 {s A B : Nat} (hs : 1 ≤ s) (h : B ≤ A) : gz s (2 * s) (A + 1 - B) ≤ 16 * s * 2 ^ (A - B) := by
 unfold gz
 rw [show A + 1 - B = (A - B) + 1 by omega, Nat.pow_succ]
 have := Nat.mul_le_mul_left (2 ^ (A - B)) (show 2 * (s + 2 * (2 * s) + 1) ≤ 16 * s by omega)
 calc 2 ^ (A - B) * 2 * (s + 2 * (2 * s) + 1) = 2 ^ (A - B) * (2 * (s + 2 * (2 * s) + 1)) := by rw [Nat.mul_assoc]
  _ ≤ 2 ^ (A - B) * (16 * s) := this
  _ = 16 * s * 2 ^ (A - B) := Nat.mul_comm _ _
theorem len_pos {b : Ply} (h : b ≠ []) : 0 < b.length := by
 rcases Nat.eq_zero_or_pos b.length with e | e
 ·exact absurd (List.eq_nil_of_length_eq_zero e) h
 ·exact e
theorem two_pw (n : Nat) (s : Nat) : s ≤ s * 2 ^ n := Nat.le_mul_of_pos_right _ (Nat.two_pow_pos n)
theorem gc_ex {K : Nat} : ∀ (n s : Nat) (a b : Ply), b.length < n → b.length < a.length → Tr a → Tr b → Qz s a → Qz s b → 1 ≤ s → s * 2 ^ a.length * 8 ^ b.length ≤ K →
  ∃ m, GcR K m a b (gcdL n a b) ∧ ∃ s', 1 ≤ s' ∧ Qz s' (gcdL n a b) ∧ s' * 2 ^ (gcdL n a b).length ≤ s * 2 ^ a.length * 8 ^ b.length
 | 0, s, a, b, h, _, _, _, _, _, _, _ => by omega
 | n + 1, s, a, b, h, hab, ta, tb, za, zb, hs, hK => by
   unfold gcdL
   by_cases h0 : b = []
   ·rw [if_pos h0]
    subst h0
    exact ⟨0, .stop, s, hs, za, by simp⟩
   ·rw [if_neg h0]
    have hb := len_pos h0
    obtain ⟨_, _, _, hst, hsl⟩ := scaled_ok tb h0
    obtain ⟨_, d2, d3⟩ := divide_ok a h0 tb
    have g8 := gz_le8 (A := a.length) hs (Nat.le_of_lt hab)
    have pg := pot_ge (s := s) (A := a.length) hb 8 (by omega)
    obtain ⟨D1, -, D3⟩ := div_ex (K := K) (r := a.length + 1 - b.length) h0 tb za zb hs hs (by rw [trim_id ta]; omega) (by omega)
    have h2s : 2 * s ≤ 8 * s * 2 ^ (a.length - b.length) := Nat.le_trans (by omega) (two_pw _ (8 * s))
    have pt := (pot (s := s) (Nat.le_of_lt hab) d2 8).resolve_right (by omega)
    obtain ⟨m, m1, s', m2, m3, m4⟩ := gc_ex (K := K) n (8 * s * 2 ^ (a.length - b.length)) (scaledL b) (divideL a b).2 (by omega) (by omega) hst d3 ((scaled_z tb h0 zb hs).mo h2s) (D3.mo g8) (by omega) (by rw [hsl]; omega)
    rw [hsl] at m4
    exact ⟨m + 1, .step h0 D1 m1, s', m2, m3, by omega⟩
theorem ch_ex {K : Nat} : ∀ (n s : Nat) (a b : Ply), b.length < n → b.length < a.length → Tr a → Tr b → Qz s a → Qz s b → 1 ≤ s → s * 2 ^ a.length * 16 ^ b.length ≤ K →
  ∃ m, m ≤ n ∧ ChR K m a b (chainL n a b) ∧ ∀ c ∈ chainL n a b, Qz K c ∧ c.length ≤ b.length
 | 0, s, a, b, h, _, _, _, _, _, _, _ => by omega
 | n + 1, s, a, b, h, hab, ta, tb, za, zb, hs, hK => by
   unfold chainL
   by_cases h0 : b = []
   ·rw [if_pos h0]
    subst h0
    exact ⟨0, by omega, .stop, fun c hc => nomatch hc⟩
   ·rw [if_neg h0]
    have hb := len_pos h0
    obtain ⟨_, _, _, hst, hsl⟩ := scaled_ok tb h0
    have hs0 : scaledL b ≠ [] := fun e => by rw [e] at hsl; simp at hsl; omega
    obtain ⟨_, d2, d3⟩ := divide_ok a hs0 hst
    have g16 := gz_le16 (A := a.length) hs (Nat.le_of_lt hab)
    have pg := pot_ge (s := s) (A := a.length) hb 16 (by omega)
    have z2 := scaled_z tb h0 zb hs
    obtain ⟨D1, -, D3⟩ := div_ex (K := K) (r := a.length + 1 - b.length) hs0 hst za z2 hs (by omega) (by rw [trim_id ta, hsl]; omega) (by omega)
    have h2s : 2 * s ≤ 16 * s * 2 ^ (a.length - b.length) := Nat.le_trans (by omega) (two_pw _ (16 * s))
    rw [hsl] at d2
    have pt := (pot (s := s) (Nat.le_of_lt hab) d2 16).resolve_right (by omega)
    have hnl : (negL (divideL a (scaledL b)).2).length = (divideL a (scaledL b)).2.length := by unfold negL; rw [List.length_map]
    have zn : Qz (16 * s * 2 ^ (a.length - b.length)) (negL (divideL a (scaledL b)).2) := fun c hc => by
     obtain ⟨u, hu, rfl⟩ := List.mem_map.1 hc
     exact ((D3 u hu).more g16).neg
    obtain ⟨m, m1, m2, m3⟩ := ch_ex (K := K) n (16 * s * 2 ^ (a.length - b.length)) (scaledL b) (negL (divideL a (scaledL b)).2) (by omega) (by omega) hst (neg_tr d3) (z2.mo h2s) zn (by omega) (by rw [hsl, hnl]; omega)
    refine ⟨m + 1, by omega, .step h0 (zb.mo (by omega)) (tb.lead h0) D1 (D3.mo (by omega)) m2, fun c hc => ?_⟩
    rcases List.mem_cons.1 hc with rfl | hc
    ·exact ⟨z2.mo (by omega), by omega⟩
    ·obtain ⟨c1, c2⟩ := m3 c hc
     exact ⟨c1, by omega⟩
def Cop (f g : Rat → Rat) : Prop := ∃ u v, PF u ∧ PF v ∧ ∀ x, u x * f x + v x * g x = 1
theorem PF.ext {f g : Rat → Rat} (h : PF f) (e : ∀ x, g x = f x) : PF g := by
 obtain ⟨p, hp⟩ := h
 exact ⟨p, fun x => by rw [e, hp]⟩
theorem Cop.comm {f g : Rat → Rat} (h : Cop f g) : Cop g f := by
 obtain ⟨u, v, pu, pv, e⟩ := h
 exact ⟨v, u, pv, pu, fun x => by have := e x; grind⟩
theorem Cop.ext {f g f' g' : Rat → Rat} (h : Cop f g) (e1 : ∀ x, f' x = f x) (e2 : ∀ x, g' x = g x) : Cop f' g' := by
 obtain ⟨u, v, pu, pv, e⟩ := h
 exact ⟨u, v, pu, pv, fun x => by rw [e1, e2]; exact e x⟩
theorem Cop.mul {f g h : Rat → Rat} (pf : PF f) (pg : PF g) (ph : PF h) (h1 : Cop f h) (h2 : Cop g h) : Cop (fun x => f x * g x) h := by
 obtain ⟨u, v, pu, pv, e⟩ := h1
 obtain ⟨u', v', pu', pv', e'⟩ := h2
 refine ⟨fun x => u x * u' x, fun x => u x * f x * v' x + (v x * (u' x * g x) + v x * (v' x * h x)), pu.mul pu', ((pu.mul pf).mul pv').add ((pv.mul (pu'.mul pg)).add (pv.mul (pv'.mul ph))), fun x => ?_⟩
 have e1 := e x; have e2 := e' x
 have e3 : (u x * f x + v x * h x) * (u' x * g x + v' x * h x) = 1 := by rw [e1, e2]; grind
 grind
theorem Cop.add {f h k : Rat → Rat} (h1 : Cop f h) (pk : PF k) : Cop f (fun x => h x + f x * k x) := by
 obtain ⟨u, v, pu, pv, e⟩ := h1
 refine ⟨fun x => u x + (-1) * (v x * k x), v, pu.add ((pv.mul pk).scl (-1)), pv, fun x => ?_⟩
 have := e x; grind
theorem Cop.scl {f g : Rat → Rat} (h : Cop f g) {c : Rat} (hc : c ≠ 0) : Cop f (fun x => c * g x) := by
 obtain ⟨u, v, pu, pv, e⟩ := h
 have ec : 1 / c * c = 1 := Rat.div_mul_cancel hc
 refine ⟨u, fun x => (1 / c) * v x, pu, pv.scl _, fun x => ?_⟩
 have := e x
 generalize 1 / c = z at *
 have e2 : z * v x * (c * g x) = (z * c) * (v x * g x) := by grind
 rw [e2, ec]; grind
theorem fac_lin (r : Rat) : ∀ p : Ply, ∃ H : Ply, ∀ x, ev p x = ev p r + (x - r) * ev H x
 | [] => ⟨[], fun x => by rw [ev_nil, ev_nil]; grind⟩
 | c :: p => by
   obtain ⟨H, h⟩ := fac_lin r p
   refine ⟨ev p r :: H, fun x => ?_⟩
   rw [ev_cons, ev_cons, ev_cons, h x]; grind
theorem PF.lin (r : Rat) : PF (fun x => x - r) := ⟨[-r, 1], fun x => by rw [ev_cons, ev_cons, ev_nil]; grind⟩
theorem cop_lin {g : Ply} {r : Rat} (h : ev g r ≠ 0) : Cop (fun x => x - r) (ev g) := by
 obtain ⟨H, hH⟩ := fac_lin r g
 have ec : 1 / ev g r * ev g r = 1 := Rat.div_mul_cancel h
 refine ⟨fun x => (-(1 / ev g r)) * ev H x, fun x => (1 / ev g r) * 1, (PF.ev H).scl _, (PF.con 1).scl _, fun x => ?_⟩
 have := hH x
 generalize 1 / ev g r = z at *
 rw [this]
 grind
theorem ev_lin (r x : Rat) : ev [-r, 1] x = x - r := by rw [ev_cons, ev_cons, ev_nil]; grind
theorem evd_lin (r x : Rat) : evd [-r, 1] x = 1 := by rw [evd_cons, evd_cons, evd_nil, ev_cons, ev_nil]; grind
theorem cop_prd {W : Ply} (hW : Cop (ev W) (evd W)) (hW0 : ∀ x, ev W x ≠ 0) : ∀ (rs : List Rat), rs.Nodup → Cop (ev (mulL W (prdL rs))) (evd (mulL W (prdL rs)))
 | [], _ => by
   have e1 : ∀ x, ev (mulL W (prdL [])) x = ev W x := fun x => by rw [ev_mul]; show _ * ev [1] x = _; rw [ev_cons, ev_nil]; grind
   exact hW.ext e1 (evd_ext e1)
 | r :: l, hn => by
   have hn' := List.nodup_cons.1 hn
   obtain ⟨Q, hQ⟩ : ∃ Q, mulL W (prdL l) = Q := ⟨_, rfl⟩
   have ih := cop_prd hW hW0 l hn'.2
   rw [hQ] at ih
   have h0 : ev Q r ≠ 0 := by
    rw [← hQ, ev_mul, ev_prd]
    intro e
    rcases Rat.mul_eq_zero.1 e with h | h
    ·exact hW0 r h
    ·exact hn'.1 (prd_zero.1 h)
   have e1 : ∀ x, ev (mulL W (prdL (r :: l))) x = ev (mulL Q [-r, 1]) x := fun x => by
    rw [ev_mul, ev_mul, ev_prd, prd_cons, ← hQ, ev_mul, ev_prd, ev_lin]; grind
   have e2 : ∀ x, evd (mulL W (prdL (r :: l))) x = evd Q x * (x - r) + ev Q x := fun x => by
    rw [evd_ext e1, evd_mul, ev_lin, evd_lin]; grind
   have hl : Cop (ev Q) (fun x => x - r) := (cop_lin h0).comm
   have pQ := PF.ev Q
   have pd : PF (evd Q) := (PF.ev (deriveL Q)).ext fun x => (ev_derive Q x).symm
   -- with Q
   have c1 : Cop (ev Q) (fun x => evd Q x * (x - r) + ev Q x * (fun _ => (1 : Rat)) x) := ((ih.comm.mul pd (PF.lin r) pQ hl.comm).comm).add (PF.con 1)
   -- with x - r
   have c2 : Cop (fun x => x - r) (fun x => ev Q x + (x - r) * evd Q x) := (cop_lin h0).add pd
   have pP : PF (fun x => evd Q x * (x - r) + ev Q x) := (pd.mul (PF.lin r)).add pQ
   have c3 := Cop.mul pQ (PF.lin r) pP (c1.ext (fun _ => rfl) fun x => by grind) (c2.ext (fun _ => rfl) fun x => by grind)
   exact c3.ext (fun x => by rw [e1, ev_mul, ev_lin]) e2
theorem cop_two {S : Ply} {r : Rat} (hS : Cop (ev S) (evd S)) (h0 : ev S r ≠ 0) : Cop (fun x => (x - r) * ev S x) (fun x => 2 * ev S x + (x - r) * evd S x) := by
 have pS := PF.ev S
 have pd : PF (evd S) := (PF.ev (deriveL S)).ext fun x => (ev_derive S x).symm
 have hl : Cop (ev S) (fun x => x - r) := (cop_lin h0).comm
 have c1 : Cop (ev S) (fun x => (x - r) * evd S x + ev S x * (fun _ => (2 : Rat)) x) := ((hl.comm.mul (PF.lin r) pd pS hS.comm).comm).add (PF.con 2)
 have c2 : Cop (fun x => x - r) (fun x => 2 * ev S x + (x - r) * evd S x) := ((cop_lin h0).scl (by grind : (2 : Rat) ≠ 0)).add pd
 have pP : PF (fun x => 2 * ev S x + (x - r) * evd S x) := (pS.scl 2).add ((PF.lin r).mul pd)
 exact Cop.mul (PF.lin r) pS pP c2 (c1.ext (fun _ => rfl) fun x => by grind)
theorem cop_one : Cop (ev [1]) (evd [1]) := ⟨fun _ => 1, fun _ => 0, PF.con 1, PF.con 0, fun x => by rw [ev_cons, ev_nil]; grind⟩
theorem cop_sq : Cop (ev [1, 0, 1]) (evd [1, 0, 1]) := ⟨fun _ => 1, fun x => (-(1 / 2)) * (x - 0), PF.con 1, (PF.lin 0).scl _, fun x => by
 have e : ev [1, 0, 1] x = x * x + 1 := by rw [ev_cons, ev_cons, ev_cons, ev_nil]; grind
 have e2 : evd [1, 0, 1] x = 2 * x := by simp only [evd, ev]; grind
 rw [e, e2]
 have : (1 : Rat) / 2 * 2 = 1 := Rat.div_mul_cancel (by grind)
 generalize (1 : Rat) / 2 = z at *
 have e4 : -z * (x - 0) * (2 * x) = -((z * 2) * (x * x)) := by grind
 rw [e4, this]; grind⟩
theorem gcd_fac : ∀ (n : Nat) (a b : Ply), b.length < n → Tr a → Tr b → a ≠ [] → (∃ u, PF u ∧ ∀ x, ev a x = u x * ev (gcdL n a b) x) ∧ (∃ v, PF v ∧ ∀ x, ev b x = v x * ev (gcdL n a b) x) ∧ Tr (gcdL n a b) ∧ gcdL n a b ≠ [] ∧
  (absQ' (a.getLast?.getD 0) = 1 → absQ' ((gcdL n a b).getLast?.getD 0) = 1) ∧ ∀ r, ev a r = 0 → ev b r = 0 → ev (gcdL n a b) r = 0
 | 0, a, b, h, _, _, _ => by omega
 | n + 1, a, b, h, ta, tb, ha0 => by
   unfold gcdL
   by_cases h0 : b = []
   ·rw [if_pos h0]
    subst h0
    exact ⟨⟨fun _ => 1, PF.con 1, fun x => by grind⟩, ⟨fun _ => 0, PF.con 0, fun x => by rw [ev_nil]; grind⟩, ta, ha0, fun h => h, fun r h _ => h⟩
   ·rw [if_neg h0]
    obtain ⟨c, hcp, hs, hst, hsl⟩ := scaled_ok tb h0
    obtain ⟨d1, d2, d3⟩ := divide_ok a h0 tb
    have hs0 : scaledL b ≠ [] := fun e => by
     have : b.length = 0 := by rw [← hsl, e]; rfl
     exact h0 (List.eq_nil_of_length_eq_zero this)
    obtain ⟨⟨u, pu, eu⟩, ⟨v, pv, ev'⟩, g1, g2, g3, g4⟩ := gcd_fac n (scaledL b) (divideL a b).2 (by omega) hst d3 hs0
    refine ⟨⟨fun x => ev (divideL a b).1 x * (c * u x) + v x, ((PF.ev _).mul (pu.scl c)).add pv, fun x => ?_⟩, ⟨fun x => c * u x, pu.scl c, fun x => ?_⟩, g1, g2, fun _ => ?_, fun r hr1 hr2 => ?_⟩
    ·rw [d1 x, hs x, eu x, ev' x]; grind
    ·rw [hs x, eu x]; grind
    ·obtain ⟨d, e1, e2⟩ := scaled_lead tb h0
     exact g3 (by rw [e1]; exact e2)
    ·have e1 := hs r
     rw [hr2] at e1
     have e2 : ev (scaledL b) r = 0 := by
      rcases Rat.mul_eq_zero.1 e1.symm with h | h
      ·grind
      ·exact h
     refine g4 r e2 ?_
     have := d1 r
     rw [hr1, hr2] at this
     grind
theorem div_len {g k : Ply} {f : Rat → Rat} (pf : PF f) (tg : Tr g) (g0 : g ≠ []) (tk : Tr k) (k0 : k ≠ []) (h : ∀ x, f x * ev g x = ev k x) : g.length ≤ k.length := by
 obtain ⟨u, hu⟩ := pf
 obtain ⟨d, hd⟩ := last_of g0
 cases e : trimL u with
 | nil =>
   exfalso
   apply k0
   have hz : ∀ x, ev u x = 0 := fun x => by rw [← ev_trim, e]; rfl
   exact ev_inj tk (fun z hz => by simp at hz) fun x => by rw [← h x, hu, hz x, ev_nil]; grind
 | cons b t =>
   have htr := trim_tr u
   rw [e] at htr
   obtain ⟨c, hc⟩ := last_of (show b :: t ≠ [] by simp)
   obtain ⟨m1, m2⟩ := pmul_len hc hd
   have hm : Tr (mulL (b :: t) g) := fun z hz => by
    rw [m2] at hz
    injection hz with hz
    rw [← hz]
    intro e
    rcases Rat.mul_eq_zero.1 e with h3 | h3
    ·exact htr c hc h3
    ·exact tg d hd h3
   have := ev_inj hm tk fun x => by rw [ev_mul, ← e, ev_trim, ← hu, h x]
   rw [← this]
   simp at m1
   omega
theorem abs_one {c : Rat} (h : absQ' c = 1) : c = 1 ∨ c = -1 := by unfold absQ' at h; grind
theorem mulC_tr {c : Rat} (hc : c = 1 ∨ c = -1) {p : Ply} (h : Tr p) : Tr (mulC c p) := fun d hd => by
 unfold mulC at hd
 rw [List.getLast?_map] at hd
 cases e : p.getLast? with
 | none => rw [e] at hd; cases hd
 | some y =>
   rw [e] at hd
   have hd : c * y = d := by injection hd
   have := h y e
   rw [← hd]
   rcases hc with rfl | rfl
   ·intro h; apply this; grind
   ·intro h; apply this; grind
theorem quot_is {p E g : Ply} {c : Rat} (hc : c = 1 ∨ c = -1) (tg : Tr g) (g0 : g ≠ []) (tE : Tr E) (h : ∀ x, ev p x = c * ev E x * ev g x) : trimL (divideL p g).1 = mulC c E := by
 obtain ⟨d1, d2, d3⟩ := divide_ok p g0 tg
 have h1 := (rest_nil (u := addL (mulC c E) (mulC (-1) (divideL p g).1)) tg g0 d3 d2 fun x => by
  rw [ev_add, ev_mulC, ev_mulC]
  have := d1 x
  rw [h x] at this
  grind).2
 refine ev_inj (trim_tr _) (mulC_tr hc tE) fun x => ?_
 have := h1 x
 rw [ev_add, ev_mulC, ev_mulC] at this
 rw [ev_trim, ev_mulC]; grind
theorem scaled_same {c : Rat} (hc : c = 1 ∨ c = -1) {E : Ply} (hl : E.getLast? = some 1) : scaledL (mulC c E) = mulC c E := by
 have e : (mulC c E).getLast? = some c := by unfold mulC; rw [List.getLast?_map, hl]; show some (c * 1) = some c; congr 1; grind
 have e2 : absQ' c = 1 := by rcases hc with rfl | rfl <;> (unfold absQ'; grind)
 have e3 : scaledL (mulC c E) = (mulC c E).map fun z => z / absQ' ((mulC c E).getLast?.getD 0) := rfl
 rw [e3, e]
 have e5 : ((some c).getD 0 : Rat) = c := rfl
 rw [e5, e2]
 refine (List.map_congr_left fun z _ => ?_).trans (List.map_id _)
 rw [Rat.div_def, show (1 : Rat)⁻¹ = 1 from by decide +kernel, Rat.mul_one]; rfl
theorem mono_tr {p : Ply} (h : p.getLast? = some 1) : Tr p ∧ p ≠ [] := ⟨fun d hd => by rw [h] at hd; injection hd with hd; rw [← hd]; decide, fun e => by rw [e] at h; cases h⟩
theorem gcd_is {p E k : Ply} (lp : p.getLast? = some 1) (lk : k.getLast? = some 1) (hp : ∀ x, ev p x = ev E x * ev k x) (hk : k = [1] ∨ ∃ r, k = [-r, 1] ∧ ev p r = 0 ∧ evd p r = 0)
  (hB : ∃ u v, PF u ∧ PF v ∧ ∀ x, u x * ev p x + v x * evd p x = ev k x) {n : Nat} (hn : (deriveL p).length < n) : ∃ c, (c = 1 ∨ c = -1) ∧ gcdL n p (deriveL p) = mulC c k := by
 obtain ⟨tp, p0⟩ := mono_tr lp
 obtain ⟨tk, k0⟩ := mono_tr lk
 obtain ⟨⟨u, pu, eu⟩, ⟨v, pv, ev'⟩, g1, g2, g3, g4⟩ := gcd_fac n p (deriveL p) hn tp (trim_tr _) p0
 have g3' := g3 (by rw [lp]; decide +kernel)
 obtain ⟨g, hg⟩ : ∃ g, gcdL n p (deriveL p) = g := ⟨_, rfl⟩
 rw [hg] at eu ev' g1 g2 g3' g4 ⊢
 obtain ⟨U, V, pU, pV, eB⟩ := hB
 have hlen := div_len (k := k) ((pU.mul pu).add (pV.mul pv)) g1 g2 tk k0 fun x => by
  rw [← eB x, eu x, ← ev_derive, ev' x]; grind
 rcases hk with rfl | ⟨r, rfl, r1, r2⟩
 ·match g, g2, hlen with
  | [c], _, _ =>
    refine ⟨c, abs_one g3', ?_⟩
    show [c] = [c * 1]
    congr 1; grind
  | _ :: _ :: _, _, hlen => simp at hlen
 ·have g5 := g4 r r1 (by rw [ev_derive]; exact r2)
  match g, g2, hlen with
  | [c], _, _ =>
    exfalso
    rw [ev_cons, ev_nil] at g5
    exact g1 c rfl (by grind)
  | [a, c], _, _ =>
    refine ⟨c, abs_one g3', ?_⟩
    rw [ev_cons, ev_cons, ev_nil] at g5
    show [a, c] = [c * -r, c * 1]
    have e1 : a = c * -r := by grind
    have e2 : c = c * 1 := by grind
    rw [← e1, ← e2]
  | _ :: _ :: _ :: _, _, hlen => simp at hlen
def rootL (W : Ply) : List Rat → Ply
 | [] => W
 | r :: l => addL (mulC (-r) (rootL W l)) (0 :: rootL W l)
theorem ev_root (W : Ply) (x : Rat) : ∀ rs : List Rat, ev (rootL W rs) x = ev W x * prd rs x
 | [] => by show ev W x = ev W x * 1; grind
 | r :: l => by
   show ev (addL (mulC (-r) (rootL W l)) (0 :: rootL W l)) x = _
   rw [ev_add, ev_mulC, ev_cons, ev_root W x l, prd_cons]; grind
theorem root_len {W : Ply} (hW : W.getLast? = some 1) : ∀ rs : List Rat, (rootL W rs).length = W.length + rs.length ∧ (rootL W rs).getLast? = some 1
 | [] => ⟨rfl, hW⟩
 | r :: l => by
   obtain ⟨h1, h2⟩ := root_len hW l
   have hl : (mulC (-r) (rootL W l)).length < (0 :: rootL W l).length := by unfold mulC; simp
   obtain ⟨j1, j2⟩ := add_len hl
   refine ⟨?_, ?_⟩
   ·show (addL (mulC (-r) (rootL W l)) (0 :: rootL W l)).length = _
    rw [j1]; simp [h1]; omega
   ·show (addL (mulC (-r) (rootL W l)) (0 :: rootL W l)).getLast? = _
    rw [j2, List.getLast?_cons, h2]; rfl
theorem add_mem : ∀ (p q : Ply), ∀ c ∈ addL p q, ∃ u v, (u ∈ p ∨ u = 0) ∧ (v ∈ q ∨ v = 0) ∧ c = u + v
 | [], q, c, h => ⟨0, c, .inr rfl, .inl (by simpa [addL] using h), by grind⟩
 | a :: p, [], c, h => ⟨c, 0, .inl (by simpa [addL] using h), .inr rfl, by grind⟩
 | a :: p, b :: q, c, h => by
   have h : c ∈ (a + b) :: addL p q := h
   rcases List.mem_cons.1 h with e | h
   ·exact ⟨a, b, .inl List.mem_cons_self, .inl List.mem_cons_self, e⟩
   ·obtain ⟨u, v, h1, h2, e⟩ := add_mem p q c h
    exact ⟨u, v, h1.imp (List.mem_cons_of_mem _) id, h2.imp (List.mem_cons_of_mem _) id, e⟩
def Sml (r : Rat) : Prop := ∃ (n : Int) (d : Nat), 0 < d ∧ d ≤ 8 ∧ n.natAbs ≤ 64 ∧ r * (d : Rat) = (n : Rat) ∧ -8 ≤ r ∧ r ≤ 8
def CzD (D m : Nat) (p : Ply) : Prop := 0 < D ∧ D < 256 ^ m ∧ ∀ c ∈ p, ∃ z : Int, c * (D : Rat) = (z : Rat) ∧ z.natAbs < 256 ^ m
theorem CzD.qz {D m : Nat} {p : Ply} (h : CzD D m p) : Qz m p := fun c hc => by
 obtain ⟨z, e, hz⟩ := h.2.2 c hc
 exact Rz.frac h.1 e hz h.2.1
theorem root_cz {W : Ply} (hW : CzD 1 1 W) : ∀ rs : List Rat, (∀ r ∈ rs, Sml r) → ∃ D, CzD D (1 + rs.length) (rootL W rs)
 | [], _ => ⟨1, hW⟩
 | r :: l, hr => by
   obtain ⟨D, h0, h1, h2⟩ := root_cz hW l fun q hq => hr q (List.mem_cons_of_mem _ hq)
   obtain ⟨n, d, d0, d8, n64, e, -, -⟩ := hr r List.mem_cons_self
   have ep : 256 ^ (1 + (r :: l).length) = 256 ^ (1 + l.length) * 256 := by rw [List.length_cons, show 1 + (l.length + 1) = (1 + l.length) + 1 by omega, Nat.pow_succ]
   refine ⟨D * d, Nat.mul_pos h0 d0, ?_, fun c hc => ?_⟩
   ·rw [ep]
    have := Nat.mul_le_mul (Nat.le_of_lt h1) d8
    have := Nat.pos_of_ne_zero (show 256 ^ (1 + l.length) ≠ 0 from by have := Nat.pow_pos (n := 1 + l.length) (show 0 < 256 by omega); omega)
    omega
   ·have hz : ∀ u, (u ∈ rootL W l ∨ u = 0) → ∃ z : Int, u * (D : Rat) = (z : Rat) ∧ z.natAbs < 256 ^ (1 + l.length) := fun u hu => by
     rcases hu with hu | rfl
     ·exact h2 u hu
     ·exact ⟨0, by rw [Rat.zero_mul]; rfl, Nat.pow_pos (by omega)⟩
    have hc : c ∈ addL (mulC (-r) (rootL W l)) (0 :: rootL W l) := hc
    obtain ⟨u, v, hu, hv, ec⟩ := add_mem _ _ c hc
    obtain ⟨u', hu', eu⟩ : ∃ u', (u' ∈ rootL W l ∨ u' = 0) ∧ u = -r * u' := by
     rcases hu with hu | rfl
     ·obtain ⟨w, hw, rfl⟩ := List.mem_map.1 hu
      exact ⟨w, .inl hw, rfl⟩
     ·exact ⟨0, .inr rfl, by grind⟩
    have hv' : v ∈ rootL W l ∨ v = 0 := by
     rcases hv with hv | rfl
     ·rcases List.mem_cons.1 hv with rfl | hv
      ·exact .inr rfl
      ·exact .inl hv
     ·exact .inr rfl
    obtain ⟨z1, e1, b1⟩ := hz u' hu'
    obtain ⟨z2, e2, b2⟩ := hz v hv'
    refine ⟨z2 * (d : Int) - n * z1, ?_, ?_⟩
    ·rw [ec, eu, Rat.intCast_sub, Rat.intCast_mul, Rat.intCast_mul, ← e1, ← e2, ← e, Rat.natCast_mul]
     have : (((d : Nat) : Int) : Rat) = (d : Rat) := rfl
     rw [this]; grind
    ·rw [ep]
     have q1 : (z2 * (d : Int)).natAbs ≤ 256 ^ (1 + l.length) * 8 := by rw [Int.natAbs_mul]; exact Nat.mul_le_mul (Nat.le_of_lt b2) (by simpa using d8)
     have q2 : (n * z1).natAbs ≤ 64 * 256 ^ (1 + l.length) := by rw [Int.natAbs_mul]; exact Nat.mul_le_mul n64 (Nat.le_of_lt b1)
     have q3 : 0 < 256 ^ (1 + l.length) := Nat.pow_pos (by omega)
     omega
theorem sum_add : ∀ p q : Ply, sumA (addL p q) ≤ sumA p + sumA q
 | [], q => by show sumA q ≤ 0 + sumA q; grind
 | a :: p, [] => by show sumA (a :: p) ≤ sumA (a :: p) + 0; grind
 | a :: p, b :: q => by
   have := sum_add p q
   show absQ' (a + b) + sumA (addL p q) ≤ (absQ' a + sumA p) + (absQ' b + sumA q)
   have : absQ' (a + b) ≤ absQ' a + absQ' b := by unfold absQ'; grind
   grind
theorem sum_mulC (c : Rat) : ∀ p : Ply, sumA (mulC c p) = absQ' c * sumA p
 | [] => by show (0 : Rat) = absQ' c * 0; grind
 | a :: p => by
   have := sum_mulC c p
   show absQ' (c * a) + sumA (mulC c p) = absQ' c * (absQ' a + sumA p)
   rw [this, absQ'_mul]; grind
theorem sum_root {W : Ply} (hW : sumA W ≤ 2) : ∀ rs : List Rat, (∀ r ∈ rs, Sml r) → sumA (rootL W rs) ≤ 2 * 9 ^ rs.length
 | [], _ => by show sumA W ≤ 2 * 9 ^ 0; rw [Rat.pow_zero]; grind
 | r :: l, hr => by
   have ih := sum_root hW l fun q hq => hr q (List.mem_cons_of_mem _ hq)
   obtain ⟨n, d, d0, d8, n64, e, lo, hi⟩ := hr r List.mem_cons_self
   have h1 := sum_add (mulC (-r) (rootL W l)) (0 :: rootL W l)
   rw [sum_mulC] at h1
   have h2 : sumA (0 :: rootL W l) = absQ' 0 + sumA (rootL W l) := rfl
   have h3 : absQ' 0 = 0 := by unfold absQ'; grind
   have h4 : absQ' (-r) ≤ 8 := by unfold absQ'; grind
   have h5 := sumA_nn (rootL W l)
   have h6 := Rat.mul_nonneg (show 0 ≤ 8 - absQ' (-r) by grind) h5
   have h7 : (9 : Rat) ^ (l.length + 1) = 9 ^ l.length * 9 := Rat.pow_succ _ _
   show sumA (addL (mulC (-r) (rootL W l)) (0 :: rootL W l)) ≤ 2 * 9 ^ (l.length + 1)
   rw [h7]
   grind
theorem nine_le {n : Nat} (h : n ≤ 5) : (9 : Rat) ^ n ≤ 59049 := by
 have : n = 0 ∨ n = 1 ∨ n = 2 ∨ n = 3 ∨ n = 4 ∨ n = 5 := by omega
 rcases this with rfl | rfl | rfl | rfl | rfl | rfl <;> decide +kernel
theorem sum_dz {D m : Nat} : ∀ p : Ply, CzD D m p → Dz D 0 (sumA p)
 | [], h => ⟨0, by show (0 : Rat) * _ = _; rw [Rat.zero_mul]; rfl⟩
 | c :: p, h => by
   have ih := sum_dz p ⟨h.1, h.2.1, fun u hu => h.2.2 u (List.mem_cons_of_mem _ hu)⟩
   obtain ⟨z, e, -⟩ := h.2.2 c List.mem_cons_self
   have hc : Dz D 0 c := ⟨z, by rw [Nat.pow_zero, Nat.mul_one]; exact e⟩
   have ha : Dz D 0 (absQ' c) := by unfold absQ'; split; exact hc.neg; exact hc
   exact ha.add ih
theorem one_dz {D : Nat} : Dz D 0 1 := ⟨(D : Int), by rw [Nat.pow_zero, Nat.mul_one, Rat.one_mul]; rfl⟩
theorem ev_z {s t : Nat} {x : Rat} (hx : Rz t x) : ∀ p : Ply, Qz s p → Rz (1 + p.length * (s + t + 1)) (ev p x)
 | [], _ => by show Rz _ (0 : Rat); exact Rz.zr.more (by omega)
 | c :: p, h => by
   have ih := ev_z hx p fun u hu => h u (List.mem_cons_of_mem _ hu)
   rw [ev_cons]
   have e : (p.length + 1) * (s + t + 1) = p.length * (s + t + 1) + (s + t + 1) := Nat.succ_mul _ _
   exact ((ih.mul hx).add1 (h c List.mem_cons_self)).more (by rw [List.length_cons, e]; omega)
theorem evz_ex {K s t L : Nat} {x : Rat} (hx : Rz t x) (hs : s ≤ K) (hK : 1 + L * (s + t + 1) + t ≤ K) : ∀ p : Ply, Qz s p → p.length ≤ L → EvZ K p x
 | [], _, _ => trivial
 | c :: p, h, hl => by
   have h' : Qz s p := fun u hu => h u (List.mem_cons_of_mem _ hu)
   have hl' : p.length ≤ L := by simp at hl; omega
   have h1 := ev_z hx p h'
   have := Nat.mul_le_mul_right (s + t + 1) hl'
   exact ⟨evz_ex hx hs hK p h' hl', h1.more (by omega), (h1.mul hx).more (by omega), (h c List.mem_cons_self).more hs⟩
theorem dv_z {s : Nat} : ∀ (p : Ply) (k : Nat), Qz s p → k + p.length ≤ 255 → Qz (s + 1) (dvL (k : Int) p)
 | [], k, h, _ => fun c hc => by cases hc
 | a :: p, k, h, hk => fun c hc => by
   have hk : k + (p.length + 1) ≤ 255 := by simpa using hk
   have hc : c ∈ ((k : Int) : Rat) * a :: dvL ((k : Int) + 1) p := hc
   rcases List.mem_cons.1 hc with rfl | hc
   ·have := (Rz.int1 (z := (k : Int)) (by omega)).mul (h a List.mem_cons_self)
    exact this.more (by omega)
   ·exact dv_z p (k + 1) (fun u hu => h u (List.mem_cons_of_mem _ hu)) (by omega) c hc
theorem dvL_len : ∀ (p : Ply) (k : Int), (dvL k p).length = p.length
 | [], _ => rfl
 | _ :: p, k => by show (dvL (k + 1) p).length + 1 = _; rw [dvL_len p]; rfl
theorem der_len {p : Ply} (h0 : p ≠ []) : (deriveL p).length < p.length := by
 have := trim_len (dvL 1 p.tail)
 rw [dvL_len, List.length_tail] at this
 have := len_pos h0
 unfold deriveL; omega
theorem der_z {s : Nat} {p : Ply} (h : Qz s p) (hl : p.length ≤ 200) : Qz (s + 1) (dvL 1 p.tail) := by
 have := dv_z (s := s) p.tail 1 (fun u hu => h u (List.mem_of_mem_tail hu)) (by rw [List.length_tail]; omega)
 exact this
theorem prd_erase {r x : Rat} : ∀ {rs : List Rat}, r ∈ rs → prd rs x = prd (rs.erase r) x * (x - r)
 | [], h => by cases h
 | a :: l, h => by
   by_cases e : a = r
   ·subst e; rw [List.erase_cons_head, prd_cons]
   ·have h' : r ∈ l := by rcases List.mem_cons.1 h with h | h; exact absurd h.symm e; exact h
    have eq : (a :: l).erase r = a :: l.erase r := List.erase_cons_tail (by simpa using e)
    rw [eq, prd_cons, prd_cons, prd_erase h']; grind
structure Wgd (W : Ply) : Prop where
 last : W.getLast? = some 1
 cop : Cop (ev W) (evd W)
 far : ∀ B, 0 ≤ B → Far B W
 pos : ∀ x, 0 < ev W x
 cz : CzD 1 1 W
 sum : sumA W ≤ 2
theorem Wgd.one : Wgd [1] := ⟨rfl, cop_one, far_one, fun x => by rw [ev_cons, ev_nil]; grind, ⟨by omega, by omega, fun c hc => ⟨1, by rw [List.mem_singleton.1 hc]; decide +kernel, by decide⟩⟩, by show absQ' 1 + 0 ≤ 2; unfold absQ'; grind⟩
theorem Wgd.sq : Wgd [1, 0, 1] := ⟨rfl, cop_sq, far_sq, fun x => by
  have e : ev [1, 0, 1] x = x * x + 1 := by rw [ev_cons, ev_cons, ev_cons, ev_nil]; grind
  have := sq_nn' x
  rw [e]; grind, ⟨by omega, by omega, fun c hc => by
  simp only [List.mem_cons, List.not_mem_nil, or_false] at hc
  rcases hc with rfl | rfl | rfl
  ·exact ⟨1, by decide +kernel, by decide⟩
  ·exact ⟨0, by decide +kernel, by decide⟩
  ·exact ⟨1, by decide +kernel, by decide⟩⟩, by show absQ' 1 + (absQ' 0 + (absQ' 1 + 0)) ≤ 2; unfold absQ'; grind⟩
theorem sml_sep {a b : Rat} (ha : Sml a) (hb : Sml b) (h : a < b) : (1 / 128 : Rat) < b - a := by
 obtain ⟨n, d, d0, d8, -, e, -, -⟩ := ha
 obtain ⟨m, f, f0, f8, -, e', -, -⟩ := hb
 have hd : (0 : Rat) < (d : Rat) := by exact_mod_cast d0
 have hf : (0 : Rat) < (f : Rat) := by exact_mod_cast f0
 have hd8 : (d : Rat) ≤ 8 := by exact_mod_cast d8
 have hf8 : (f : Rat) ≤ 8 := by exact_mod_cast f8
 have p1 := Rat.mul_pos hd hf
 have p2 := Rat.mul_pos p1 (show 0 < b - a by grind)
 have e1 : (d : Rat) * (f : Rat) * (b - a) = ((m * (d : Int) - n * (f : Int) : Int) : Rat) := by
  rw [Rat.intCast_sub, Rat.intCast_mul, Rat.intCast_mul, ← e, ← e']
  have q1 : (((d : Nat) : Int) : Rat) = (d : Rat) := rfl
  have q2 : (((f : Nat) : Int) : Rat) = (f : Rat) := rfl
  rw [q1, q2]; grind
 rw [e1] at p2
 have p3 : (0 : Int) < m * (d : Int) - n * (f : Int) := by exact_mod_cast p2
 have p4 : (1 : Rat) ≤ ((m * (d : Int) - n * (f : Int) : Int) : Rat) := by
  have : (1 : Int) ≤ m * (d : Int) - n * (f : Int) := by omega
  exact_mod_cast this
 rw [← e1] at p4
 have p5 : (d : Rat) * (f : Rat) ≤ 64 := by
  have := Rat.mul_nonneg (show 0 ≤ 8 - (d : Rat) by grind) (Rat.le_of_lt hf)
  grind
 have p6 := Rat.mul_nonneg (show 0 ≤ 64 - (d : Rat) * (f : Rat) by grind) (show 0 ≤ b - a by grind)
 have p7 : (1 / 128 : Rat) * 128 = 1 := Rat.div_mul_cancel (by grind)
 grind
def KK : Nat := 1000000000000
structure Pol (W : Ply) (rs : List Rat) (p : Ply) : Prop where
 w : Wgd W
 sml : ∀ r ∈ rs, Sml r
 nd : rs.Nodup
 few : W.length + rs.length ≤ 7
 few2 : rs.length ≤ 5
 is : (p = rootL W rs ∧ W.length + rs.length ≤ 7) ∨ ∃ r ∈ rs, p = rootL W (r :: rs)
theorem Pol.ev_ {W : Ply} {rs : List Rat} {p : Ply} (h : Pol W rs p) : p.getLast? = some 1 ∧ p.length ≤ 8 ∧ Qz 7 p := by
 have hw := h.w
 rcases h.is with ⟨rfl, h7⟩ | ⟨r, hr, rfl⟩
 ·obtain ⟨h1, h2⟩ := root_len hw.last rs
  obtain ⟨D, hD⟩ := root_cz hw.cz rs h.sml
  exact ⟨h2, by have := h.few; omega, hD.qz.mo (by have := h.few2; omega)⟩
 ·obtain ⟨h1, h2⟩ := root_len hw.last (r :: rs)
  obtain ⟨D, hD⟩ := root_cz hw.cz (r :: rs) fun q hq => by
   rcases List.mem_cons.1 hq with rfl | hq
   ·exact h.sml _ hr
   ·exact h.sml _ hq
  have h3 : (r :: rs).length = rs.length + 1 := rfl
  exact ⟨h2, by have := h.few; omega, hD.qz.mo (by have := h.few2; omega)⟩
theorem plain_is {W : Ply} {rs : List Rat} {p : Ply} (h : Pol W rs p) : ∃ c, (c = 1 ∨ c = -1) ∧ PlR KK p (mulC c (rootL W rs)) := by
 obtain ⟨lp, p8, zp⟩ := h.ev_
 obtain ⟨tp, p0⟩ := mono_tr lp
 have hw := h.w
 obtain ⟨lE, hE⟩ := root_len hw.last rs
 obtain ⟨tE, E0⟩ := mono_tr hE
 -- the divisor k, with p = E * k
 obtain ⟨k, lk, k2, hp, hk, hB, zk⟩ : ∃ k : Ply, k.getLast? = some 1 ∧ k ≠ [] ∧ (∀ x, ev p x = ev (rootL W rs) x * ev k x) ∧ (k = [1] ∨ ∃ r, k = [-r, 1] ∧ ev p r = 0 ∧ evd p r = 0) ∧
   (∃ u v, PF u ∧ PF v ∧ ∀ x, u x * ev p x + v x * evd p x = ev k x) ∧ Qz 2 k := by
  rcases h.is with ⟨rfl, h7⟩ | ⟨r, hr, rfl⟩
  ·have e1 : ∀ x, ev [1] x = 1 := fun x => by rw [ev_cons, ev_nil]; grind
   refine ⟨[1], rfl, by simp, fun x => by rw [e1]; grind, .inl rfl, ?_, fun c hc => ?_⟩
   ·have hc := cop_prd hw.cop (fun x => by have := hw.pos x; grind) rs h.nd
    have e2 : ∀ x, ev (rootL W rs) x = ev (mulL W (prdL rs)) x := fun x => by rw [ev_root, ev_mul, ev_prd]
    obtain ⟨u, v, pu, pv, e⟩ := hc.ext e2 (evd_ext e2)
    exact ⟨u, v, pu, pv, fun x => by rw [e1]; exact e x⟩
   ·rw [List.mem_singleton.1 hc]; exact (Rz.int1 (z := 1) (by decide)).more (by omega)
  ·have ep : ∀ x, ev (rootL W (r :: rs)) x = ev (rootL W rs) x * ev [-r, 1] x := fun x => by rw [ev_root, ev_root, prd_cons, ev_lin]; grind
   obtain ⟨S, hS⟩ : ∃ S, mulL W (prdL (rs.erase r)) = S := ⟨_, rfl⟩
   have eS : ∀ x, ev (rootL W rs) x = (x - r) * ev S x := fun x => by rw [ev_root, ← hS, ev_mul, ev_prd, prd_erase hr]; grind
   have nde : (rs.erase r).Nodup := h.nd.erase r
   have hSr : ev S r ≠ 0 := by
    rw [← hS, ev_mul, ev_prd]
    intro e
    rcases Rat.mul_eq_zero.1 e with e | e
    ·have := hw.pos r; grind
    ·exact (h.nd.not_mem_erase) (prd_zero.1 e)
   have hcS := cop_prd hw.cop (fun x => by have := hw.pos x; grind) (rs.erase r) nde
   rw [hS] at hcS
   have eE : ∀ x, ev (rootL W rs) x = ev (mulL [-r, 1] S) x := fun x => by rw [eS, ev_mul, ev_lin]
   have dE : ∀ x, evd (rootL W rs) x = ev S x + (x - r) * evd S x := fun x => by rw [evd_ext eE, evd_mul, ev_lin, evd_lin]; grind
   have eP : ∀ x, ev (rootL W (r :: rs)) x = ev (mulL (rootL W rs) [-r, 1]) x := fun x => by rw [ep, ev_mul]
   have dP : ∀ x, evd (rootL W (r :: rs)) x = (x - r) * (2 * ev S x + (x - r) * evd S x) := fun x => by rw [evd_ext eP, evd_mul, dE, eS, ev_lin, evd_lin]; grind
   refine ⟨[-r, 1], rfl, by simp, ep, .inr ⟨r, rfl, ?_, ?_⟩, ?_, fun c hc => ?_⟩
   ·rw [ep, ev_lin]; grind
   ·rw [dP]; grind
   ·obtain ⟨u, v, pu, pv, e⟩ := cop_two hcS hSr
    refine ⟨u, v, pu, pv, fun x => ?_⟩
    have := e x
    rw [ep, eS, dP, ev_lin]
    have e3 : u x * ((x - r) * ev S x * (x - r)) + v x * ((x - r) * (2 * ev S x + (x - r) * evd S x)) = (u x * ((x - r) * ev S x) + v x * (2 * ev S x + (x - r) * evd S x)) * (x - r) := by grind
    rw [e3, this]; grind
   ·have hz : Rz 1 r := by
     obtain ⟨n, d, d0, d8, n64, e, -, -⟩ := h.sml r hr
     exact Rz.frac d0 e (by omega) (by omega)
    simp only [List.mem_cons, List.not_mem_nil, or_false] at hc
    rcases hc with rfl | rfl
    ·exact hz.neg.more (by omega)
    ·exact (Rz.int1 (z := 1) (by decide)).more (by omega)
 have hdl := der_len p0
 obtain ⟨c, hc, hg⟩ := gcd_is lp lk hp hk hB (n := p.length + 2) (by omega)
 refine ⟨c, hc, ?_⟩
 have zd := der_z zp (by omega)
 have zder : Qz 8 (deriveL p) := zd.trim'
 obtain ⟨m, G1, -⟩ := gc_ex (K := KK) (p.length + 2) 8 p (deriveL p) (by omega) hdl tp (trim_tr _) (zp.mo (by omega)) zder (by omega) (by
  have h1 : 2 ^ p.length ≤ 2 ^ 8 := Nat.pow_le_pow_right (by omega) p8
  have h2 : 8 ^ (deriveL p).length ≤ 8 ^ 7 := Nat.pow_le_pow_right (by omega) (by omega)
  have h3 := Nat.mul_le_mul (Nat.mul_le_mul_left 8 h1) h2
  have h4 : 8 * 2 ^ 8 * 8 ^ 7 ≤ KK := by decide
  omega)
 rw [hg] at G1
 have g0 : mulC c k ≠ [] := fun e => k2 (by unfold mulC at e; simpa using e)
 have tg := mulC_tr hc (mono_tr lk).1
 have zg : Qz 2 (mulC c k) := fun u hu => by
  obtain ⟨w, hw, rfl⟩ := List.mem_map.1 hu
  rcases hc with rfl | rfl
  ·have : (1 : Rat) * w = w := by grind
   rw [this]; exact zk w hw
  ·have : (-1 : Rat) * w = -w := by grind
   rw [this]; exact (zk w hw).neg
 have gl : 1 ≤ (mulC c k).length := len_pos g0
 have hgz : gz 7 2 8 ≤ KK := by decide
 obtain ⟨D1, D2, D3⟩ := div_ex (K := KK) (r := 8) g0 tg zp zg (by omega) (by omega) (by have := trim_len p; omega) hgz
 have hq := quot_is (p := p) hc tg g0 tE fun x => by
  rw [hp x, ev_mulC]
  rcases hc with rfl | rfl <;> grind
 exact ⟨⟨by decide, zp.mo (by decide), by omega, zd.mo (by decide)⟩, m, mulC c k, _, _, G1, D1, D2.mo hgz, by rw [hq, scaled_same hc hE]⟩
theorem chain_len : ∀ (n : Nat) (a b : Ply), (chainL n a b).length ≤ n
 | 0, _, _ => Nat.le_refl _
 | n + 1, a, b => by
   unfold chainL
   split
   ·exact Nat.zero_le _
   ·have := chain_len n (scaledL b) (negL (divideL a (scaledL b)).2)
    simp; omega
theorem sum_z {s : Nat} : ∀ p : Ply, Qz s p → Rz (1 + p.length * (s + 1)) (sumA p)
 | [], _ => by show Rz _ (0 : Rat); exact Rz.zr.more (by omega)
 | c :: p, h => by
   have ih := sum_z p fun u hu => h u (List.mem_cons_of_mem _ hu)
   have e : (p.length + 1) * (s + 1) = p.length * (s + 1) + (s + 1) := Nat.succ_mul _ _
   exact ((h c List.mem_cons_self).ab.add1 ih).more (by rw [List.length_cons, e]; omega)
theorem bd_sgn {e c v : Rat} (hc : c = 1 ∨ c = -1) (h : Bd e (c * v)) : Bd e v := by
 unfold Bd at *
 rcases hc with rfl | rfl <;> grind
theorem mulC_z {s : Nat} {c : Rat} (hc : c = 1 ∨ c = -1) {p : Ply} (h : Qz s p) : Qz s (mulC c p) := fun u hu => by
 obtain ⟨w, hw, rfl⟩ := List.mem_map.1 hu
 rcases hc with rfl | rfl
 ·have : (1 : Rat) * w = w := by grind
  rw [this]; exact h w hw
 ·have : (-1 : Rat) * w = -w := by grind
  rw [this]; exact (h w hw).neg
theorem abs_sgn {c : Rat} (hc : c = 1 ∨ c = -1) : absQ' c = 1 := by rcases hc with rfl | rfl <;> (unfold absQ'; grind)
structure Rdy (W : Ply) (rs : List Rat) (p : Ply) (c : Rat) (cs : List Nums) : Prop where
 sg : c = 1 ∨ c = -1
 rd : RdR KK p cs
 hd : cs.headD [] = mulC c (rootL W rs)
 cnt : ∀ lo hi, lo ≤ hi → CtR cs (lo, hi) = cntC rs lo hi
 zero : ∀ x, ev (cs.headD []) x = 0 ↔ x ∈ rs
 szc : ∀ x, Rz 300 x → ChZ KK cs x
theorem rdy_ex {W : Ply} {rs : List Rat} {p : Ply} (h : Pol W rs p) : ∃ c cs, Rdy W rs p c cs := by
 obtain ⟨lp, p8, zp⟩ := h.ev_
 obtain ⟨tp, p0⟩ := mono_tr lp
 have hw := h.w
 obtain ⟨c, hc, hP⟩ := plain_is h
 obtain ⟨lE, hE⟩ := root_len hw.last rs
 obtain ⟨tE, E0⟩ := mono_tr hE
 obtain ⟨D, hD⟩ := root_cz hw.cz rs h.sml
 obtain ⟨o, ho⟩ : ∃ o, mulC c (rootL W rs) = o := ⟨_, rfl⟩
 rw [ho] at hP
 have lo' : o.length ≤ 7 := by rw [← ho]; unfold mulC; rw [List.length_map, lE]; exact h.few
 have tO : Tr o := ho ▸ mulC_tr hc tE
 have o0 : o ≠ [] := fun e => E0 (by rw [← ho] at e; unfold mulC at e; simpa using e)
 have zo : Qz 6 o := ho ▸ mulC_z hc (hD.qz.mo (by have := h.few2; omega))
 have zd := der_z zo (by omega)
 have hdl := der_len o0
 have zder : Qz 7 (deriveL o) := zd.trim'
 have bnd : 7 * 2 ^ o.length * 16 ^ (deriveL o).length ≤ 15032385536 := by
  have h1 : 2 ^ o.length ≤ 2 ^ 7 := Nat.pow_le_pow_right (by omega) lo'
  have h2 : 16 ^ (deriveL o).length ≤ 16 ^ 6 := Nat.pow_le_pow_right (by omega) (by omega)
  have h3 := Nat.mul_le_mul (Nat.mul_le_mul_left 7 h1) h2
  have h4 : 7 * 2 ^ 7 * 16 ^ 6 = 15032385536 := by decide
  omega
 obtain ⟨m1, -, -, M1⟩ := ch_ex (K := 15032385536) (o.length + 2) 7 o (deriveL o) (by omega) hdl tO (trim_tr _) (zo.mo (by omega)) zder (by omega) bnd
 obtain ⟨m2, N1, N2, -⟩ := ch_ex (K := KK) (o.length + 2) 7 o (deriveL o) (by omega) hdl tO (trim_tr _) (zo.mo (by omega)) zder (by omega) (Nat.le_trans bnd (by decide))
 have hf : Fac o rs (fun x => c * ev W x) := by
  refine ⟨fun x => by rw [← ho, ev_mulC, ev_root]; grind, ?_, h.nd⟩
  rcases hc with rfl | rfl
  ·exact .inl fun x => by have := hw.pos x; grind
  ·exact .inr fun x => by have := hw.pos x; grind
 have hnb : ∀ B, 0 ≤ B → NB B (ev o) (evd o) := fun B hB => by
  obtain ⟨e, he, h1⟩ := nb_prd hw.far rs (rootL W rs) h.nd (fun x => ev_root W x rs) B hB
  refine ⟨e, he, fun x hx hb => h1 x hx ⟨?_, ?_⟩⟩
  ·have := hb.1
   rw [← ho, ev_mulC] at this
   exact bd_sgn hc this
  ·have := hb.2
   rw [← ho, evd_mulC] at this
   exact bd_sgn hc this
 refine ⟨c, o :: chainL (o.length + 2) o (deriveL o), hc, ?_, ?_, ?_, ?_, ?_⟩
 ·refine ⟨zp.mo (by decide), by omega, by rw [trim_id tp]; exact p0, by rw [trim_id tp]; omega, o, m2, _, by rw [trim_id tp]; exact hP, ⟨by decide, zo.mo (by decide), by omega, zd.mo (by decide)⟩, N2, by omega, rfl⟩
 ·exact ho.symm
 ·intro lo hi hle
  exact count_ok hf hnb (by omega) hle
 ·intro x
  exact hf.zero
 ·intro x hx
  have hb : 1 + 7 * (15032385536 + 300 + 1) + 300 ≤ KK := by decide
  have key : ∀ q : Ply, Qz 15032385536 q → q.length ≤ 7 → q.length ≤ 1000 ∧ EvZ KK q x ∧ Rz KK (ev q x) := fun q zq lq => by
   have h1 := ev_z hx q zq
   have := Nat.mul_le_mul_right (15032385536 + 300 + 1) lq
   exact ⟨by omega, evz_ex hx (by decide) hb q zq lq, h1.more (by omega)⟩
  refine ⟨hx.more (by decide), ?_, fun q hq => ?_⟩
  ·have := chain_len (o.length + 2) o (deriveL o)
   simp; omega
  ·rcases List.mem_cons.1 hq with rfl | hq
   ·exact key _ (zo.mo (by omega)) lo'
   ·obtain ⟨q1, q2⟩ := M1 q hq
    exact key q q1 (by omega)
theorem dz_rz {D J : Nat} {x : Rat} (hD : 0 < D) (hD2 : D < 256 ^ 6) (hJ : J ≤ 1000) (h : Dz D J x) (hb : Bd 524288 x) : Rz 200 x := by
 obtain ⟨z, e⟩ := h
 obtain ⟨D', hD'⟩ : ∃ D', D * 2 ^ J = D' := ⟨_, rfl⟩
 rw [hD'] at e
 have p1 : 0 < D' := hD' ▸ Nat.mul_pos hD (Nat.two_pow_pos J)
 have p2 : D' ≤ 256 ^ 6 * 2 ^ 1000 := hD' ▸ Nat.mul_le_mul (Nat.le_of_lt hD2) (Nat.pow_le_pow_right (by omega) hJ)
 have p3 : 256 ^ 6 * 2 ^ 1000 * 524288 < 256 ^ 200 := by decide +kernel
 have q0 : (0 : Rat) < (D' : Rat) := by exact_mod_cast p1
 unfold Bd at hb
 have q1 := Rat.mul_nonneg (show 0 ≤ 524288 - x by grind) (Rat.le_of_lt q0)
 have q2 := Rat.mul_nonneg (show 0 ≤ 524288 + x by grind) (Rat.le_of_lt q0)
 have q3 : (z : Rat) ≤ ((524288 * D' : Int) : Rat) := by
  rw [Rat.intCast_mul]
  have : (((D' : Nat) : Int) : Rat) = (D' : Rat) := rfl
  rw [this]
  have : ((524288 : Int) : Rat) = 524288 := rfl
  rw [this]; grind
 have q4 : ((-(524288 * D') : Int) : Rat) ≤ (z : Rat) := by
  rw [Rat.intCast_neg, Rat.intCast_mul]
  have : (((D' : Nat) : Int) : Rat) = (D' : Rat) := rfl
  rw [this]
  have : ((524288 : Int) : Rat) = 524288 := rfl
  rw [this]; grind
 have q5 : z ≤ 524288 * D' := Rat.intCast_le_intCast.1 q3
 have q6 : -(524288 * (D' : Int)) ≤ z := Rat.intCast_le_intCast.1 q4
 exact Rz.frac p1 e (by omega) (by omega)
theorem two_pw7 : (1 / 128 : Rat) * 2 ^ 25 = 262144 ∧ (1 / 128 : Rat) * 2 ^ 26 = 524288 := by decide +kernel
theorem roots_ex {W : Ply} {rs : List Rat} {p : Ply} (h : Pol W rs p) (hs : rs.Pairwise (· < ·)) : ∃ c cs l2 D, Rdy W rs p c cs ∧ RtR KK p cs l2 ∧ Env KK cs rs (1 / 128) 131072 D 1000 ∧ Prt rs 131072 D 885 l2.length l2 rs ∧ 0 < D ∧ D < 256 ^ 6 := by
 obtain ⟨c, cs, hR⟩ := rdy_ex h
 have hc := hR.sg
 have hw := h.w
 obtain ⟨lE, hE⟩ := root_len hw.last rs
 obtain ⟨D, hD⟩ := root_cz hw.cz rs h.sml
 have hD6 : D < 256 ^ 6 := Nat.lt_of_lt_of_le hD.2.1 (Nat.pow_le_pow_right (by omega) (by have := h.few2; omega))
 have e4 : (4 * 131072 : Rat) = 524288 := by decide +kernel
 have szr : ∀ x, Dz D 1000 x → Bd (4 * 131072) x → Rz 200 x := fun x hx hb => dz_rz hD.1 hD6 (Nat.le_refl _) hx (e4 ▸ hb)
 have hEnv : Env KK cs rs (1 / 128) 131072 D 1000 := by
  refine ⟨hR.cnt, hR.zero, hs, by decide +kernel, fun a ha b hb hab => sml_sep (h.sml a ha) (h.sml b hb) hab, fun x hx hb => hR.szc x ((szr x hx (hb.more (by decide +kernel))).more (by omega)), fun x hx hb => (szr x hx hb).more (by decide), by have := h.few2; omega⟩
 obtain ⟨o, ho⟩ : ∃ o, cs.headD [] = o := ⟨_, rfl⟩
 have hoE : o = mulC c (rootL W rs) := by rw [← ho]; exact hR.hd
 have zo : Qz 6 o := hoE ▸ mulC_z hc (hD.qz.mo (by have := h.few2; omega))
 have lo' : o.length ≤ 7 := by rw [hoE]; unfold mulC; rw [List.length_map, lE]; exact h.few
 have hsum : sumA o = sumA (rootL W rs) := by rw [hoE, sum_mulC, abs_sgn hc]; grind
 have hsb : sumA o ≤ 118098 := by
  have h1 := sum_root hw.sum rs h.sml
  have h2 := nine_le h.few2
  rw [hsum]; grind
 have hs0 := sumA_nn o
 have olast : o.getLast? = some c := by rw [hoE]; unfold mulC; rw [List.getLast?_map, hE]; show some (c * 1) = some c; congr 1; grind
 obtain ⟨most, hmost⟩ : ∃ m, 1 + sumA o = m := ⟨_, rfl⟩
 have hm1 : 1 ≤ most := by rw [← hmost]; grind
 have hm2 : most ≤ 118099 := by rw [← hmost]; grind
 have inside : ∀ x, x ∈ rs → -most < x ∧ x < most := fun x hx => by
  have h0 := (hR.zero x).2 hx
  rw [ho] at h0
  rcases Decidable.em (most ≤ absQ' x) with hq | hq
  ·have := root_bound olast (abs_sgn hc) (by rw [hmost]; exact hq)
   rw [h0] at this
   have e : absQ' 0 = 0 := by unfold absQ'; grind
   rw [e] at this
   exact absurd this (by decide +kernel)
  ·unfold absQ' at hq
   grind
 have zmost : Dz D 0 most := by
  rw [← hmost, hsum]; exact one_dz.add (sum_dz _ hD)
 have bm : Bd 131072 most := by unfold Bd; grind
 have inAll : inS rs (-most) most = rs := by
  unfold inS
  rw [List.filter_eq_self]
  intro r hr
  have := inside r hr
  simp only [Bool.and_eq_true, decide_eq_true_eq]
  grind
 obtain ⟨T, t1, t2, t3, t4⟩ := split_ex hEnv 25 0 (-most, most) [] (by show -most < most; grind) (fun hx => by have := (inside _ hx).1; exact absurd this (by show ¬ (-most < -most); grind)) (fun hx => by have := (inside _ hx).2; exact absurd this (by show ¬ (most < most); grind))
  (by rw [two_pw7.1]; show most - -most ≤ _; grind) zmost.neg zmost (by omega) bm.neg bm (by show ([] : List Spn).length + (inS rs (-most) most).length ≤ 200; rw [inAll]; have := h.few2; simp; omega)
 rw [List.nil_append] at t1
 have t2' : Row rs (-most) most T rs := by
  have e : inS rs (-most, most).1 (-most, most).2 = rs := inAll
  rw [e] at t2; exact t2
 obtain ⟨r1, r2, -⟩ := t2'.prt hs
 have tl := t2'.len
 have hPrt : Prt rs 131072 D 729 0 T rs := by
  have gm : ∀ k, k < T.length → sx T k ∈ T := fun k hk => List.mem_of_getElem? (sx_get hk)
  refine ⟨tl, r1, fun k hk => (r2 k hk).1, fun k hk => (r2 k hk).2, fun k _ hk => by omega, fun k hk => t3 _ (gm k hk), fun k hk => ?_⟩
  have := t4 _ (gm k hk)
  exact this
 obtain ⟨l2, f1, f2⟩ := fix_ex hEnv (k := 26) (by rw [two_pw7.2]; decide +kernel) 6 0 729 T rs hPrt (by have := h.few2; omega) (by omega)
 refine ⟨c, cs, l2, D, hR, ⟨by decide, hR.rd, by rw [ho]; exact zo.mo (by decide), fun i => ?_, T, by rw [ho, hmost]; exact t1, f1, by have := h.few2; omega⟩, hEnv, f2, hD.1, hD6⟩
 rw [ho]
 have h1 := sum_z (o.take i) (fun u hu => zo u (List.mem_of_mem_take hu))
 have h2 : (o.take i).length ≤ 7 := by rw [List.length_take]; omega
 have h3 := Nat.mul_le_mul_right (6 + 1) h2
 have hkk : 100 ≤ KK := by decide
 exact ((Rz.int1 (z := 1) (by decide)).add1 h1).more (by omega)
theorem fine_at {W : Ply} {rs : List Rat} {cs : List Nums} {D : Nat} {l2 : List Spn} (hE : Env KK cs rs (1 / 128) 131072 D 1000) (hP : Prt rs 131072 D 885 l2.length l2 rs) {wd : Rat} (hw : (1 / 1000 : Rat) ≤ wd) {i : Nat} (hi : i < l2.length) :
  ∃ n t2, FnR KK cs wd n (sx l2 i) t2 ∧ Iso rs t2 (qx rs i) ∧ t2.2 - t2.1 ≤ wd ∧ Rz KK t2.1 ∧ Rz KK t2.2 := by
 obtain ⟨b1, b2⟩ := hP.bd i hi
 obtain ⟨z1, z2⟩ := hP.dz i hi
 refine fine_ex hE 28 885 _ _ (hP.iso i hi) ?_ z1 z2 (by omega) b1 b2
 have e : (1 / 1000 : Rat) * 2 ^ 28 = 33554432 / 125 := by decide +kernel
 have e2 : (262144 : Rat) ≤ 33554432 / 125 := by decide +kernel
 have p : (0 : Rat) ≤ 2 ^ 28 := by decide +kernel
 have q := Rat.mul_nonneg (show 0 ≤ wd - 1 / 1000 by grind) p
 unfold Bd at b1 b2
 grind
def stp (pre : Nums) (j : Nat) (v : Rat) : Nums := if j < pre.length then pre.set j (rx pre j + v) else pre ++ [v]
def rowN (q : Nums) (a : Rat) (i : Nat) (pre : Nums) : Nat → Nums
 | 0 => pre
 | k + 1 => stp (rowN q a i pre k) (i + k) (a * rx q k)
def prodN (p q : Nums) : Nat → Nums
 | 0 => []
 | i + 1 => rowN q (rx p i) i (prodN p q i) q.length
theorem stp_len {pre : Nums} {j : Nat} {v : Rat} (h : j ≤ pre.length) : (stp pre j v).length = if j = pre.length then pre.length + 1 else pre.length := by
 unfold stp
 by_cases h1 : j < pre.length
 ·rw [if_pos h1, List.length_set, if_neg (by omega)]
 ·rw [if_neg h1, List.length_append, if_pos (by omega)]; rfl
theorem row_len {q : Nums} {a : Rat} {i : Nat} {pre : Nums} (hp : pre.length = if i = 0 then 0 else i + q.length - 1) : ∀ k, k ≤ q.length → (rowN q a i pre k).length = if i = 0 then k else if k = q.length ∧ 0 < k then i + k else i + q.length - 1
 | 0, _ => by
   show pre.length = _
   rw [hp]
   split
   ·rfl
   ·rw [if_neg (by omega)]
 | k + 1, hk => by
   have ih := row_len (a := a) hp k (by omega)
   show (stp (rowN q a i pre k) (i + k) (a * rx q k)).length = _
   by_cases h0 : i = 0
   ·rw [if_pos h0] at ih ⊢
    rw [stp_len (by omega), ih, if_pos (by omega)]
   ·rw [if_neg h0] at ih ⊢
    rw [if_neg (by omega)] at ih
    rw [stp_len (by omega), ih]
    by_cases h1 : k + 1 = q.length
    ·rw [if_pos (by omega), if_pos ⟨h1, by omega⟩]; omega
    ·rw [if_neg (by omega), if_neg (by omega)]
theorem prod_len {p q : Nums} (hq : 0 < q.length) : ∀ i, (prodN p q i).length = if i = 0 then 0 else i + q.length - 1
 | 0 => rfl
 | i + 1 => by
   show (rowN q (rx p i) i (prodN p q i) q.length).length = _
   rw [row_len (prod_len hq i) q.length (Nat.le_refl _), if_neg (show ¬ i + 1 = 0 by omega)]
   by_cases h0 : i = 0
   ·rw [if_pos h0]; omega
   ·rw [if_neg h0, if_pos ⟨rfl, hq⟩]; omega
theorem row_at {p q : Nums} (hq : 0 < q.length) {i k : Nat} (hk : k < q.length) : i + k ≤ (rowN q (rx p i) i (prodN p q i) k).length := by
 rw [row_len (prod_len hq i) k (by omega)]
 split
 ·omega
 ·rw [if_neg (by omega)]; omega
theorem ev_app (x : Rat) (v : Rat) : ∀ pre : Nums, ev (pre ++ [v]) x = ev pre x + v * pw' x pre.length
 | [] => by show ev [v] x = ev [] x + v * 1; rw [ev_cons, ev_nil]; grind
 | c :: p => by
   have := ev_app x v p
   show ev (p ++ [v]) x * x + c = (ev p x * x + c) + v * (pw' x p.length * x)
   rw [this]; grind
theorem ev_upd (x : Rat) (v : Rat) : ∀ (pre : Nums) (j : Nat), j < pre.length → ev (pre.set j (rx pre j + v)) x = ev pre x + v * pw' x j
 | [], j, h => by simp at h
 | c :: p, 0, _ => by
   show ev p x * x + (c + v) = (ev p x * x + c) + v * 1
   grind
 | c :: p, j + 1, h => by
   have := ev_upd x v p j (by simpa using h)
   show ev (p.set j (rx p j + v)) x * x + c = (ev p x * x + c) + v * (pw' x j * x)
   rw [this]; grind
theorem ev_stp {pre : Nums} {j : Nat} {v x : Rat} (h : j ≤ pre.length) : ev (stp pre j v) x = ev pre x + v * pw' x j := by
 unfold stp
 by_cases h1 : j < pre.length
 ·rw [if_pos h1]; exact ev_upd x v pre j h1
 ·rw [if_neg h1, ev_app, show pre.length = j by omega]
theorem pw_add (x : Rat) (i : Nat) : ∀ k, pw' x (i + k) = pw' x i * pw' x k
 | 0 => by show pw' x i = pw' x i * 1; grind
 | k + 1 => by
   have := pw_add x i k
   show pw' x (i + k) * x = pw' x i * (pw' x k * x)
   rw [this]; grind
theorem rx_take {q : Nums} {k : Nat} (h : k < q.length) : q.take (k + 1) = q.take k ++ [rx q k] := by
 rw [List.take_add_one, List.getElem?_eq_getElem h]
 unfold rx
 rw [List.getD_eq_getElem?_getD, List.getElem?_eq_getElem h]; rfl
theorem ev_row {p q : Nums} (hq : 0 < q.length) {i : Nat} (x : Rat) : ∀ k, k ≤ q.length → ev (rowN q (rx p i) i (prodN p q i) k) x = ev (prodN p q i) x + rx p i * pw' x i * ev (q.take k) x
 | 0, _ => by show ev (prodN p q i) x = _; rw [List.take_zero, ev_nil]; grind
 | k + 1, hk => by
   have ih := ev_row (p := p) hq (i := i) x k (by omega)
   show ev (stp (rowN q (rx p i) i (prodN p q i) k) (i + k) (rx p i * rx q k)) x = _
   rw [ev_stp (row_at hq (by omega)), ih, rx_take (by omega), ev_app, pw_add, List.length_take, Nat.min_eq_left (by omega)]
   grind
theorem ev_prod {p q : Nums} (hq : 0 < q.length) (x : Rat) : ∀ i, i ≤ p.length → ev (prodN p q i) x = ev (p.take i) x * ev q x
 | 0, _ => by show ev [] x = _; rw [List.take_zero, ev_nil]; grind
 | i + 1, hi => by
   have ih := ev_prod (p := p) hq x i (by omega)
   show ev (rowN q (rx p i) i (prodN p q i) q.length) x = _
   rw [ev_row hq x q.length (Nat.le_refl _), ih, List.take_length, rx_take (by omega), ev_app, List.length_take, Nat.min_eq_left (by omega)]
   grind
theorem prod_last {p q : Nums} (hq : 0 < q.length) {i : Nat} : (prodN p q (i + 1)).getLast? = some (rx p i * rx q (q.length - 1)) := by
 obtain ⟨m, hm⟩ : ∃ m, q.length = m + 1 := ⟨q.length - 1, by omega⟩
 show (rowN q (rx p i) i (prodN p q i) q.length).getLast? = _
 rw [hm]
 show (stp (rowN q (rx p i) i (prodN p q i) m) (i + m) (rx p i * rx q m)).getLast? = _
 have hl := row_len (a := rx p i) (prod_len (p := p) hq i) m (by omega)
 have h1 : ¬ i + m < (rowN q (rx p i) i (prodN p q i) m).length := by
  rw [hl]
  split
  ·omega
  ·rw [if_neg (by omega)]; omega
 unfold stp
 rw [if_neg h1, List.getLast?_append]
 simp
theorem prod_is {p q T : Nums} (hp : p.getLast? = some 1) (hq : q.getLast? = some 1) (hT : T.getLast? = some 1) (h : ∀ x, ev T x = ev p x * ev q x) : prodN p q p.length = T := by
 have p0 : 0 < p.length := len_pos (mono_tr hp).2
 have q0 : 0 < q.length := len_pos (mono_tr hq).2
 obtain ⟨i, hi⟩ : ∃ i, p.length = i + 1 := ⟨p.length - 1, by omega⟩
 have lastx : ∀ {r : Nums}, r.getLast? = some 1 → rx r (r.length - 1) = 1 := fun {r} hr => by
  unfold rx
  rw [List.getD_eq_getElem?_getD, ← List.getLast?_eq_getElem?, hr]; rfl
 have hl : (prodN p q p.length).getLast? = some 1 := by
  have e1 := lastx hp
  rw [hi] at e1 ⊢
  rw [prod_last q0, lastx hq]
  have e2 : i + 1 - 1 = i := by omega
  rw [e2] at e1
  rw [e1, Rat.mul_one]
 refine ev_inj (mono_tr hl).1 (mono_tr hT).1 fun x => ?_
 rw [ev_prod q0 x p.length (Nat.le_refl _), List.take_length, h x]
theorem stp_z {s k : Nat} {pre : Nums} {j : Nat} {v : Rat} (h : Qz s pre) (hv : Rz k v) : Qz (s + k + 1) (stp pre j v) := by
 unfold stp
 split
 ·rename_i hj
  refine (h.mo (by omega)).set' ?_
  have : Rz s (rx pre j) := by
   unfold rx
   rw [List.getD_eq_getElem?_getD, List.getElem?_eq_getElem hj]
   exact h _ (List.getElem_mem _)
  exact (this.add1 hv).more (by omega)
 ·intro c hc
  rcases List.mem_append.1 hc with hc | hc
  ·exact (h c hc).more (by omega)
  ·rw [List.mem_singleton.1 hc]; exact hv.more (by omega)
theorem rx_z {k : Nat} {p : Nums} (h : Qz k p) (hk : 1 ≤ k) (i : Nat) : Rz k (rx p i) := by
 unfold rx
 rw [List.getD_eq_getElem?_getD]
 cases e : p[i]? with
 | none => exact Rz.zr.more hk
 | some c => exact h c (List.mem_of_getElem? e)
theorem row_z {k : Nat} {p q : Nums} (hp : Qz k p) (hq : Qz k q) (hk : 1 ≤ k) {i s : Nat} {pre : Nums} (h : Qz s pre) : ∀ t, Qz (s + t * (2 * k + 1)) (rowN q (rx p i) i pre t)
 | 0 => h.mo (by omega)
 | t + 1 => by
   have ih := row_z hp hq hk (i := i) h t
   have e : (t + 1) * (2 * k + 1) = t * (2 * k + 1) + (2 * k + 1) := Nat.succ_mul _ _
   show Qz _ (stp (rowN q (rx p i) i pre t) (i + t) (rx p i * rx q t))
   exact (stp_z ih ((rx_z hp hk i).mul (rx_z hq hk t))).mo (by omega)
theorem prod_z {k : Nat} {p q : Nums} (hp : Qz k p) (hq : Qz k q) (hk : 1 ≤ k) : ∀ i, Qz (i * (q.length * (2 * k + 1))) (prodN p q i)
 | 0 => fun c hc => by cases hc
 | i + 1 => by
   have ih := prod_z hp hq hk i
   have e : (i + 1) * (q.length * (2 * k + 1)) = i * (q.length * (2 * k + 1)) + q.length * (2 * k + 1) := Nat.succ_mul _ _
   show Qz _ (rowN q (rx p i) i (prodN p q i) q.length)
   exact (row_z hp hq hk ih q.length).mo (by omega)
end Go.Proofs.YtmchjmflkaiakaaGreatDoor
