/- Joined texts: CnA CnM CnB. -/
import Derived.Test.YtoejojfjiikogaaDoorCaB
import Derived.Test.YtoejojfjiikogaaDoorSpV
import Derived.OpenShut
import Derived.LoopN
namespace Go.Proofs.YtoejojfjiikogaaDoor
set_option linter.unusedVariables false
theorem Sz_iff {k n : Nat} : Sz k n ↔ n < 256 ^ k := bstr_length_le
theorem Sz.add' {k m n : Nat} (h : Sz k m) (h' : Sz k n) : Sz (k + 1) (m + n) := by
  rw [Sz_iff] at *
  rw [Nat.pow_succ]; omega
/-- a number times a denominator is an integer of few bytes -/
def Cz (K D : Nat) (x : Rat) : Prop := ∃ n : Int, x * ((D : Int) : Rat) = (n : Rat) ∧ Sz K n.natAbs
theorem rat_self (x : Rat) : x * ((x.den : Int) : Rat) = (x.num : Rat) := by
  have h : mkRat x.num x.den = x := Rat.mkRat_self x
  rw [Rat.mkRat_eq_div] at h
  have hne : (x.den : Rat) ≠ 0 := by
    intro e
    have := Rat.natCast_eq_zero_iff.1 e
    have := x.den_pos
    omega
  rw [Rat.intCast_natCast]
  conv => lhs; lhs; rw [← h]
  rw [Rat.div_def, Rat.mul_assoc, Rat.inv_mul_cancel _ hne, Rat.mul_one]
theorem Rz.of_int {x : Rat} {z w : Int} {K : Nat} (h : x * (z : Rat) = (w : Rat)) (hz : z ≠ 0) (h1 : Sz K z.natAbs) (h2 : Sz K w.natAbs) : Rz K x := by
  have key : ∀ (d : Nat) (n : Int), d ≠ 0 → x * ((d : Int) : Rat) = (n : Rat) → Sz K d → Sz K n.natAbs → Rz K x := by
    intro d n hd hx hsd hsn
    have hx2 : x = mkRat n d := by
      rw [Rat.mkRat_eq_div]
      have hne : ((d : Int) : Rat) ≠ 0 := by
        intro e
        have : ((d : Int) : Rat) = ((0 : Int) : Rat) := by rw [e]; rfl
        have := Rat.intCast_inj.1 this
        omega
      have e2 : ((d : Int) : Rat) = (d : Rat) := Rat.intCast_natCast d
      rw [← hx, Rat.div_def, ← e2, Rat.mul_assoc, Rat.mul_inv_cancel _ hne, Rat.mul_one]
    obtain ⟨a, b⟩ := den_dvd n d (by omega)
    rw [hx2]
    exact ⟨hsn.le a, hsd.le b⟩
  rcases Int.natAbs_eq z with e | e
  · refine key z.natAbs w (by omega) ?_ h1 h2
    rw [← e]; exact h
  · refine key z.natAbs (-w) (by omega) ?_ h1 (by rw [Int.natAbs_neg]; exact h2)
    have : ((z.natAbs : Int) : Rat) = -(z : Rat) := by
      rw [← Rat.intCast_neg]; congr 1; omega
    rw [this, Rat.mul_neg, h, Rat.intCast_neg]
theorem Cz.rz {K D : Nat} {x : Rat} (h : Cz K D x) (h0 : 0 < D) (hD : Sz K D) : Rz K x := by
  obtain ⟨n, e, s⟩ := h
  exact Rz.of_int (z := (D : Int)) e (by omega) (by simpa using hD) s
theorem Cz.more {K L D : Nat} {x : Rat} (h : Cz K D x) (hk : K ≤ L) : Cz L D x := by
  obtain ⟨n, e, s⟩ := h; exact ⟨n, e, s.more hk⟩
theorem Cz.min {K D : Nat} {x y : Rat} (h : Cz K D x) (h' : Cz K D y) : Cz K D (minQ x y) := by
  rw [minQ_eq]; split <;> assumption
theorem Cz.max {K D : Nat} {x y : Rat} (h : Cz K D x) (h' : Cz K D y) : Cz K D (maxQ x y) := by
  rw [maxQ_eq]; split <;> assumption
theorem Cz.add {K D : Nat} {x y : Rat} (h : Cz K D x) (h' : Cz K D y) : Cz (K + 1) D (x + y) := by
  obtain ⟨n, e, s⟩ := h
  obtain ⟨m, e', s'⟩ := h'
  refine ⟨n + m, by rw [Rat.add_mul, e, e', Rat.intCast_add], (s.add' s').le (Int.natAbs_add_le _ _)⟩
theorem Cz.neg {K D : Nat} {x : Rat} (h : Cz K D x) : Cz K D (-x) := by
  obtain ⟨n, e, s⟩ := h
  exact ⟨-n, by rw [Rat.neg_mul, e, Rat.intCast_neg], by rw [Int.natAbs_neg]; exact s⟩
theorem Cz.sub {K D : Nat} {x y : Rat} (h : Cz K D x) (h' : Cz K D y) : Cz (K + 1) D (x - y) := by
  rw [Rat.sub_eq_add_neg]; exact h.add h'.neg
/-- a product -/
theorem Cz.mul {K L D E : Nat} {x y : Rat} (h : Cz K D x) (h' : Cz L E y) : Cz (K + L) (D * E) (x * y) := by
  obtain ⟨n, e, s⟩ := h
  obtain ⟨m, e', s'⟩ := h'
  refine ⟨n * m, ?_, by rw [Int.natAbs_mul]; exact s.mul s'⟩
  rw [Int.natCast_mul, Rat.intCast_mul, Rat.intCast_mul, ← e, ← e']
  grind
/-- with more in the denominator -/
theorem Cz.wide {K L D E : Nat} {x : Rat} (h : Cz K D x) (hE : Sz L E) : Cz (K + L) (D * E) x := by
  obtain ⟨n, e, s⟩ := h
  refine ⟨n * (E : Int), ?_, by rw [Int.natAbs_mul]; exact s.mul (by simpa using hE)⟩
  rw [Int.natCast_mul, Rat.intCast_mul, Rat.intCast_mul, ← e]
  grind
theorem Cz.self {k : Nat} {x : Rat} (h : Rz k x) : Cz k x.den x := ⟨x.num, rat_self x, h.1⟩
theorem Cz.swap {K D E : Nat} {x : Rat} (h : Cz K (D * E) x) : Cz K (E * D) x := by rw [Nat.mul_comm]; exact h
/-- cosine and sine over one denominator -/
theorem trig_cz {k : Nat} {t : Rat} (h : Rz k t) : ∃ E : Nat, 0 < E ∧ Sz (2 * k + 1) E ∧ Cz (2 * k + 1) E (cosT false t) ∧ Cz (2 * k + 1) E (sinT t) := by
  have hp : Sz (k + k) (t.num.natAbs * t.num.natAbs) := h.1.mul h.1
  have hq : Sz (k + k) (t.den * t.den) := h.2.mul h.2
  have hE : Sz (2 * k + 1) (t.den * t.den + t.num.natAbs * t.num.natAbs) := (hq.add' hp).more (by omega)
  have hd : 0 < t.den := t.den_pos
  have hd2 : 0 < t.den * t.den := Nat.mul_pos hd hd
  have e0 := rat_self t
  have hne : (1 : Rat) + t * t ≠ 0 := by have := one_sq_pos t; grind
  have eE : (((t.den * t.den + t.num.natAbs * t.num.natAbs : Nat) : Int) : Rat) = (1 + t * t) * (((t.den : Int) : Rat) * ((t.den : Int) : Rat)) := by
    have e1 : ((t.den * t.den + t.num.natAbs * t.num.natAbs : Nat) : Int) = (t.den : Int) * (t.den : Int) + t.num * t.num := by
      rw [Int.natCast_add, Int.natCast_mul, Int.natCast_mul, Int.natAbs_mul_self' t.num] 
    rw [e1, Rat.intCast_add, Rat.intCast_mul, Rat.intCast_mul, ← e0]
    grind
  refine ⟨t.den * t.den + t.num.natAbs * t.num.natAbs, by omega, hE, ⟨(t.den : Int) * (t.den : Int) - t.num * t.num, ?_, ?_⟩, ⟨(t.num + t.num) * (t.den : Int), ?_, ?_⟩⟩
  · rw [eE, Rat.intCast_sub, Rat.intCast_mul, Rat.intCast_mul, ← e0, show cosT false t = (1 - t * t) / (1 + t * t) from rfl, Rat.div_def]
    have := Rat.mul_inv_cancel _ hne
    generalize (1 + t * t)⁻¹ = y at *
    grind
  · refine hE.le ?_
    have a1 : ((t.den : Int) * (t.den : Int)).natAbs = t.den * t.den := by rw [Int.natAbs_mul]; simp
    have a2 : (t.num * t.num).natAbs = t.num.natAbs * t.num.natAbs := Int.natAbs_mul _ _
    omega
  · rw [eE, Rat.intCast_mul, Rat.intCast_add, ← e0, show sinT t = (t + t) / (1 + t * t) from rfl, Rat.div_def]
    have := Rat.mul_inv_cancel _ hne
    generalize (1 + t * t)⁻¹ = y at *
    grind
  · refine hE.le ?_
    have a1 : ((t.num + t.num) * (t.den : Int)).natAbs = 2 * (t.num.natAbs * t.den) := by
      rw [Int.natAbs_mul, show t.num + t.num = 2 * t.num by omega, Int.natAbs_mul, Nat.mul_assoc]; simp
    rw [a1]
    generalize t.num.natAbs = p
    generalize t.den = q
    rcases Nat.le_total p q with h | h
    · obtain ⟨r, rfl⟩ := Nat.exists_eq_add_of_le h
      grind
    · obtain ⟨r, rfl⟩ := Nat.exists_eq_add_of_le h
      grind
/-- four numbers over one denominator -/
def DP (K : Nat) (a b c d : Rat) : Prop := ∃ D : Nat, 0 < D ∧ Sz K D ∧ Cz K D a ∧ Cz K D b ∧ Cz K D c ∧ Cz K D d
theorem DP.more {K L : Nat} {a b c d : Rat} (h : DP K a b c d) (hk : K ≤ L) : DP L a b c d := by
  obtain ⟨D, h0, hD, h1, h2, h3, h4⟩ := h
  exact ⟨D, h0, hD.more hk, h1.more hk, h2.more hk, h3.more hk, h4.more hk⟩
theorem DP.rz {K : Nat} {a b c d : Rat} (h : DP K a b c d) : Rz K a ∧ Rz K b ∧ Rz K c ∧ Rz K d := by
  obtain ⟨D, h0, hD, h1, h2, h3, h4⟩ := h
  exact ⟨h1.rz h0 hD, h2.rz h0 hD, h3.rz h0 hD, h4.rz h0 hD⟩
theorem DP.start {k : Nat} {a b c d : Rat} (ha : Rz k a) (hb : Rz k b) (hc : Rz k c) (hd : Rz k d) : DP (4 * k) a b c d := by
  refine ⟨a.den * b.den * c.den * d.den, Nat.mul_pos (Nat.mul_pos (Nat.mul_pos a.den_pos b.den_pos) c.den_pos) d.den_pos, (((ha.2.mul hb.2).mul hc.2).mul hd.2).more (by omega), ?_, ?_, ?_, ?_⟩
  · exact ((((Cz.self ha).wide hb.2).wide hc.2).wide hd.2).more (by omega)
  · exact (((((Cz.self hb).wide ha.2).swap).wide hc.2).wide hd.2).more (by omega)
  · exact ((((Cz.self hc).wide (ha.2.mul hb.2)).swap).wide hd.2).more (by omega)
  · exact (((Cz.self hd).wide ((ha.2.mul hb.2).mul hc.2)).swap).more (by omega)
/-- all four less numbers u (the first two) and v -/
theorem DP.shift {K k : Nat} {a b c d u v : Rat} (h : DP K a b c d) (hu : Rz k u) (hv : Rz k v) : DP (K + 2 * k + 1) (a - u) (b - u) (c - v) (d - v) ∧ DP (K + 2 * k + 1) (a + u) (b + u) (c + v) (d + v) := by
  obtain ⟨D, h0, hD, h1, h2, h3, h4⟩ := h
  have w : ∀ {x : Rat}, Cz K D x → Cz (K + 2 * k) (D * (u.den * v.den)) x := fun hx => (hx.wide (hu.2.mul hv.2)).more (by omega)
  have wu : Cz (K + 2 * k) (D * (u.den * v.den)) u := ((((Cz.self hu).wide hv.2).wide hD).swap).more (by omega)
  have wv : Cz (K + 2 * k) (D * (u.den * v.den)) v := (((((Cz.self hv).wide hu.2).swap).wide hD).swap).more (by omega)
  have p0 : 0 < D * (u.den * v.den) := Nat.mul_pos h0 (Nat.mul_pos u.den_pos v.den_pos)
  have pD : Sz (K + 2 * k + 1) (D * (u.den * v.den)) := (hD.mul (hu.2.mul hv.2)).more (by omega)
  exact ⟨⟨_, p0, pD, (w h1).sub wu, (w h2).sub wu, (w h3).sub wv, (w h4).sub wv⟩, ⟨_, p0, pD, (w h1).add wu, (w h2).add wu, (w h3).add wv, (w h4).add wv⟩⟩
theorem DP.widen {K k : Nat} {a b c d u : Rat} (h : DP K a b c d) (hu : Rz k u) : DP (K + k + 1) (a - u) (b + u) (c - u) (d + u) := by
  obtain ⟨D, h0, hD, h1, h2, h3, h4⟩ := h
  have w : ∀ {x : Rat}, Cz K D x → Cz (K + k) (D * u.den) x := fun hx => hx.wide hu.2
  have wu : Cz (K + k) (D * u.den) u := (((Cz.self hu).wide hD).swap).more (by omega)
  exact ⟨_, Nat.mul_pos h0 u.den_pos, (hD.mul hu.2).more (by omega), (w h1).sub wu, (w h2).add wu, (w h3).sub wu, (w h4).add wu⟩
theorem DP.turn {K k : Nat} {a b c d t s' : Rat} (h : DP K a b c d) (ht : Rz k t) (hs : s' = sinT t ∨ s' = -(sinT t)) : DP (K + 2 * k + 2) (rX0 (cosT false t) s' a b c d) (rX1 (cosT false t) s' a b c d) (rY0 (cosT false t) s' a b c d) (rY1 (cosT false t) s' a b c d) := by
  obtain ⟨D, h0, hD, h1, h2, h3, h4⟩ := h
  obtain ⟨E, e0, hE, hc, hs0⟩ := trig_cz ht
  have hs1 : Cz (2 * k + 1) E s' := by rcases hs with rfl | rfl; exact hs0; exact hs0.neg
  have mc : ∀ {x : Rat}, Cz K D x → Cz (K + 2 * k + 1) (D * E) (cosT false t * x) := fun hx => by
    rw [Rat.mul_comm]; exact (hx.mul hc).more (by omega)
  have ms : ∀ {x : Rat}, Cz K D x → Cz (K + 2 * k + 1) (D * E) (s' * x) := fun hx => by
    rw [Rat.mul_comm]; exact (hx.mul hs1).more (by omega)
  exact ⟨_, Nat.mul_pos h0 e0, (hD.mul hE).more (by omega), ((mc h1).min (mc h2)).sub ((ms h3).max (ms h4)), ((mc h1).max (mc h2)).sub ((ms h3).min (ms h4)), ((ms h1).min (ms h2)).add ((mc h3).min (mc h4)), ((ms h1).max (ms h2)).add ((mc h3).max (mc h4))⟩
/-- joint values: sizes add up -/
theorem tu_sz {K k : Nat} {a t : Rat} (ha : Rz k a) (ht : Rz K t) (h0 : 1 - a * t ≠ 0) : Rz (K + k + 1) (tuQ a t) := by
  have ea := rat_self a
  have et := rat_self t
  have hda : ((a.den : Int) : Rat) ≠ 0 := by
    intro e
    have : ((a.den : Int) : Rat) = ((0 : Int) : Rat) := by rw [e]; rfl
    have := Rat.intCast_inj.1 this
    have := a.den_pos
    omega
  have hdt : ((t.den : Int) : Rat) ≠ 0 := by
    intro e
    have : ((t.den : Int) : Rat) = ((0 : Int) : Rat) := by rw [e]; rfl
    have := Rat.intCast_inj.1 this
    have := t.den_pos
    omega
  have ez : (((t.den : Int) * (a.den : Int) - a.num * t.num : Int) : Rat) = (1 - a * t) * (((t.den : Int) : Rat) * ((a.den : Int) : Rat)) := by
    rw [Rat.intCast_sub, Rat.intCast_mul, Rat.intCast_mul, ← ea, ← et]; grind
  have ew : ((t.num * (a.den : Int) + a.num * (t.den : Int) : Int) : Rat) = (t + a) * (((t.den : Int) : Rat) * ((a.den : Int) : Rat)) := by
    rw [Rat.intCast_add, Rat.intCast_mul, Rat.intCast_mul, ← ea, ← et]; grind
  refine Rz.of_int (z := (t.den : Int) * (a.den : Int) - a.num * t.num) (w := t.num * (a.den : Int) + a.num * (t.den : Int)) ?_ ?_ ?_ ?_
  · rw [ez, ew]
    unfold tuQ
    rw [Rat.div_def]
    have := Rat.mul_inv_cancel _ h0
    generalize (1 - a * t)⁻¹ = y at *
    grind
  · intro e
    rw [e] at ez
    have h1 : (1 - a * t) * (((t.den : Int) : Rat) * ((a.den : Int) : Rat)) = 0 := by rw [← ez]; rfl
    rcases Rat.mul_eq_zero.1 h1 with h2 | h2
    · exact h0 h2
    · rcases Rat.mul_eq_zero.1 h2 with h3 | h3
      · exact hdt h3
      · exact hda h3
  · have h1 : Sz (K + k) ((t.den : Int) * (a.den : Int)).natAbs := by rw [Int.natAbs_mul]; simpa using ht.2.mul ha.2
    have h2 : Sz (K + k) (a.num * t.num).natAbs := by rw [Int.natAbs_mul, Nat.mul_comm]; exact ht.1.mul ha.1
    exact (h1.add' h2).le (by omega)
  · have h1 : Sz (K + k) (t.num * (a.den : Int)).natAbs := by rw [Int.natAbs_mul]; simpa using ht.1.mul ha.2
    have h2 : Sz (K + k) (a.num * (t.den : Int)).natAbs := by rw [Int.natAbs_mul, Nat.mul_comm]; simpa using ht.2.mul ha.1
    exact (h1.add' h2).le (Int.natAbs_add_le _ _)
theorem pm_sz {K k : Nat} {a t : Rat} (ha : Rz k a) (ht : Rz K t) : Rz (K + k + 1) (t - a) ∧ Rz (K + k + 1) (t + a) := by
  have wt : Cz (K + k) (t.den * a.den) t := (Cz.self ht).wide ha.2
  have wa : Cz (K + k) (t.den * a.den) a := (((Cz.self ha).wide ht.2).swap).more (by omega)
  have p0 : 0 < t.den * a.den := Nat.mul_pos t.den_pos a.den_pos
  have pD : Sz (K + k + 1) (t.den * a.den) := (ht.2.mul ha.2).more (by omega)
  exact ⟨(wt.sub wa).rz p0 pD, (wt.add wa).rz p0 pD⟩
structure P6 where
  a : Rat
  b : Rat
  c : Rat
  d : Rat
  e : Rat
  f : Rat
structure F4 where
  u : Rat
  v : Rat
  h : Bool
  t : Rat
def z6 : P6 := ⟨0, 0, 0, 0, 0, 0⟩
def gripP (p : P6) (g : F4) : Int × P6 := if g.h = true then (3, z6) else if tOk (-g.t) p.e p.f = true then (0, ⟨gX0 p.a p.b p.c p.d g.u g.v g.t, gX1 p.a p.b p.c p.d g.u g.v g.t, gY0 p.a p.b p.c p.d g.u g.v g.t, gY1 p.a p.b p.c p.d g.u g.v g.t, tuQ (-g.t) p.e, tuQ (-g.t) p.f⟩) else (18, z6)
def putP (p : P6) (g : F4) : Int × P6 := if g.h = true then (3, z6) else if tOk g.t p.e p.f = true then (0, ⟨pX0 p.a p.b p.c p.d g.u g.v g.t, pX1 p.a p.b p.c p.d g.u g.v g.t, pY0 p.a p.b p.c p.d g.u g.v g.t, pY1 p.a p.b p.c p.d g.u g.v g.t, tuQ g.t p.e, tuQ g.t p.f⟩) else (18, z6)
def wideP (p : P6) (b s : Rat) : P6 := ⟨p.a - maxQ b 0, p.b + maxQ b 0, p.c - maxQ b 0, p.d + maxQ b 0, p.e - maxQ s 0, p.f + maxQ s 0⟩
def roundP (b s : Rat) (p : P6) (g h : F4) : Int × P6 := if (gripP p g).1 = 0 then putP (wideP (gripP p g).2 b s) h else gripP p g
def drP (b s : Rat) (p : P6) (G H : Nat → F4) : Nat → Int × P6
  | 0 => (0, p)
  | i + 1 => if (drP b s p G H i).1 = 0 then roundP b s (drP b s p G H i).2 (G i) (H i) else drP b s p G H i
section
variable {b s : Rat} {p q : P6} {G H : Nat → F4} {i n : Nat} {g h : F4}
theorem drP_succ (hd : drP b s p G H i = (0, q)) : drP b s p G H (i + 1) = roundP b s q (G i) (H i) := by
  simp only [drP, hd, if_pos]
theorem drP_stay {e : Int} (hd : drP b s p G H i = (e, q)) (he : e ≠ 0) (hi : i ≤ n) : drP b s p G H n = (e, q) := by
  obtain ⟨m, rfl⟩ := Nat.exists_eq_add_of_le hi
  induction m with
  | zero => exact hd
  | succ m ih =>
    have := ih (by omega)
    show drP b s p G H (i + m + 1) = _
    simp only [drP, this, if_neg he]
theorem round_ghalf (hg : g.h = true) : roundP b s q g h = (3, z6) := by
  have : gripP q g = (3, z6) := if_pos hg
  unfold roundP; rw [this]; rfl
theorem round_gno (hg : g.h = false) (hok : tOk (-g.t) q.e q.f = false) : roundP b s q g h = (18, z6) := by
  have : gripP q g = (18, z6) := by unfold gripP; rw [if_neg (by rw [hg]; decide), if_neg (by rw [hok]; decide)]
  unfold roundP; rw [this]; rfl
/-- the six numbers after Grip, by name -/
def GripE (q : P6) (g : F4) (u0 u1 u2 u3 u4 u5 : Rat) : Prop := gX0 q.a q.b q.c q.d g.u g.v g.t = u0 ∧ gX1 q.a q.b q.c q.d g.u g.v g.t = u1 ∧ gY0 q.a q.b q.c q.d g.u g.v g.t = u2 ∧ gY1 q.a q.b q.c q.d g.u g.v g.t = u3 ∧ tuQ (-g.t) q.e = u4 ∧ tuQ (-g.t) q.f = u5
def WideE (b s u0 u1 u2 u3 u4 u5 x0 x1 x2 x3 x4 x5 : Rat) : Prop := u0 - maxQ b 0 = x0 ∧ u1 + maxQ b 0 = x1 ∧ u2 - maxQ b 0 = x2 ∧ u3 + maxQ b 0 = x3 ∧ u4 - maxQ s 0 = x4 ∧ u5 + maxQ s 0 = x5
def PutE (x0 x1 x2 x3 x4 x5 : Rat) (h : F4) (w0 w1 w2 w3 w4 w5 : Rat) : Prop := pX0 x0 x1 x2 x3 h.u h.v h.t = w0 ∧ pX1 x0 x1 x2 x3 h.u h.v h.t = w1 ∧ pY0 x0 x1 x2 x3 h.u h.v h.t = w2 ∧ pY1 x0 x1 x2 x3 h.u h.v h.t = w3 ∧ tuQ h.t x4 = w4 ∧ tuQ h.t x5 = w5
variable {u0 u1 u2 u3 u4 u5 x0 x1 x2 x3 x4 x5 w0 w1 w2 w3 w4 w5 : Rat}
theorem round_put (hg : g.h = false) (hok : tOk (-g.t) q.e q.f = true) (hu : GripE q g u0 u1 u2 u3 u4 u5) (hx : WideE b s u0 u1 u2 u3 u4 u5 x0 x1 x2 x3 x4 x5) : roundP b s q g h = putP ⟨x0, x1, x2, x3, x4, x5⟩ h := by
  obtain ⟨rfl, rfl, rfl, rfl, rfl, rfl⟩ := hu
  obtain ⟨rfl, rfl, rfl, rfl, rfl, rfl⟩ := hx
  have e : gripP q g = (0, ⟨gX0 q.a q.b q.c q.d g.u g.v g.t, gX1 q.a q.b q.c q.d g.u g.v g.t, gY0 q.a q.b q.c q.d g.u g.v g.t, gY1 q.a q.b q.c q.d g.u g.v g.t, tuQ (-g.t) q.e, tuQ (-g.t) q.f⟩) := by unfold gripP; rw [if_neg (by rw [hg]; decide), if_pos hok]
  unfold roundP; rw [e]; rfl
theorem putP_half (hh : h.h = true) : putP q h = (3, z6) := if_pos hh
theorem putP_no (hh : h.h = false) (hok : tOk h.t q.e q.f = false) : putP q h = (18, z6) := by unfold putP; rw [if_neg (by rw [hh]; decide), if_neg (by rw [hok]; decide)]
theorem putP_yes (hh : h.h = false) (hok : tOk h.t x4 x5 = true) (hw : PutE x0 x1 x2 x3 x4 x5 h w0 w1 w2 w3 w4 w5) : putP ⟨x0, x1, x2, x3, x4, x5⟩ h = (0, ⟨w0, w1, w2, w3, w4, w5⟩) := by
  obtain ⟨rfl, rfl, rfl, rfl, rfl, rfl⟩ := hw
  unfold putP; rw [if_neg (by rw [hh]; decide), if_pos hok]
structure Inw (K T : Nat) (p : P6) : Prop where
  dp : DP K p.a p.b p.c p.d
  te : Rz T p.e
  tf : Rz T p.f
  l1 : p.a ≤ p.b
  l2 : p.c ≤ p.d
  l3 : p.e ≤ p.f
variable {K T k : Nat}
theorem Inw.grip (hI : Inw K T q) (h1 : Rz k g.u) (h2 : Rz k g.v) (h3 : Rz k g.t) (hok : tOk (-g.t) q.e q.f = true) (hu : GripE q g u0 u1 u2 u3 u4 u5) : Inw (K + 4 * k + 3) (T + k + 1) ⟨u0, u1, u2, u3, u4, u5⟩ := by
  obtain ⟨rfl, rfl, rfl, rfl, rfl, rfl⟩ := hu
  obtain ⟨n1, n2⟩ := tOk_ne hok
  exact ⟨((hI.dp.shift h1 h2).1.turn h3 (.inr rfl)).more (by omega), tu_sz h3.neg hI.te n1, tu_sz h3.neg hI.tf n2, (g_le q.a q.b q.c q.d g.u g.v g.t).1, (g_le q.a q.b q.c q.d g.u g.v g.t).2, tuQ_le hok hI.l3⟩
theorem Inw.wide (hI : Inw K T ⟨u0, u1, u2, u3, u4, u5⟩) (h2 : 2 ≤ k) (h1 : Rz k b) (h3 : Rz k s) (hx : WideE b s u0 u1 u2 u3 u4 u5 x0 x1 x2 x3 x4 x5) : Inw (K + k + 1) (T + k + 1) ⟨x0, x1, x2, x3, x4, x5⟩ := by
  obtain ⟨rfl, rfl, rfl, rfl, rfl, rfl⟩ := hx
  have hb : Rz k (maxQ b 0) := h1.max (Rz.zero2.more h2)
  have hs : Rz k (maxQ s 0) := h3.max (Rz.zero2.more h2)
  exact ⟨hI.dp.widen hb, (pm_sz hs hI.te).1, (pm_sz hs hI.tf).2, wide_le hI.l1, wide_le hI.l2, wide_le hI.l3⟩
theorem Inw.put (hI : Inw K T ⟨x0, x1, x2, x3, x4, x5⟩) (h1 : Rz k h.u) (h2 : Rz k h.v) (h3 : Rz k h.t) (hok : tOk h.t x4 x5 = true) (hw : PutE x0 x1 x2 x3 x4 x5 h w0 w1 w2 w3 w4 w5) : Inw (K + 4 * k + 3) (T + k + 1) ⟨w0, w1, w2, w3, w4, w5⟩ := by
  obtain ⟨rfl, rfl, rfl, rfl, rfl, rfl⟩ := hw
  obtain ⟨n1, n2⟩ := tOk_ne hok
  exact ⟨((hI.dp.turn h3 (.inl rfl)).shift h1 h2).2.more (by omega), tu_sz h3 hI.te n1, tu_sz h3 hI.tf n2, (p_le x0 x1 x2 x3 h.u h.v h.t).1, (p_le x0 x1 x2 x3 h.u h.v h.t).2, tuQ_le hok hI.l3⟩
theorem Inw.more {L U : Nat} (hI : Inw K T q) (h1 : K ≤ L) (h2 : T ≤ U) : Inw L U q := ⟨hI.dp.more h1, hI.te.more h2, hI.tf.more h2, hI.l1, hI.l2, hI.l3⟩
/-- how great the numbers may be after i ways -/
def Kf (k i : Nat) : Nat := 4 * k + i * (9 * k + 7)
theorem Kf_succ (k i : Nat) : Kf k (i + 1) = Kf k i + (9 * k + 7) := by unfold Kf; rw [Nat.add_mul, Nat.one_mul]; omega
theorem Kf_le (k i : Nat) (h : i ≤ 40) : Kf k i ≤ 364 * k + 280 := by
  have := Nat.mul_le_mul_right (9 * k + 7) h
  unfold Kf; omega
def KI (k i : Nat) (p : P6) : Prop := Inw (Kf k i) (Kf k i) p
theorem KI.start (h1 : Rz k p.a) (h2 : Rz k p.b) (h3 : Rz k p.c) (h4 : Rz k p.d) (h5 : Rz k p.e) (h6 : Rz k p.f) (l1 : p.a ≤ p.b) (l2 : p.c ≤ p.d) (l3 : p.e ≤ p.f) : KI k 0 p :=
  ⟨(DP.start h1 h2 h3 h4).more (by unfold Kf; omega), h5.more (by unfold Kf; omega), h6.more (by unfold Kf; omega), l1, l2, l3⟩
/-- all six numbers are of one size -/
def Six (K : Nat) (a b c d e f : Rat) : Prop := Rz K a ∧ Rz K b ∧ Rz K c ∧ Rz K d ∧ Rz K e ∧ Rz K f
theorem Inw.six (hI : Inw K T ⟨x0, x1, x2, x3, x4, x5⟩) (h1 : K ≤ n) (h2 : T ≤ n) : Six n x0 x1 x2 x3 x4 x5 :=
  ⟨hI.dp.rz.1.more h1, hI.dp.rz.2.1.more h1, hI.dp.rz.2.2.1.more h1, hI.dp.rz.2.2.2.more h1, hI.te.more h2, hI.tf.more h2⟩
/-- what a way's steps make: the sizes of all -/
theorem KI.round (hI : KI k i q) (hi : i < 40) (hk : 2 ≤ k) (h1 : Rz k g.u) (h2 : Rz k g.v) (h3 : Rz k g.t) (hok : tOk (-g.t) q.e q.f = true) (hu : GripE q g u0 u1 u2 u3 u4 u5)
    (hb : Rz k b) (hs : Rz k s) (hx : WideE b s u0 u1 u2 u3 u4 u5 x0 x1 x2 x3 x4 x5) :
    Six (364 * k + 280) u0 u1 u2 u3 u4 u5 ∧ (u0 ≤ u1 ∧ u2 ≤ u3 ∧ u4 ≤ u5) ∧ Six (364 * k + 280) x0 x1 x2 x3 x4 x5 ∧ (x0 ≤ x1 ∧ x2 ≤ x3 ∧ x4 ≤ x5) ∧
    (∀ w0 w1 w2 w3 w4 w5, Rz k h.u → Rz k h.v → Rz k h.t → tOk h.t x4 x5 = true → PutE x0 x1 x2 x3 x4 x5 h w0 w1 w2 w3 w4 w5 → KI k (i + 1) ⟨w0, w1, w2, w3, w4, w5⟩ ∧ Six (364 * k + 280) w0 w1 w2 w3 w4 w5 ∧ (w0 ≤ w1 ∧ w2 ≤ w3 ∧ w4 ≤ w5)) := by
  have hm := Kf_le k (i + 1) (by omega)
  have hsu := Kf_succ k i
  have a1 := Inw.grip (q := q) (g := g) hI h1 h2 h3 hok hu
  have a2 := a1.wide hk hb hs hx
  refine ⟨a1.six (by omega) (by omega), ⟨a1.l1, a1.l2, a1.l3⟩, a2.six (by omega) (by omega), ⟨a2.l1, a2.l2, a2.l3⟩, fun w0 w1 w2 w3 w4 w5 e1 e2 e3 e4 e5 => ?_⟩
  have a3 := a2.put e1 e2 e3 e4 e5
  exact ⟨a3.more (by omega) (by omega), a3.six (by omega) (by omega), ⟨a3.l1, a3.l2, a3.l3⟩⟩
theorem KI.six (hI : KI k i ⟨x0, x1, x2, x3, x4, x5⟩) (hi : i ≤ 40) : Six (364 * k + 280) x0 x1 x2 x3 x4 x5 ∧ (x0 ≤ x1 ∧ x2 ≤ x3 ∧ x4 ≤ x5) :=
  ⟨Inw.six hI (Kf_le k i hi) (Kf_le k i hi), hI.l1, hI.l2, hI.l3⟩
end
theorem w0l (x : Rat) : x - maxQ 0 0 = x := by rw [show maxQ 0 0 = 0 from by decide +kernel]; grind
theorem w0r (x : Rat) : x + maxQ 0 0 = x := by rw [show maxQ 0 0 = 0 from by decide +kernel]; grind
end Go.Proofs.YtoejojfjiikogaaDoor
namespace Go.Proofs.YtoejojfjiikogaaDoor
open Go.RowKit Go.ChangeShapes Go.WideShapes Go.Deep
set_option linter.unusedVariables false
set_option linter.unusedSimpArgs false

/-- two frames -/
def F2W (a b : RT) (h : Bool) (t a2 b2 : RT) (h2 : Bool) (t2 : RT) : Array Value := #[.bool a.s, .string a.a, .string a.d, .bool b.s, .string b.a, .string b.d, .bool h, .bool t.s, .string t.a, .string t.d, .bool a2.s, .string a2.a, .string a2.d, .bool b2.s, .string b2.a, .string b2.d, .bool h2, .bool t2.s, .string t2.a, .string t2.d]
theorem F2W_one (a b : RT) (h : Bool) (t a2 b2 : RT) (h2 : Bool) (t2 : RT) : ∀ u ∈ F2W a b h t a2 b2 h2 t2, u.oneCell' = true := by
  intro u hu
  simp only [F2W, List.mem_toArray, List.mem_cons, List.not_mem_nil, or_false] at hu
  rcases hu with rfl | rfl | rfl | rfl | rfl | rfl | rfl | rfl | rfl | rfl | rfl | rfl | rfl | rfl | rfl | rfl | rfl | rfl | rfl | rfl <;> rfl
/-- a slot: its name, where it is, its tolerance -/
def SLW (n : ByteArray) (a b : RT) (h : Bool) (t w : RT) : Array Value := #[.string n, .bool a.s, .string a.a, .string a.d, .bool b.s, .string b.a, .string b.d, .bool h, .bool t.s, .string t.a, .string t.d, .bool w.s, .string w.a, .string w.d]
section
variable {P : Program} {ops : Array Oper} {W : World} {l : List Own} {Q : Exit → Act → World → Prop} {gs : List Nat} {k : Nat} {o : Oper} {rest : List Oper} {a : Act} {R : Reg}
/-- a call of a closure with captured variables -/
theorem Seq.callC {f : FuncId} {y : Operand} {xs : List Operand} {ts : Array TypeId} {vs cap : Array Value} {v : Value} (ho : o.op = .call { callee := .value y, args := xs.toArray, argTypes := ts }) (hk : kd gs k o = .val) (hw : wants ops o a = true)
    (hy : a.eval y = .func (.func f) #[] cap) (hx : xs.map a.eval = vs.toList) (hf : goesIn P f = true)
    (hc : ∀ w, St W l w → Calls P f (vs ++ cap) w (fun e w' => e = .returned v ∧ Below w.heap.size w w'))
    (h : Seq P ops Q W l gs (k + 1) rest (a.put o.dst v) R) : Seq P ops Q W l gs k (o :: rest) a R := by
  refine .inl (.inr ⟨hw, ?_⟩)
  rw [hk]
  refine ⟨v, .inr ⟨by simp [isCall, ho], fun w hs => ?_⟩, h⟩
  have hr : (execOp a.eval o).run P w = .ok (.enter f (vs ++ cap)) w := by
    unfold goesIn at hf
    cases hp : P.funcs[f]? with
    | none => simp [hp] at hf
    | some fn =>
      simp only [hp, Bool.and_eq_true, bne_iff_ne, ne_eq] at hf
      have hb : fn.body.isNone = false := by cases hq : fn.body <;> simp_all
      have hv : (xs.map a.eval).toArray = vs := by rw [hx]
      unfold execOp
      simp only [ho, resolve, hy]
      simp [invoke, callFunc, Deferred.ofValue, hp, hf.1, hb, hv, go_sem]
      intro hq; rw [hq] at hb; cases hb
  rw [hr]
  exact ⟨Below.refl _ _, hc w hs⟩
end
theorem slc_W2 {o : Oper} {c : Act} {X Y : Operand} {x y : RT} (ho : o.op = .buildSlice 71 2 #[(0, X), (1, Y)]) (hX : c.eval X = .agg (RT.c x)) (hY : c.eval Y = .agg (RT.c y)) (w : World) :
    (execOp c.eval o).run Tryd.prog w = .ok (.value (.slice (some ⟨w.heap.size, 0, none⟩) 2 2)) (w.alloc (.cells (SW x y) 23)) := by
  unfold RT.c at hX hY
  unfold execOp SW
  simp only [ho, List.map_toArray, List.map_cons, List.map_nil, hX, hY]
  go_simp
section
variable {H : Type} {enc : TypeId × Value → H} {w : World} {base : Nat} {held : Bool} {fuel : Nat} {cs : List Value} {x : DataW H × List MemPlace}
theorem open_str1 (h : DataW.trod enc Tryd.prog w base (fun _ => true) held fuel 9 cs = some x) : ∃ n : ByteArray, cs = [.string n] := by
  obtain ⟨s1, hs1, hx1, _⟩ := DataW.trod_string Tryd.underlying9 h
  exact ⟨s1, hs1⟩
set_option maxRecDepth 20000 in
theorem open_slot (h : DataW.trod enc Tryd.prog w base (fun _ => true) held fuel 35 cs = some x) : ∃ (n : ByteArray) (a b : RT) (hf : Bool) (t u : RT), cs = (SLW n a b hf t u).toList ∧ a.sz (Rows.uptoBulk x.1) ∧ b.sz (Rows.uptoBulk x.1) ∧ t.sz (Rows.uptoBulk x.1) ∧ u.sz (Rows.uptoBulk x.1) := by
  have hl := (open_struct_b Tryd.underlying35 h).1
  rw [show Tryd.prog.cellsOf 35 = 14 by kernel_rfl] at hl
  obtain ⟨y0, n0, h0, e0⟩ := open_field_b Tryd.underlying35 h 0 (T := 9) (off := 0) (c := 1) rfl (by kernel_rfl)
  obtain ⟨y1, n1, h1, e1⟩ := open_field_b Tryd.underlying35 h 1 (T := 33) (off := 1) (c := 10) rfl (by kernel_rfl)
  obtain ⟨y2, n2, h2, e2⟩ := open_field_b Tryd.underlying35 h 2 (T := 23) (off := 11) (c := 3) rfl (by kernel_rfl)
  obtain ⟨n, hn⟩ := open_str1 h0
  obtain ⟨a, b, bv, t, hab, sa, sb, st⟩ := open_frame h1
  obtain ⟨u, hu, su⟩ := open_rat h2
  exact ⟨n, a, b, bv, t, u, join3 (m := 1) (n := 10) (p := 3) hl hn hab hu, sa.more (by omega), sb.more (by omega), st.more (by omega), su.more (by omega)⟩
set_option maxRecDepth 20000 in
theorem open_frames2 (h : DataW.trod enc Tryd.prog w base (fun _ => true) held fuel 49 cs = some x) : ∃ (a b : RT) (hf : Bool) (t a2 b2 : RT) (hf2 : Bool) (t2 : RT), cs = (F2W a b hf t a2 b2 hf2 t2).toList ∧
    (a.sz (Rows.uptoBulk x.1) ∧ b.sz (Rows.uptoBulk x.1) ∧ t.sz (Rows.uptoBulk x.1)) ∧ a2.sz (Rows.uptoBulk x.1) ∧ b2.sz (Rows.uptoBulk x.1) ∧ t2.sz (Rows.uptoBulk x.1) := by
  obtain ⟨xs, m, _, hx, hl, hxl, hi⟩ := DataW.trod_array Tryd.underlying49 h
  rw [show Tryd.prog.cellsOf 49 = 20 by kernel_rfl] at hl
  have hd : x.1 = DataW.agg (xs.map fun y => y.1) := congrArg Prod.fst hx
  have hb : ∀ i (hi : i < xs.length), Rows.uptoBulk (xs[i]).1 ≤ Rows.uptoBulk x.1 := by
    intro i hi
    have := bulkO_mem (ds := xs.map fun y => y.1) (d := (xs[i]).1) (List.mem_map.2 ⟨xs[i], List.getElem_mem _, rfl⟩)
    rw [hd]
    first
      | (simp only [Rows.uptoBulk]; omega)
      | (simp [Rows.uptoBulk]; omega)
  have h0 := hi 0 (by omega)
  have h1 := hi 1 (by omega)
  rw [show Tryd.prog.cellsOf 33 = 10 by kernel_rfl] at h0 h1
  rw [List.getElem?_eq_getElem (by omega)] at h0 h1
  obtain ⟨a, b, hf, t, e0, sa, sb, st⟩ := open_frame h0
  obtain ⟨a2, b2, hf2, t2, e1, sa2, sb2, st2⟩ := open_frame h1
  have b0 := hb 0 (by omega)
  have b1 := hb 1 (by omega)
  have e := join2 (m := 10) (n := 10) hl (show (cs.drop 0).take 10 = (FW a b hf t).toList from e0) (show (cs.drop 10).take 10 = (FW a2 b2 hf2 t2).toList from e1)
  exact ⟨a, b, hf, t, a2, b2, hf2, t2, e, ⟨sa.more b0, sb.more b0, st.more b0⟩, sa2.more b1, sb2.more b1, st2.more b1⟩
end
/-- a slice of pairs of frames that came in: G, H are what its elements stand for -/
def WIn (W : World) (A : Option Addr) (n c k : Nat) (G H : Nat → F4) : Prop := ∀ i, i < n → ∃ g f a b t a2 b2 t2 ga gb gt ga2 gb2 gt2,
  (∀ w, (Instr.indexAt 36 (.slice A n c) (.int .i64 (i : Int))).run Tryd.prog w = .ok (.pointer (some ⟨g, f, none⟩)) w) ∧
  (∀ w, Below W.heap.size W w → (loadVar 49 ⟨g, f, none⟩).run Tryd.prog w = .ok (.agg (F2W a b (G i).h t a2 b2 (H i).h t2)) w) ∧
  RawT k (G i).u ga a ∧ RawT k (G i).v gb b ∧ RawT k (G i).t gt t ∧ RawT k (H i).u ga2 a2 ∧ RawT k (H i).v gb2 b2 ∧ RawT k (H i).t gt2 t2
theorem WIn.next {W w : World} {l : List Own} {A : Option Addr} {n c k : Nat} {G H : Nat → F4} (h : WIn W A n c k G H) (hs : St W l w) : WIn w A n c k G H := fun i hi => by
  obtain ⟨g, f, a, b, t, a2, b2, t2, ga, gb, gt, ga2, gb2, gt2, h1, h2, h3⟩ := h i hi
  exact ⟨g, f, a, b, t, a2, b2, t2, ga, gb, gt, ga2, gb2, gt2, h1, fun w' hb => h2 w' (hs.next hb).below, h3⟩
set_option maxRecDepth 20000 in
theorem open_ways {H : Type} {enc : TypeId × Value → H} {W : World} {base b0 : Nat} {held : Bool} {v : Value} {d : DataW H} {p : List MemPlace} {r : Reach}
    (h : DataW.Trod enc Tryd.prog W base (fun _ => true) held 36 v d p) (o : Value.okWide Tryd.prog W r b0 36 v) (hB : Rows.uptoBulk d ≤ 1048576) :
    ∃ A n c G H, v = .slice A n c ∧ n ≤ c ∧ n ≤ 1048576 ∧ WIn W A n c 1048576 G H := by
  obtain ⟨A, len, cap, rfl⟩ := okWide_slice Tryd.underlying36 o
  obtain ⟨fuel, hf⟩ := h
  obtain ⟨A', len', cap', ys, hcs, hlc, hm, hyl, hcb, hyb, hi⟩ := open_elems_b (C := 20) Tryd.underlying36 (by kernel_rfl) (by omega) hf
  simp [Value.cells] at hcs
  obtain ⟨rfl, rfl, rfl⟩ := hcs
  dsimp only at hcb hyb
  have key : ∀ i, ∃ xy : F4 × F4, i < len → ∃ g f a b t a2 b2 t2 ga gb gt ga2 gb2 gt2,
      (∀ w, (Instr.indexAt 36 (.slice A len cap) (.int .i64 (i : Int))).run Tryd.prog w = .ok (.pointer (some ⟨g, f, none⟩)) w) ∧
      (∀ w, Below W.heap.size W w → (loadVar 49 ⟨g, f, none⟩).run Tryd.prog w = .ok (.agg (F2W a b xy.1.h t a2 b2 xy.2.h t2)) w) ∧
      RawT 1048576 xy.1.u ga a ∧ RawT 1048576 xy.1.v gb b ∧ RawT 1048576 xy.1.t gt t ∧ RawT 1048576 xy.2.u ga2 a2 ∧ RawT 1048576 xy.2.v gb2 b2 ∧ RawT 1048576 xy.2.t gt2 t2 := by
    intro i
    by_cases hlt : i < len
    · have hyi : ys[i]? = some (ys[i]'(by omega)) := List.getElem?_eq_getElem (by omega)
      obtain ⟨b, off, cs', n', pl, hA, hb, hlen, hc, ht⟩ := hi i _ hyi
      obtain ⟨ta, tb, hf1, tt, ta2, tb2, hf2, tt2, rfl, ⟨sa, sb, st⟩, sa2, sb2, st2⟩ := open_frames2 ht
      have hbi : Rows.uptoBulk (ys[i]'(by omega)) ≤ 1048576 := by
        have := bulkO_mem (ds := ys) (d := ys[i]'(by omega)) (List.getElem_mem _)
        omega
      obtain ⟨x1, g1, h1⟩ := RawT.any ta 1048576 (by decide) (Nat.le_trans sa.1 hbi) (Nat.le_trans sa.2 hbi)
      obtain ⟨x2, g2, h2⟩ := RawT.any tb 1048576 (by decide) (Nat.le_trans sb.1 hbi) (Nat.le_trans sb.2 hbi)
      obtain ⟨x3, g3, h3⟩ := RawT.any tt 1048576 (by decide) (Nat.le_trans st.1 hbi) (Nat.le_trans st.2 hbi)
      obtain ⟨x4, g4, h4⟩ := RawT.any ta2 1048576 (by decide) (Nat.le_trans sa2.1 hbi) (Nat.le_trans sa2.2 hbi)
      obtain ⟨x5, g5, h5⟩ := RawT.any tb2 1048576 (by decide) (Nat.le_trans sb2.1 hbi) (Nat.le_trans sb2.2 hbi)
      obtain ⟨x6, g6, h6⟩ := RawT.any tt2 1048576 (by decide) (Nat.le_trans st2.1 hbi) (Nat.le_trans st2.2 hbi)
      subst hA
      refine ⟨(⟨x1, x2, hf1, x3⟩, ⟨x4, x5, hf2, x6⟩), fun _ => ⟨b, off + i * 20, ta, tb, tt, ta2, tb2, tt2, g1, g2, g3, g4, g5, g6, run_index' (by kernel_rfl) hlt, fun w hw => ?_, h1, h2, h3, h4, h5, h6⟩⟩
      refine run_load_cells (n := 20) (fun j u hu => ?_) rfl (by kernel_rfl)
      rw [(bcell hw).1 b _ hb, Nat.add_assoc]
      exact hc j u (by rw [Array.getElem?_toList]; exact hu)
    · exact ⟨(⟨0, 0, false, 0⟩, ⟨0, 0, false, 0⟩), fun h => absurd h hlt⟩
  obtain ⟨f, hf'⟩ := Classical.skolem.1 key
  exact ⟨A, len, cap, fun i => (f i).1, fun i => (f i).2, rfl, hlc, by omega, hf'⟩
end Go.Proofs.YtoejojfjiikogaaDoor
namespace Go.Proofs.YtoejojfjiikogaaDoor
open Go.RowKit
set_option linter.unusedVariables false
set_option linter.unusedSimpArgs false

/-- two spans have a number in common -/
def mtQ (al ah bl bh : Rat) : Bool := decide (al ≤ bh ∧ bl ≤ ah)
theorem pm_le {a m : Rat} (h : 0 ≤ m) : a - m ≤ a + m := by grind
/-- what Need says: 17 far, 0 within, 18 another look -/
def needQ (x0 x1 y0 y1 u v m : Rat) : Int := if mtQ x0 x1 (u - m) (u + m) = true ∧ mtQ y0 y1 (v - m) (v + m) = true then (if wiQ x0 x1 (u - m) (u + m) = true ∧ wiQ y0 y1 (v - m) (v + m) = true then 0 else 18) else 17
theorem wiQ_self (a b : Rat) : wiQ a b a b = true := decide_eq_true ⟨Rat.le_refl, Rat.le_refl⟩
theorem needQ_in {x0 x1 y0 y1 t0 t1 u v m : Rat} {b : Bool} (h1 : mtQ x0 x1 (u - m) (u + m) = true) (h2 : mtQ y0 y1 (v - m) (v + m) = true) (h3 : insQ x0 x1 y0 y1 t0 t1 (u - m) (u + m) (v - m) (v + m) t0 t1 = b) : needQ x0 x1 y0 y1 u v m = if b = true then 0 else 18 := by
  unfold needQ
  rw [if_pos ⟨h1, h2⟩]
  subst h3
  unfold insQ
  rw [wiQ_self]
  cases wiQ x0 x1 (u - m) (u + m) <;> cases wiQ y0 y1 (v - m) (v + m) <;> rfl
set_option maxHeartbeats 2000000 in
set_option maxRecDepth 20000 in
theorem looks_w {k : Nat} {sn : ByteArray} {s1 : Rat} {s1_g : Bool} {s1_t : RT} {s2 : Rat} {s2_g : Bool} {s2_t : RT} {sh : Bool} {st : Rat} {st_g : Bool} {st_t : RT} {sw : Rat} {sw_g : Bool} {sw_t : RT} {z0 : Rat} {W : World} {l : List Own} (hT : Tab W) (Zs1 : RawT k s1 s1_g s1_t) (Zs2 : RawT k s2 s2_g s2_t) (Zst : RawT k st st_g st_t) (Zsw : RawT k sw sw_g sw_t) (hz0 : maxQ sw 0 = z0) (hk0 : 2 ≤ k) (hk : k ≤ 1000000000000) (w : World) (h : St W l w) :
    Calls Tryd.prog 10 #[.agg (SLW sn s1_t s2_t sh st_t sw_t)] w fun e w' => e = .returned (.agg (RC z0)) ∧ Below w.heap.size w w' := by
  subst hz0
  have HT := Lib.hid (tabS hT h); clear hT h
  have Z_s1 := Lib.hid Zs1; clear Zs1
  have Z_s2 := Lib.hid Zs2; clear Zs2
  have Z_st := Lib.hid Zst; clear Zst
  have Z_sw := Lib.hid Zsw; clear Zsw
  go_enter Tryd.func10, Tryd.ntmps10
  have HS : St w [] w := St.start
  go_upto_region 0 with (fail)
  refine wp_seq_text [] (StR.no HS) ?_
  refine Seq.box rfl rfl rfl (v := .agg (SLW sn s1_t s2_t sh st_t sw_t)) (cs := SLW sn s1_t s2_t sh st_t sw_t) rfl rfl ?_
  intro bk1 _ _ hbk1_r
  simp only [Act.put, nA, nB, nC]
  refine Seq.alloc rfl rfl rfl (z := .agg (RT.c rz0)) (by kernel_rfl) rfl ?_
  intro bk2 _ _ hbk2_r
  obtain ⟨ne_bk2_bk1, hbk2_r⟩ := Reg.ne_of_put hbk2_r
  have ne_bk1_bk2 := Ne.symm ne_bk2_bk1
  simp only [Act.put, nA, nB, nC]
  refine Seq.done fun ws1 hws => ?_
  have HS1 := hws.list2 (p := bk1) (q := bk2) (by repeat (first | exact rS | refine rN (by assumption) ?_)) (by repeat (first | exact rS | refine rN (by assumption) ?_)) (by assumption)
  clear HS hws
  go_upto_region 1 with (fail)
  have HPbk2 := HS1.f1
  refine wp_seq [] (by kernel_rfl) (by kernel_rfl) (Reg.fin.put Reg.fin_no _ _) (StR.move (StR.no HPbk2)) ?_
  refine Seq.pure rfl rfl (by intro w; go_simp; try rfl) ?_
  simp only [Act.put, nA, nB, nC]
  refine Seq.loadAt rfl rfl rfl rfl (by repeat (first | exact mC | apply mT)) (n := 3) (cs' := RT.c sw_t) (Nat.le_of_ble_eq_true rfl) (by kernel_rfl) rfl ?_
  simp only [Act.put, nA, nB, nC]
  refine Seq.call rfl rfl rfl rfl (by kernel_rfl) (of_q HT.out (by omega) (by omega) (show ((0 : Int) : Rat) = (0 : Rat) from rfl)) ?_
  simp only [Act.put, nA, nB, nC]
  refine Seq.call rfl rfl rfl rfl (by kernel_rfl) (max_wq (k := (1 * k + 2)) HT.out (Z_sw.out.more (by omega)) ((show Rz 2 (0 : Rat) from Rz.lit (z := 0) rfl (by decide)).more (by omega)) rfl (by omega)) ?_
  simp only [Act.put, nA, nB, nC]
  refine Seq.store rfl rfl rfl rfl rfl (by repeat (first | exact rS | refine rN (by assumption) ?_)) (n := 3) rfl rfl (by kernel_rfl) (RC_one _) ?_
  simp only [Act.put, nA, nB, nC]
  refine Seq.done fun ws2 hws => ?_
  have HS2 := hws.list1 (p := bk2) (by repeat (first | exact rS | refine rN (by assumption) ?_))
  clear HS1 hws HPbk2
  go_wp2_with fail
  exact ret_own rfl rfl rfl HS2 (by repeat (first | exact mC | apply mT)) (n := 3) rfl (by kernel_rfl) ⟨rfl, HS2.below⟩
set_option maxHeartbeats 2000000 in
set_option maxRecDepth 20000 in
theorem tolerance_w {k : Nat} {sn : ByteArray} {s1 : Rat} {s1_g : Bool} {s1_t : RT} {s2 : Rat} {s2_g : Bool} {s2_t : RT} {sh : Bool} {st : Rat} {st_g : Bool} {st_t : RT} {sw : Rat} {sw_g : Bool} {sw_t : RT} {z0 : Rat} {W : World} {l : List Own} (hT : Tab W) (Zs1 : RawT k s1 s1_g s1_t) (Zs2 : RawT k s2 s2_g s2_t) (Zst : RawT k st st_g st_t) (Zsw : RawT k sw sw_g sw_t) (hz0 : maxQ sw 0 = z0) (hk0 : 2 ≤ k) (hk : k ≤ 1000000000000) (w : World) (h : St W l w) :
    Calls Tryd.prog 11 #[.agg (SLW sn s1_t s2_t sh st_t sw_t)] w fun e w' => e = .returned (.agg (RC z0)) ∧ Below w.heap.size w w' := by
  subst hz0
  have HT := Lib.hid (tabS hT h); clear hT h
  have Z_s1 := Lib.hid Zs1; clear Zs1
  have Z_s2 := Lib.hid Zs2; clear Zs2
  have Z_st := Lib.hid Zst; clear Zst
  have Z_sw := Lib.hid Zsw; clear Zsw
  go_enter Tryd.func11, Tryd.ntmps11
  have HS : St w [] w := St.start
  go_upto_region 0 with (fail)
  refine wp_seq_text [] (StR.no HS) ?_
  refine Seq.box rfl rfl rfl (v := .agg (SLW sn s1_t s2_t sh st_t sw_t)) (cs := SLW sn s1_t s2_t sh st_t sw_t) rfl rfl ?_
  intro bk1 _ _ hbk1_r
  simp only [Act.put, nA, nB, nC]
  refine Seq.alloc rfl rfl rfl (z := .agg (RT.c rz0)) (by kernel_rfl) rfl ?_
  intro bk2 _ _ hbk2_r
  obtain ⟨ne_bk2_bk1, hbk2_r⟩ := Reg.ne_of_put hbk2_r
  have ne_bk1_bk2 := Ne.symm ne_bk2_bk1
  simp only [Act.put, nA, nB, nC]
  refine Seq.done fun ws1 hws => ?_
  have HS1 := hws.list2 (p := bk1) (q := bk2) (by repeat (first | exact rS | refine rN (by assumption) ?_)) (by repeat (first | exact rS | refine rN (by assumption) ?_)) (by assumption)
  clear HS hws
  go_upto_region 1 with (fail)
  have HPbk2 := HS1.f1
  refine wp_seq [] (by kernel_rfl) (by kernel_rfl) (Reg.fin.put Reg.fin_no _ _) (StR.move (StR.no HPbk2)) ?_
  refine Seq.pure rfl rfl (by intro w; go_simp; try rfl) ?_
  simp only [Act.put, nA, nB, nC]
  refine Seq.loadAt rfl rfl rfl rfl (by repeat (first | exact mC | apply mT)) (n := 3) (cs' := RT.c sw_t) (Nat.le_of_ble_eq_true rfl) (by kernel_rfl) rfl ?_
  simp only [Act.put, nA, nB, nC]
  refine Seq.call rfl rfl rfl rfl (by kernel_rfl) (of_q HT.out (by omega) (by omega) (show ((0 : Int) : Rat) = (0 : Rat) from rfl)) ?_
  simp only [Act.put, nA, nB, nC]
  refine Seq.call rfl rfl rfl rfl (by kernel_rfl) (max_wq (k := (1 * k + 2)) HT.out (Z_sw.out.more (by omega)) ((show Rz 2 (0 : Rat) from Rz.lit (z := 0) rfl (by decide)).more (by omega)) rfl (by omega)) ?_
  simp only [Act.put, nA, nB, nC]
  refine Seq.store rfl rfl rfl rfl rfl (by repeat (first | exact rS | refine rN (by assumption) ?_)) (n := 3) rfl rfl (by kernel_rfl) (RC_one _) ?_
  simp only [Act.put, nA, nB, nC]
  refine Seq.done fun ws2 hws => ?_
  have HS2 := hws.list1 (p := bk2) (by repeat (first | exact rS | refine rN (by assumption) ?_))
  clear HS1 hws HPbk2
  go_wp2_with fail
  exact ret_own rfl rfl rfl HS2 (by repeat (first | exact mC | apply mT)) (n := 3) rfl (by kernel_rfl) ⟨rfl, HS2.below⟩
set_option maxHeartbeats 2000000 in
set_option maxRecDepth 20000 in
theorem smeet_w {k : Nat} {al ah : Rat} {ag : Bool} {a1 a2 : RT} {bl bh : Rat} {bg : Bool} {b1 b2 : RT} {z0 : Bool} {W : World} {l : List Own} (hT : Tab W) (Za : RawS k al ah ag a1 a2) (Zb : RawS k bl bh bg b1 b2) (hz0 : mtQ al ah bl bh = z0) (hk0 : 2 ≤ k) (hk : k ≤ 999999999996) (w : World) (h : St W l w) :
    Calls Tryd.prog 31 #[.agg (SW a1 a2), .agg (SW b1 b2)] w fun e w' => e = .returned (.bool z0) ∧ Below w.heap.size w w' := by
  subst hz0
  have HT := Lib.hid (tabS hT h); clear hT h
  have Z_a := Lib.hid Za; clear Za
  have Z_b := Lib.hid Zb; clear Zb
  have hsp : ¬ al ≤ bh ∨ (al ≤ bh ∧ ¬ bl ≤ ah) ∨ (al ≤ bh ∧ bl ≤ ah) := by grind
  rcases hsp with hc | ⟨hc, hd⟩ | ⟨hc, hd⟩
  · have HB := Lib.hid (show false = mtQ al ah bl bh from by unfold mtQ; symm; simp; grind)
    obtain ⟨v1, hv1, r1⟩ : ∃ v, cmpQ al bh = v ∧ decide (v ≤ 0) = false := ⟨_, rfl, decide_eq_false (fun h => absurd ((cmpQ_le _ _).1 h) (by grind))⟩
    have C1 := Lib.hid hv1; clear hv1
    clear hc
    go_enter Tryd.func31, Tryd.ntmps31
    have HS : St w [] w := St.start
    go_upto_region 0 with (fail)
    refine wp_seq_text [] (StR.no HS) ?_
    refine Seq.box rfl rfl rfl (v := .agg (SW a1 a2)) (cs := SW a1 a2) rfl rfl ?_
    intro bk2 _ _ hbk2_r
    simp only [Act.put, nA, nB, nC]
    refine Seq.box rfl rfl rfl (v := .agg (SW b1 b2)) (cs := SW b1 b2) rfl rfl ?_
    intro bk3 _ _ hbk3_r
    obtain ⟨ne_bk3_bk2, hbk3_r⟩ := Reg.ne_of_put hbk3_r
    have ne_bk2_bk3 := Ne.symm ne_bk3_bk2
    simp only [Act.put, nA, nB, nC]
    refine Seq.pure rfl rfl (by intro w; go_simp; try rfl) ?_
    simp only [Act.put, nA, nB, nC]
    refine Seq.done fun ws1 hws => ?_
    have HS1 := hws.list2 (p := bk2) (q := bk3) (by repeat (first | exact rS | refine rN (by assumption) ?_)) (by repeat (first | exact rS | refine rN (by assumption) ?_)) (by assumption)
    clear HS hws
    go_upto_region 1 with (fail)
    have HPbk3 := HS1.f1
    have HPbk2 := HPbk3.f1
    refine wp_seq [0, 4] (by kernel_rfl) (by kernel_rfl) (Reg.fin.put (Reg.fin.put Reg.fin_no _ _) _ _) (StR.move (StR.move (StR.no HPbk2))) ?_
    refine Seq.get rfl rfl rfl rfl (by repeat (first | exact rS | refine rN (by assumption) ?_)) (n := 6) rfl (by kernel_rfl) ?_
    simp only [Act.put, nA, nB, nC]
    refine Seq.call rfl rfl rfl rfl (by kernel_rfl) (sfit_w (k := (1 * k + 2)) (a1 := a1) (a2 := a2) HT.out (Z_a.out.more (by omega))  rfl rfl (by omega) (by omega)) ?_
    simp only [Act.put, nA, nB, nC]
    refine Seq.get rfl rfl rfl rfl (by repeat (first | exact rS | refine rN (by assumption) ?_)) (n := 6) rfl (by kernel_rfl) ?_
    simp only [Act.put, nA, nB, nC]
    refine Seq.call rfl rfl rfl rfl (by kernel_rfl) (sfit_w (k := (1 * k + 2)) (a1 := b1) (a2 := b2) HT.out (Z_b.out.more (by omega))  rfl rfl (by omega) (by omega)) ?_
    simp only [Act.put, nA, nB, nC]
    refine Seq.store rfl rfl rfl rfl rfl (by repeat (first | exact rS | refine rN (by assumption) ?_)) (n := 6) rfl rfl (by kernel_rfl) (VC_one _ _) ?_
    simp only [Act.put, nA, nB, nC]
    refine Seq.store rfl rfl rfl rfl rfl (by repeat (first | exact rS | refine rN (by assumption) ?_)) (n := 6) rfl rfl (by kernel_rfl) (VC_one _ _) ?_
    simp only [Act.put, nA, nB, nC]
    refine Seq.done fun ws2 hws => ?_
    have HS2 := hws.list2 (p := bk2) (q := bk3) (by repeat (first | exact rS | refine rN (by assumption) ?_)) (by repeat (first | exact rS | refine rN (by assumption) ?_)) (by assumption)
    clear HS1 hws HPbk3 HPbk2
    go_upto_region 2 with (fail)
    refine wp_seq_text [] (StR.no HS2) ?_
    refine Seq.pure rfl rfl (by intro w; go_simp; try rfl) ?_
    simp only [Act.put, nA, nB, nC]
    refine Seq.loadAt rfl rfl rfl rfl (by repeat (first | exact mC | apply mT)) (n := 3) (cs' := RC al) (Nat.le_of_ble_eq_true rfl) (by kernel_rfl) rfl ?_
    simp only [Act.put, nA, nB, nC]
    refine Seq.pure rfl rfl (by intro w; go_simp; try rfl) ?_
    simp only [Act.put, nA, nB, nC]
    refine Seq.loadAt rfl rfl rfl rfl (by repeat (first | exact mC | apply mT)) (n := 3) (cs' := RC bh) (Nat.le_of_ble_eq_true rfl) (by kernel_rfl) rfl ?_
    simp only [Act.put, nA, nB, nC]
    refine Seq.call rfl rfl rfl rfl (by kernel_rfl) (cmp_q (k := (1 * k + 0)) HT.out ((Z_a.out.rz (by omega)).1.more (by omega)) ((Z_b.out.rz (by omega)).2.more (by omega)) C1.out (by omega)) ?_
    simp only [Act.put, nA, nB, nC]
    iterate 2 (refine Seq.pure rfl rfl (by intro w; go_simp; try rfl) ?_; simp only [Act.put, nA, nB, nC])
    iterate 6 (refine Seq.nw rfl ?_; simp only [Act.put, nA, nB, nC])
    iterate 2 (refine Seq.pure rfl rfl (by intro w; go_simp; try rfl) ?_; simp only [Act.put, nA, nB, nC])
    refine Seq.done fun ws3 hws => ?_
    have HS3 := hws.st
    clear HS2 hws
    go_wp2_with fail
    go_ret
    exact ⟨congrArg (fun b => Ending.returned (.bool b)) HB.out, HS3.below⟩
  · have HB := Lib.hid (show false = mtQ al ah bl bh from by unfold mtQ; symm; simp; grind)
    obtain ⟨v1, hv1, r1⟩ : ∃ v, cmpQ al bh = v ∧ decide (v ≤ 0) = true := ⟨_, rfl, decide_eq_true ((cmpQ_le _ _).2 (by grind))⟩
    have C1 := Lib.hid hv1; clear hv1
    obtain ⟨v2, hv2, r2⟩ : ∃ v, cmpQ bl ah = v ∧ decide (v ≤ 0) = false := ⟨_, rfl, decide_eq_false (fun h => absurd ((cmpQ_le _ _).1 h) (by grind))⟩
    have C2 := Lib.hid hv2; clear hv2
    clear hc hd
    go_enter Tryd.func31, Tryd.ntmps31
    have HS : St w [] w := St.start
    go_upto_region 0 with (fail)
    refine wp_seq_text [] (StR.no HS) ?_
    refine Seq.box rfl rfl rfl (v := .agg (SW a1 a2)) (cs := SW a1 a2) rfl rfl ?_
    intro bk2 _ _ hbk2_r
    simp only [Act.put, nA, nB, nC]
    refine Seq.box rfl rfl rfl (v := .agg (SW b1 b2)) (cs := SW b1 b2) rfl rfl ?_
    intro bk3 _ _ hbk3_r
    obtain ⟨ne_bk3_bk2, hbk3_r⟩ := Reg.ne_of_put hbk3_r
    have ne_bk2_bk3 := Ne.symm ne_bk3_bk2
    simp only [Act.put, nA, nB, nC]
    refine Seq.pure rfl rfl (by intro w; go_simp; try rfl) ?_
    simp only [Act.put, nA, nB, nC]
    refine Seq.done fun ws1 hws => ?_
    have HS1 := hws.list2 (p := bk2) (q := bk3) (by repeat (first | exact rS | refine rN (by assumption) ?_)) (by repeat (first | exact rS | refine rN (by assumption) ?_)) (by assumption)
    clear HS hws
    go_upto_region 1 with (fail)
    have HPbk3 := HS1.f1
    have HPbk2 := HPbk3.f1
    refine wp_seq [0, 4] (by kernel_rfl) (by kernel_rfl) (Reg.fin.put (Reg.fin.put Reg.fin_no _ _) _ _) (StR.move (StR.move (StR.no HPbk2))) ?_
    refine Seq.get rfl rfl rfl rfl (by repeat (first | exact rS | refine rN (by assumption) ?_)) (n := 6) rfl (by kernel_rfl) ?_
    simp only [Act.put, nA, nB, nC]
    refine Seq.call rfl rfl rfl rfl (by kernel_rfl) (sfit_w (k := (1 * k + 2)) (a1 := a1) (a2 := a2) HT.out (Z_a.out.more (by omega))  rfl rfl (by omega) (by omega)) ?_
    simp only [Act.put, nA, nB, nC]
    refine Seq.get rfl rfl rfl rfl (by repeat (first | exact rS | refine rN (by assumption) ?_)) (n := 6) rfl (by kernel_rfl) ?_
    simp only [Act.put, nA, nB, nC]
    refine Seq.call rfl rfl rfl rfl (by kernel_rfl) (sfit_w (k := (1 * k + 2)) (a1 := b1) (a2 := b2) HT.out (Z_b.out.more (by omega))  rfl rfl (by omega) (by omega)) ?_
    simp only [Act.put, nA, nB, nC]
    refine Seq.store rfl rfl rfl rfl rfl (by repeat (first | exact rS | refine rN (by assumption) ?_)) (n := 6) rfl rfl (by kernel_rfl) (VC_one _ _) ?_
    simp only [Act.put, nA, nB, nC]
    refine Seq.store rfl rfl rfl rfl rfl (by repeat (first | exact rS | refine rN (by assumption) ?_)) (n := 6) rfl rfl (by kernel_rfl) (VC_one _ _) ?_
    simp only [Act.put, nA, nB, nC]
    refine Seq.done fun ws2 hws => ?_
    have HS2 := hws.list2 (p := bk2) (q := bk3) (by repeat (first | exact rS | refine rN (by assumption) ?_)) (by repeat (first | exact rS | refine rN (by assumption) ?_)) (by assumption)
    clear HS1 hws HPbk3 HPbk2
    go_upto_region 2 with (fail)
    refine wp_seq_text [] (StR.no HS2) ?_
    refine Seq.pure rfl rfl (by intro w; go_simp; try rfl) ?_
    simp only [Act.put, nA, nB, nC]
    refine Seq.loadAt rfl rfl rfl rfl (by repeat (first | exact mC | apply mT)) (n := 3) (cs' := RC al) (Nat.le_of_ble_eq_true rfl) (by kernel_rfl) rfl ?_
    simp only [Act.put, nA, nB, nC]
    refine Seq.pure rfl rfl (by intro w; go_simp; try rfl) ?_
    simp only [Act.put, nA, nB, nC]
    refine Seq.loadAt rfl rfl rfl rfl (by repeat (first | exact mC | apply mT)) (n := 3) (cs' := RC bh) (Nat.le_of_ble_eq_true rfl) (by kernel_rfl) rfl ?_
    simp only [Act.put, nA, nB, nC]
    refine Seq.call rfl rfl rfl rfl (by kernel_rfl) (cmp_q (k := (1 * k + 0)) HT.out ((Z_a.out.rz (by omega)).1.more (by omega)) ((Z_b.out.rz (by omega)).2.more (by omega)) C1.out (by omega)) ?_
    simp only [Act.put, nA, nB, nC]
    iterate 3 (refine Seq.pure rfl rfl (by intro w; go_simp; try rfl) ?_; simp only [Act.put, nA, nB, nC])
    refine Seq.loadAt rfl rfl rfl rfl (by repeat (first | exact mC | apply mT)) (n := 3) (cs' := RC bl) (Nat.le_of_ble_eq_true rfl) (by kernel_rfl) rfl ?_
    simp only [Act.put, nA, nB, nC]
    refine Seq.pure rfl rfl (by intro w; go_simp; try rfl) ?_
    simp only [Act.put, nA, nB, nC]
    refine Seq.loadAt rfl rfl rfl rfl (by repeat (first | exact mC | apply mT)) (n := 3) (cs' := RC ah) (Nat.le_of_ble_eq_true rfl) (by kernel_rfl) rfl ?_
    simp only [Act.put, nA, nB, nC]
    refine Seq.call rfl rfl rfl rfl (by kernel_rfl) (cmp_q (k := (1 * k + 0)) HT.out ((Z_b.out.rz (by omega)).1.more (by omega)) ((Z_a.out.rz (by omega)).2.more (by omega)) C2.out (by omega)) ?_
    simp only [Act.put, nA, nB, nC]
    iterate 3 (refine Seq.pure rfl rfl (by intro w; go_simp; try rfl) ?_; simp only [Act.put, nA, nB, nC])
    refine Seq.done fun ws3 hws => ?_
    have HS3 := hws.st
    clear HS2 hws
    go_wp2_with fail
    go_ret
    exact ⟨congrArg (fun b => Ending.returned (.bool b)) HB.out, HS3.below⟩
  · have HB := Lib.hid (show true = mtQ al ah bl bh from by unfold mtQ; symm; simp; grind)
    obtain ⟨v1, hv1, r1⟩ : ∃ v, cmpQ al bh = v ∧ decide (v ≤ 0) = true := ⟨_, rfl, decide_eq_true ((cmpQ_le _ _).2 (by grind))⟩
    have C1 := Lib.hid hv1; clear hv1
    obtain ⟨v2, hv2, r2⟩ : ∃ v, cmpQ bl ah = v ∧ decide (v ≤ 0) = true := ⟨_, rfl, decide_eq_true ((cmpQ_le _ _).2 (by grind))⟩
    have C2 := Lib.hid hv2; clear hv2
    clear hc hd
    go_enter Tryd.func31, Tryd.ntmps31
    have HS : St w [] w := St.start
    go_upto_region 0 with (fail)
    refine wp_seq_text [] (StR.no HS) ?_
    refine Seq.box rfl rfl rfl (v := .agg (SW a1 a2)) (cs := SW a1 a2) rfl rfl ?_
    intro bk2 _ _ hbk2_r
    simp only [Act.put, nA, nB, nC]
    refine Seq.box rfl rfl rfl (v := .agg (SW b1 b2)) (cs := SW b1 b2) rfl rfl ?_
    intro bk3 _ _ hbk3_r
    obtain ⟨ne_bk3_bk2, hbk3_r⟩ := Reg.ne_of_put hbk3_r
    have ne_bk2_bk3 := Ne.symm ne_bk3_bk2
    simp only [Act.put, nA, nB, nC]
    refine Seq.pure rfl rfl (by intro w; go_simp; try rfl) ?_
    simp only [Act.put, nA, nB, nC]
    refine Seq.done fun ws1 hws => ?_
    have HS1 := hws.list2 (p := bk2) (q := bk3) (by repeat (first | exact rS | refine rN (by assumption) ?_)) (by repeat (first | exact rS | refine rN (by assumption) ?_)) (by assumption)
    clear HS hws
    go_upto_region 1 with (fail)
    have HPbk3 := HS1.f1
    have HPbk2 := HPbk3.f1
    refine wp_seq [0, 4] (by kernel_rfl) (by kernel_rfl) (Reg.fin.put (Reg.fin.put Reg.fin_no _ _) _ _) (StR.move (StR.move (StR.no HPbk2))) ?_
    refine Seq.get rfl rfl rfl rfl (by repeat (first | exact rS | refine rN (by assumption) ?_)) (n := 6) rfl (by kernel_rfl) ?_
    simp only [Act.put, nA, nB, nC]
    refine Seq.call rfl rfl rfl rfl (by kernel_rfl) (sfit_w (k := (1 * k + 2)) (a1 := a1) (a2 := a2) HT.out (Z_a.out.more (by omega))  rfl rfl (by omega) (by omega)) ?_
    simp only [Act.put, nA, nB, nC]
    refine Seq.get rfl rfl rfl rfl (by repeat (first | exact rS | refine rN (by assumption) ?_)) (n := 6) rfl (by kernel_rfl) ?_
    simp only [Act.put, nA, nB, nC]
    refine Seq.call rfl rfl rfl rfl (by kernel_rfl) (sfit_w (k := (1 * k + 2)) (a1 := b1) (a2 := b2) HT.out (Z_b.out.more (by omega))  rfl rfl (by omega) (by omega)) ?_
    simp only [Act.put, nA, nB, nC]
    refine Seq.store rfl rfl rfl rfl rfl (by repeat (first | exact rS | refine rN (by assumption) ?_)) (n := 6) rfl rfl (by kernel_rfl) (VC_one _ _) ?_
    simp only [Act.put, nA, nB, nC]
    refine Seq.store rfl rfl rfl rfl rfl (by repeat (first | exact rS | refine rN (by assumption) ?_)) (n := 6) rfl rfl (by kernel_rfl) (VC_one _ _) ?_
    simp only [Act.put, nA, nB, nC]
    refine Seq.done fun ws2 hws => ?_
    have HS2 := hws.list2 (p := bk2) (q := bk3) (by repeat (first | exact rS | refine rN (by assumption) ?_)) (by repeat (first | exact rS | refine rN (by assumption) ?_)) (by assumption)
    clear HS1 hws HPbk3 HPbk2
    go_upto_region 2 with (fail)
    refine wp_seq_text [] (StR.no HS2) ?_
    refine Seq.pure rfl rfl (by intro w; go_simp; try rfl) ?_
    simp only [Act.put, nA, nB, nC]
    refine Seq.loadAt rfl rfl rfl rfl (by repeat (first | exact mC | apply mT)) (n := 3) (cs' := RC al) (Nat.le_of_ble_eq_true rfl) (by kernel_rfl) rfl ?_
    simp only [Act.put, nA, nB, nC]
    refine Seq.pure rfl rfl (by intro w; go_simp; try rfl) ?_
    simp only [Act.put, nA, nB, nC]
    refine Seq.loadAt rfl rfl rfl rfl (by repeat (first | exact mC | apply mT)) (n := 3) (cs' := RC bh) (Nat.le_of_ble_eq_true rfl) (by kernel_rfl) rfl ?_
    simp only [Act.put, nA, nB, nC]
    refine Seq.call rfl rfl rfl rfl (by kernel_rfl) (cmp_q (k := (1 * k + 0)) HT.out ((Z_a.out.rz (by omega)).1.more (by omega)) ((Z_b.out.rz (by omega)).2.more (by omega)) C1.out (by omega)) ?_
    simp only [Act.put, nA, nB, nC]
    iterate 3 (refine Seq.pure rfl rfl (by intro w; go_simp; try rfl) ?_; simp only [Act.put, nA, nB, nC])
    refine Seq.loadAt rfl rfl rfl rfl (by repeat (first | exact mC | apply mT)) (n := 3) (cs' := RC bl) (Nat.le_of_ble_eq_true rfl) (by kernel_rfl) rfl ?_
    simp only [Act.put, nA, nB, nC]
    refine Seq.pure rfl rfl (by intro w; go_simp; try rfl) ?_
    simp only [Act.put, nA, nB, nC]
    refine Seq.loadAt rfl rfl rfl rfl (by repeat (first | exact mC | apply mT)) (n := 3) (cs' := RC ah) (Nat.le_of_ble_eq_true rfl) (by kernel_rfl) rfl ?_
    simp only [Act.put, nA, nB, nC]
    refine Seq.call rfl rfl rfl rfl (by kernel_rfl) (cmp_q (k := (1 * k + 0)) HT.out ((Z_b.out.rz (by omega)).1.more (by omega)) ((Z_a.out.rz (by omega)).2.more (by omega)) C2.out (by omega)) ?_
    simp only [Act.put, nA, nB, nC]
    iterate 3 (refine Seq.pure rfl rfl (by intro w; go_simp; try rfl) ?_; simp only [Act.put, nA, nB, nC])
    refine Seq.done fun ws3 hws => ?_
    have HS3 := hws.st
    clear HS2 hws
    go_wp2_with fail
    go_ret
    exact ⟨congrArg (fun b => Ending.returned (.bool b)) HB.out, HS3.below⟩
set_option maxHeartbeats 2000000 in
set_option maxRecDepth 20000 in
theorem place1_w {k : Nat} {a m : Rat} {a_g : Bool} {a_t : RT} {W : World} {l : List Own} (hT : Tab W) (Za : RawT k a a_g a_t) (Zm : Rz (1 * k + 2) m) (hk0 : 2 ≤ k) (hk : k ≤ 1000000000000) (g : Nat) (w : World) (h : St W l w) (hg : Blk w g 23 (RC m)) :
    Calls Tryd.prog 68 #[.agg (RT.c a_t), .pointer (some ⟨g, 0, none⟩)] w fun e w' => e = .returned (.agg (VC (a - m) (a + m))) ∧ Below w.heap.size w w' := by
  have HT := Lib.hid (tabS hT h); clear hT h
  have HG := Lib.hid hg; clear hg
  have Z_a := Lib.hid Za; clear Za
  have Z_m := Lib.hid Zm; clear Zm
  go_enter Tryd.func68, Tryd.ntmps68
  have HS : St w [] w := St.start
  go_upto_region 0 with (fail)
  refine wp_seq_text [] (StR.no HS) ?_
  refine Seq.box rfl rfl rfl (v := .agg (RT.c a_t)) (cs := RT.c a_t) rfl rfl ?_
  intro bk2 _ _ hbk2_r
  simp only [Act.put, nA, nB, nC]
  refine Seq.alloc rfl rfl rfl (z := .agg (SW rz0 rz0)) (by kernel_rfl) rfl ?_
  intro bk3 _ _ hbk3_r
  obtain ⟨ne_bk3_bk2, hbk3_r⟩ := Reg.ne_of_put hbk3_r
  have ne_bk2_bk3 := Ne.symm ne_bk3_bk2
  simp only [Act.put, nA, nB, nC]
  refine Seq.done fun ws1 hws => ?_
  have HS1 := hws.list2 (p := bk2) (q := bk3) (by repeat (first | exact rS | refine rN (by assumption) ?_)) (by repeat (first | exact rS | refine rN (by assumption) ?_)) (by assumption)
  clear HS hws
  go_upto_region 1 with (fail)
  have HPbk3 := HS1.f1
  refine wp_seq [] (by kernel_rfl) (by kernel_rfl) (Reg.fin.put Reg.fin_no _ _) (StR.move (StR.no HPbk3)) ?_
  refine Seq.load rfl rfl rfl rfl (by repeat (first | exact mC | apply mT)) (n := 3) rfl (by kernel_rfl) ?_
  simp only [Act.put, nA, nB, nC]
  refine Seq.loadAtF rfl rfl rfl rfl HG.out (n := 3) (cs' := RC m) (Nat.le_of_ble_eq_true rfl) (by kernel_rfl) rfl ?_
  simp only [Act.put, nA, nB, nC]
  refine Seq.call rfl rfl rfl rfl (by kernel_rfl) (sub_wq (k := (1 * k + 2)) HT.out (Z_a.out.more (by omega)) (Z_m.out.more (by omega)) rfl (by omega)) ?_
  simp only [Act.put, nA, nB, nC]
  refine Seq.load rfl rfl rfl rfl (by repeat (first | exact mC | apply mT)) (n := 3) rfl (by kernel_rfl) ?_
  simp only [Act.put, nA, nB, nC]
  refine Seq.loadAtF rfl rfl rfl rfl HG.out (n := 3) (cs' := RC m) (Nat.le_of_ble_eq_true rfl) (by kernel_rfl) rfl ?_
  simp only [Act.put, nA, nB, nC]
  refine Seq.call rfl rfl rfl rfl (by kernel_rfl) (add_wq (k := (1 * k + 2)) HT.out (Z_a.out.more (by omega)) (Z_m.out.more (by omega)) rfl (by omega)) ?_
  simp only [Act.put, nA, nB, nC]
  refine Seq.pure (v := .agg (VC (a - m) (a + m))) rfl rfl (fun w => bld_Span rfl rfl rfl w) ?_
  simp only [Act.put, nA, nB, nC]
  refine Seq.store rfl rfl rfl rfl rfl (by repeat (first | exact rS | refine rN (by assumption) ?_)) (n := 6) rfl rfl (by kernel_rfl) (VC_one _ _) ?_
  simp only [Act.put, nA, nB, nC]
  refine Seq.done fun ws2 hws => ?_
  have HS2 := hws.list1 (p := bk3) (by repeat (first | exact rS | refine rN (by assumption) ?_))
  clear HS1 hws HPbk3
  go_wp2_with fail
  exact ret_own rfl rfl rfl HS2 (by repeat (first | exact mC | apply mT)) (n := 6) rfl (by kernel_rfl) ⟨rfl, HS2.below⟩
set_option maxHeartbeats 2000000 in
set_option maxRecDepth 20000 in
theorem place_w {k : Nat} {sn : ByteArray} {s1 : Rat} {s1_g : Bool} {s1_t : RT} {s2 : Rat} {s2_g : Bool} {s2_t : RT} {sh : Bool} {st : Rat} {st_g : Bool} {st_t : RT} {sw : Rat} {sw_g : Bool} {sw_t : RT} {z0 : Rat} {z1 : Rat} {z2 : Rat} {z3 : Rat} {W : World} {l : List Own} (hT : Tab W) (Zs1 : RawT k s1 s1_g s1_t) (Zs2 : RawT k s2 s2_g s2_t) (Zst : RawT k st st_g st_t) (Zsw : RawT k sw sw_g sw_t) (hz0 : s1 - (maxQ sw 0) = z0) (hz1 : s1 + (maxQ sw 0) = z1) (hz2 : s2 - (maxQ sw 0) = z2) (hz3 : s2 + (maxQ sw 0) = z3) (hk0 : 2 ≤ k) (hk : k ≤ 1000000000000) (w : World) (h : St W l w) :
    Calls Tryd.prog 30 #[.agg (SLW sn s1_t s2_t sh st_t sw_t)] w fun e w' => e = .returned (.tuple #[.agg (VC z0 z1), .agg (VC z2 z3)]) ∧ Below w.heap.size w w' := by
  subst hz0
  subst hz1
  subst hz2
  subst hz3
  have HT := Lib.hid (tabS hT h); clear hT h
  have Z_s1 := Lib.hid Zs1; clear Zs1
  have Z_s2 := Lib.hid Zs2; clear Zs2
  have Z_st := Lib.hid Zst; clear Zst
  have Z_sw := Lib.hid Zsw; clear Zsw
  obtain ⟨m, hm⟩ : ∃ m, maxQ sw 0 = m := ⟨_, rfl⟩
  have Z_m := Lib.hid (show Rz (1 * k + 2) m from hm ▸ Rz.max (Z_sw.out.rz.more (by omega)) (Rz.zero2.more (by omega)))
  have HM0 := Lib.hid (show 0 ≤ m from hm ▸ maxQ_ge sw)
  have HR := Lib.hid (show Ending.returned (.tuple #[.agg (VC (s1 - m) (s1 + m)), .agg (VC (s2 - m) (s2 + m))]) = .returned (.tuple #[.agg (VC (s1 - maxQ sw 0) (s1 + maxQ sw 0)), .agg (VC (s2 - maxQ sw 0) (s2 + maxQ sw 0))]) from by rw [hm])
  have HM := Lib.hid hm; clear hm
  go_enter Tryd.func30, Tryd.ntmps30
  have HS : St w [] w := St.start
  go_upto_region 0 with (fail)
  refine wp_seq_text [] (StR.no HS) ?_
  refine Seq.box rfl rfl rfl (v := .agg (SLW sn s1_t s2_t sh st_t sw_t)) (cs := SLW sn s1_t s2_t sh st_t sw_t) rfl rfl ?_
  intro bk1 _ _ hbk1_r
  simp only [Act.put, nA, nB, nC]
  refine Seq.alloc rfl rfl rfl (z := .agg (SW rz0 rz0)) (by kernel_rfl) rfl ?_
  intro bk2 _ _ hbk2_r
  obtain ⟨ne_bk2_bk1, hbk2_r⟩ := Reg.ne_of_put hbk2_r
  have ne_bk1_bk2 := Ne.symm ne_bk2_bk1
  simp only [Act.put, nA, nB, nC]
  refine Seq.alloc rfl rfl rfl (z := .agg (SW rz0 rz0)) (by kernel_rfl) rfl ?_
  intro bk3 _ _ hbk3_r
  obtain ⟨ne_bk3_bk2, hbk3_r⟩ := Reg.ne_of_put hbk3_r
  have ne_bk2_bk3 := Ne.symm ne_bk3_bk2
  obtain ⟨ne_bk3_bk1, hbk3_r⟩ := Reg.ne_of_put hbk3_r
  have ne_bk1_bk3 := Ne.symm ne_bk3_bk1
  simp only [Act.put, nA, nB, nC]
  refine Seq.done fun ws1 hws => ?_
  have HS1 := hws.list3 (p := bk1) (q := bk2) (r := bk3) (by repeat (first | exact rS | refine rN (by assumption) ?_)) (by repeat (first | exact rS | refine rN (by assumption) ?_)) (by repeat (first | exact rS | refine rN (by assumption) ?_)) (by assumption) (by assumption) (by assumption)
  clear HS hws
  go_upto_region 1 with (fail)
  refine wp_seq [] (by kernel_rfl) (by kernel_rfl) Reg.fin_no (StR.no HS1) ?_
  refine Seq.pure rfl rfl (by intro w; go_simp; try rfl) ?_
  simp only [Act.put, nA, nB, nC]
  refine Seq.loadAt rfl rfl rfl rfl (by repeat (first | exact mC | apply mT)) (n := 3) (cs' := RT.c sw_t) (Nat.le_of_ble_eq_true rfl) (by kernel_rfl) rfl ?_
  simp only [Act.put, nA, nB, nC]
  refine Seq.call rfl rfl rfl rfl (by kernel_rfl) (of_q HT.out (by omega) (by omega) (show ((0 : Int) : Rat) = (0 : Rat) from rfl)) ?_
  simp only [Act.put, nA, nB, nC]
  refine Seq.call rfl rfl rfl rfl (by kernel_rfl) (max_wq (k := (1 * k + 2)) HT.out (Z_sw.out.more (by omega)) ((show Rz 2 (0 : Rat) from Rz.lit (z := 0) rfl (by decide)).more (by omega)) HM.out (by omega)) ?_
  simp only [Act.put, nA, nB, nC]
  refine Seq.alloc rfl rfl rfl (z := .agg (RT.c rz0)) (by kernel_rfl) rfl ?_
  intro bk4 _ _ hbk4_r
  simp only [Act.put, nA, nB, nC]
  refine Seq.store rfl rfl rfl rfl rfl (by repeat (first | exact rS | refine rN (by assumption) ?_)) (n := 3) rfl rfl (by kernel_rfl) (RC_one _) ?_
  simp only [Act.put, nA, nB, nC]
  refine Seq.done fun ws2 hws => ?_
  have HS2 := hws.list1 (p := bk4) (by repeat (first | exact rS | refine rN (by assumption) ?_))
  clear HS1 hws
  go_upto_region 2 with (fail)
  refine wp_seq_text [] (StR.no HS2) ?_
  iterate 2 (refine Seq.pure rfl rfl (by intro w; go_simp; try rfl) ?_; simp only [Act.put, nA, nB, nC])
  refine Seq.done fun ws3 hws => ?_
  have HS3 := hws.st
  clear HS2 hws
  go_upto_region 3 with (fail)
  have HPbk3 := HS3.f3
  have HPbk2 := HPbk3.f3
  refine wp_seq [] (by kernel_rfl) (by kernel_rfl) (Reg.fin.put (Reg.fin.put Reg.fin_no _ _) _ _) (StR.move (StR.move (StR.no HPbk2))) ?_
  iterate 4 (refine Seq.pure rfl rfl (by intro w; go_simp; try rfl) ?_; simp only [Act.put, nA, nB, nC])
  refine Seq.loadAt rfl rfl rfl rfl (by repeat (first | exact mC | apply mT)) (n := 3) (cs' := RT.c s1_t) (Nat.le_of_ble_eq_true rfl) (by kernel_rfl) rfl ?_
  simp only [Act.put, nA, nB, nC]
  refine Seq.callC (vs := #[.agg (RT.c s1_t)]) (cap := #[.pointer (some ⟨bk4, 0, none⟩)]) rfl rfl rfl rfl rfl (by kernel_rfl) (fun w h => place1_w (k := k) HT.out Z_s1.out Z_m.out (by omega) (by omega) _ w h (h.blk _ (by repeat (first | exact mC | apply mT))).2) ?_
  simp only [Act.put, nA, nB, nC]
  iterate 4 (refine Seq.pure rfl rfl (by intro w; go_simp; try rfl) ?_; simp only [Act.put, nA, nB, nC])
  refine Seq.loadAt rfl rfl rfl rfl (by repeat (first | exact mC | apply mT)) (n := 3) (cs' := RT.c s2_t) (Nat.le_of_ble_eq_true rfl) (by kernel_rfl) rfl ?_
  simp only [Act.put, nA, nB, nC]
  refine Seq.callC (vs := #[.agg (RT.c s2_t)]) (cap := #[.pointer (some ⟨bk4, 0, none⟩)]) rfl rfl rfl rfl rfl (by kernel_rfl) (fun w h => place1_w (k := k) HT.out Z_s2.out Z_m.out (by omega) (by omega) _ w h (h.blk _ (by repeat (first | exact mC | apply mT))).2) ?_
  simp only [Act.put, nA, nB, nC]
  refine Seq.store rfl rfl rfl rfl rfl (by repeat (first | exact rS | refine rN (by assumption) ?_)) (n := 6) rfl rfl (by kernel_rfl) (VC_one _ _) ?_
  simp only [Act.put, nA, nB, nC]
  refine Seq.store rfl rfl rfl rfl rfl (by repeat (first | exact rS | refine rN (by assumption) ?_)) (n := 6) rfl rfl (by kernel_rfl) (VC_one _ _) ?_
  simp only [Act.put, nA, nB, nC]
  refine Seq.done fun ws4 hws => ?_
  have HS4 := hws.list2 (p := bk2) (q := bk3) (by repeat (first | exact rS | refine rN (by assumption) ?_)) (by repeat (first | exact rS | refine rN (by assumption) ?_)) (by assumption)
  clear HS3 hws HPbk3 HPbk2
  go_wp2_with fail
  exact ret_cells rfl rfl rfl rfl HS4 (by repeat (first | exact mC | apply mT)) (by repeat (first | exact mC | apply mT)) (n := 6) (n2 := 6) rfl rfl (by kernel_rfl) (by kernel_rfl) ⟨HR.out, HS4.below⟩
set_option maxHeartbeats 2000000 in
set_option maxRecDepth 20000 in
theorem need_w {k : Nat} {sn : ByteArray} {pxl pxh : Rat} {pxg : Bool} {px1 px2 : RT} {pyl pyh : Rat} {pyg : Bool} {py1 py2 : RT} {ptl pth : Rat} {ptg : Bool} {pt1 pt2 : RT} {s1 : Rat} {s1_g : Bool} {s1_t : RT} {s2 : Rat} {s2_g : Bool} {s2_t : RT} {sh : Bool} {st : Rat} {st_g : Bool} {st_t : RT} {sw : Rat} {sw_g : Bool} {sw_t : RT} {z0 : Int} {W : World} {l : List Own} (hT : Tab W) (Zpx : RawS k pxl pxh pxg px1 px2) (Zpy : RawS k pyl pyh pyg py1 py2) (Zpt : RawS k ptl pth ptg pt1 pt2) (Zs1 : RawT k s1 s1_g s1_t) (Zs2 : RawT k s2 s2_g s2_t) (Zst : RawT k st st_g st_t) (Zsw : RawT k sw sw_g sw_t) (hz0 : needQ pxl pxh pyl pyh s1 s2 (maxQ sw 0) = z0) (hk0 : 2 ≤ k) (hk : k ≤ 249999999997) (w : World) (h : St W l w) :
    Calls Tryd.prog 7 #[.agg (PW px1 px2 py1 py2 pt1 pt2), .agg (SLW sn s1_t s2_t sh st_t sw_t)] w fun e w' => e = .returned (.int .i64 z0) ∧ Below w.heap.size w w' := by
  subst hz0
  have HT := Lib.hid (tabS hT h); clear hT h
  have Z_px := Lib.hid Zpx; clear Zpx
  have Z_py := Lib.hid Zpy; clear Zpy
  have Z_pt := Lib.hid Zpt; clear Zpt
  have Z_s1 := Lib.hid Zs1; clear Zs1
  have Z_s2 := Lib.hid Zs2; clear Zs2
  have Z_st := Lib.hid Zst; clear Zst
  have Z_sw := Lib.hid Zsw; clear Zsw
  obtain ⟨m, hm⟩ : ∃ m, maxQ sw 0 = m := ⟨_, rfl⟩
  have Z_m := Lib.hid (show Rz (1 * k + 2) m from hm ▸ Rz.max (Z_sw.out.rz.more (by omega)) (Rz.zero2.more (by omega)))
  have HM0 := Lib.hid (show 0 ≤ m from hm ▸ maxQ_ge sw)
  have HM := Lib.hid hm
  have HM4 := Lib.hid (show s1 - maxQ sw 0 = s1 - m ∧ s1 + maxQ sw 0 = s1 + m ∧ s2 - maxQ sw 0 = s2 - m ∧ s2 + maxQ sw 0 = s2 + m from by rw [hm]; exact ⟨rfl, rfl, rfl, rfl⟩)
  clear hm
  have hsp : (mtQ pxl pxh (s1 - m) (s1 + m) = false) ∨ (mtQ pxl pxh (s1 - m) (s1 + m) = true ∧ mtQ pyl pyh (s2 - m) (s2 + m) = false) ∨ (mtQ pxl pxh (s1 - m) (s1 + m) = true ∧ mtQ pyl pyh (s2 - m) (s2 + m) = true ∧ insQ pxl pxh pyl pyh ptl pth (s1 - m) (s1 + m) (s2 - m) (s2 + m) ptl pth = true) ∨ (mtQ pxl pxh (s1 - m) (s1 + m) = true ∧ mtQ pyl pyh (s2 - m) (s2 + m) = true ∧ insQ pxl pxh pyl pyh ptl pth (s1 - m) (s1 + m) (s2 - m) (s2 + m) ptl pth = false) := by
    cases mtQ pxl pxh (s1 - m) (s1 + m) <;> cases mtQ pyl pyh (s2 - m) (s2 + m) <;> cases insQ pxl pxh pyl pyh ptl pth (s1 - m) (s1 + m) (s2 - m) (s2 + m) ptl pth <;> simp
  rcases hsp with hb1 | ⟨hb1, hb2⟩ | ⟨hb1, hb2, hb3⟩ | ⟨hb1, hb2, hb3⟩
  · have HR := Lib.hid (show (17 : Int) = needQ pxl pxh pyl pyh s1 s2 (maxQ sw 0) from by rw [← HM.out] at hb1; unfold needQ; simp [hb1])
    have B1 := Lib.hid hb1
    clear hb1
    go_enter Tryd.func7, Tryd.ntmps7
    have HS : St w [] w := St.start
    go_upto_region 0 with (fail)
    refine wp_seq_text [] (StR.no HS) ?_
    refine Seq.box rfl rfl rfl (v := .agg (PW px1 px2 py1 py2 pt1 pt2)) (cs := PW px1 px2 py1 py2 pt1 pt2) rfl rfl ?_
    intro bk2 _ _ hbk2_r
    simp only [Act.put, nA, nB, nC]
    refine Seq.box rfl rfl rfl (v := .agg (SLW sn s1_t s2_t sh st_t sw_t)) (cs := SLW sn s1_t s2_t sh st_t sw_t) rfl rfl ?_
    intro bk3 _ _ hbk3_r
    obtain ⟨ne_bk3_bk2, hbk3_r⟩ := Reg.ne_of_put hbk3_r
    have ne_bk2_bk3 := Ne.symm ne_bk3_bk2
    simp only [Act.put, nA, nB, nC]
    refine Seq.pure rfl rfl (by intro w; go_simp; try rfl) ?_
    simp only [Act.put, nA, nB, nC]
    refine Seq.done fun ws1 hws => ?_
    have HS1 := hws.list2 (p := bk2) (q := bk3) (by repeat (first | exact rS | refine rN (by assumption) ?_)) (by repeat (first | exact rS | refine rN (by assumption) ?_)) (by assumption)
    clear HS hws
    go_upto_region 1 with (fail)
    refine wp_seq_text [] (StR.no HS1) ?_
    refine Seq.load rfl rfl rfl rfl (by repeat (first | exact mC | apply mT)) (n := 14) rfl (by kernel_rfl) ?_
    simp only [Act.put, nA, nB, nC]
    refine Seq.call rfl rfl rfl rfl (by kernel_rfl) (place_w (k := (1 * k + 2)) (s1_t := s1_t) (s2_t := s2_t) (st_t := st_t) (sw_t := sw_t) HT.out (Z_s1.out.more (by omega)) (Z_s2.out.more (by omega)) (Z_st.out.more (by omega)) (Z_sw.out.more (by omega))  HM4.out.1 HM4.out.2.1 HM4.out.2.2.1 HM4.out.2.2.2 (by omega) (by omega)) ?_
    simp only [Act.put, nA, nB, nC]
    refine Seq.pure rfl rfl (by intro w; go_simp; try rfl) ?_
    simp only [Act.put, nA, nB, nC]
    refine Seq.pure (v := .agg (VC (s1 - m) (s1 + m))) rfl rfl (fun w => rfl) ?_
    simp only [Act.put, nA, nB, nC]
    refine Seq.pure (v := .agg (VC (s2 - m) (s2 + m))) rfl rfl (fun w => rfl) ?_
    simp only [Act.put, nA, nB, nC]
    refine Seq.alloc rfl rfl rfl (z := .agg (SW rz0 rz0)) (by kernel_rfl) rfl ?_
    intro bk5 _ _ hbk5_r
    simp only [Act.put, nA, nB, nC]
    refine Seq.alloc rfl rfl rfl (z := .agg (SW rz0 rz0)) (by kernel_rfl) rfl ?_
    intro bk6 _ _ hbk6_r
    obtain ⟨ne_bk6_bk5, hbk6_r⟩ := Reg.ne_of_put hbk6_r
    have ne_bk5_bk6 := Ne.symm ne_bk6_bk5
    simp only [Act.put, nA, nB, nC]
    refine Seq.store rfl rfl rfl rfl rfl (by repeat (first | exact rS | refine rN (by assumption) ?_)) (n := 6) rfl rfl (by kernel_rfl) (VC_one _ _) ?_
    simp only [Act.put, nA, nB, nC]
    refine Seq.store rfl rfl rfl rfl rfl (by repeat (first | exact rS | refine rN (by assumption) ?_)) (n := 6) rfl rfl (by kernel_rfl) (VC_one _ _) ?_
    simp only [Act.put, nA, nB, nC]
    refine Seq.done fun ws2 hws => ?_
    have HS2 := hws.list2 (p := bk5) (q := bk6) (by repeat (first | exact rS | refine rN (by assumption) ?_)) (by repeat (first | exact rS | refine rN (by assumption) ?_)) (by assumption)
    clear HS1 hws
    go_upto_region 2 with (fail)
    refine wp_seq_text [] (StR.no HS2) ?_
    refine Seq.pure rfl rfl (by intro w; go_simp; try rfl) ?_
    simp only [Act.put, nA, nB, nC]
    refine Seq.loadAt rfl rfl rfl rfl (by repeat (first | exact mC | apply mT)) (n := 6) (cs' := SW px1 px2) (Nat.le_of_ble_eq_true rfl) (by kernel_rfl) rfl ?_
    simp only [Act.put, nA, nB, nC]
    refine Seq.load rfl rfl rfl rfl (by repeat (first | exact mC | apply mT)) (n := 6) rfl (by kernel_rfl) ?_
    simp only [Act.put, nA, nB, nC]
    refine Seq.call rfl rfl rfl rfl (by kernel_rfl) (smeet_w (k := (4 * k + 5)) (a1 := px1) (a2 := px2) (b1 := (rt (s1 - m))) (b2 := (rt (s1 + m))) HT.out (Z_px.out.more (by omega)) (RawS.of (pm_le HM0.out) ((Rz.sub Z_s1.out.rz Z_m.out).more (by omega)) ((Rz.add Z_s1.out.rz Z_m.out).more (by omega)))  B1.out (by omega) (by omega)) ?_
    simp only [Act.put, nA, nB, nC]
    iterate 2 (refine Seq.pure rfl rfl (by intro w; go_simp; try rfl) ?_; simp only [Act.put, nA, nB, nC])
    iterate 5 (refine Seq.nw rfl ?_; simp only [Act.put, nA, nB, nC])
    refine Seq.pure rfl rfl (by intro w; go_simp; try rfl) ?_
    simp only [Act.put, nA, nB, nC]
    refine Seq.done fun ws3 hws => ?_
    have HS3 := hws.st
    clear HS2 hws
    go_upto_region 3 with (fail)
    refine wp_seq_text [] (StR.no HS3) ?_
    refine Seq.pure rfl rfl (by intro w; go_simp; try rfl) ?_
    simp only [Act.put, nA, nB, nC]
    refine Seq.done fun ws4 hws => ?_
    have HS4 := hws.st
    clear HS3 hws
    go_wp2_with fail
    go_ret
    exact ⟨congrArg (fun z => Ending.returned (.int .i64 z)) HR.out, HS4.below⟩
  · have HR := Lib.hid (show (17 : Int) = needQ pxl pxh pyl pyh s1 s2 (maxQ sw 0) from by rw [← HM.out] at hb1 hb2; unfold needQ; simp [hb1, hb2])
    have B1 := Lib.hid hb1
    have B2 := Lib.hid hb2
    clear hb1 hb2
    go_enter Tryd.func7, Tryd.ntmps7
    have HS : St w [] w := St.start
    go_upto_region 0 with (fail)
    refine wp_seq_text [] (StR.no HS) ?_
    refine Seq.box rfl rfl rfl (v := .agg (PW px1 px2 py1 py2 pt1 pt2)) (cs := PW px1 px2 py1 py2 pt1 pt2) rfl rfl ?_
    intro bk2 _ _ hbk2_r
    simp only [Act.put, nA, nB, nC]
    refine Seq.box rfl rfl rfl (v := .agg (SLW sn s1_t s2_t sh st_t sw_t)) (cs := SLW sn s1_t s2_t sh st_t sw_t) rfl rfl ?_
    intro bk3 _ _ hbk3_r
    obtain ⟨ne_bk3_bk2, hbk3_r⟩ := Reg.ne_of_put hbk3_r
    have ne_bk2_bk3 := Ne.symm ne_bk3_bk2
    simp only [Act.put, nA, nB, nC]
    refine Seq.pure rfl rfl (by intro w; go_simp; try rfl) ?_
    simp only [Act.put, nA, nB, nC]
    refine Seq.done fun ws1 hws => ?_
    have HS1 := hws.list2 (p := bk2) (q := bk3) (by repeat (first | exact rS | refine rN (by assumption) ?_)) (by repeat (first | exact rS | refine rN (by assumption) ?_)) (by assumption)
    clear HS hws
    go_upto_region 1 with (fail)
    refine wp_seq_text [] (StR.no HS1) ?_
    refine Seq.load rfl rfl rfl rfl (by repeat (first | exact mC | apply mT)) (n := 14) rfl (by kernel_rfl) ?_
    simp only [Act.put, nA, nB, nC]
    refine Seq.call rfl rfl rfl rfl (by kernel_rfl) (place_w (k := (1 * k + 2)) (s1_t := s1_t) (s2_t := s2_t) (st_t := st_t) (sw_t := sw_t) HT.out (Z_s1.out.more (by omega)) (Z_s2.out.more (by omega)) (Z_st.out.more (by omega)) (Z_sw.out.more (by omega))  HM4.out.1 HM4.out.2.1 HM4.out.2.2.1 HM4.out.2.2.2 (by omega) (by omega)) ?_
    simp only [Act.put, nA, nB, nC]
    refine Seq.pure rfl rfl (by intro w; go_simp; try rfl) ?_
    simp only [Act.put, nA, nB, nC]
    refine Seq.pure (v := .agg (VC (s1 - m) (s1 + m))) rfl rfl (fun w => rfl) ?_
    simp only [Act.put, nA, nB, nC]
    refine Seq.pure (v := .agg (VC (s2 - m) (s2 + m))) rfl rfl (fun w => rfl) ?_
    simp only [Act.put, nA, nB, nC]
    refine Seq.alloc rfl rfl rfl (z := .agg (SW rz0 rz0)) (by kernel_rfl) rfl ?_
    intro bk5 _ _ hbk5_r
    simp only [Act.put, nA, nB, nC]
    refine Seq.alloc rfl rfl rfl (z := .agg (SW rz0 rz0)) (by kernel_rfl) rfl ?_
    intro bk6 _ _ hbk6_r
    obtain ⟨ne_bk6_bk5, hbk6_r⟩ := Reg.ne_of_put hbk6_r
    have ne_bk5_bk6 := Ne.symm ne_bk6_bk5
    simp only [Act.put, nA, nB, nC]
    refine Seq.store rfl rfl rfl rfl rfl (by repeat (first | exact rS | refine rN (by assumption) ?_)) (n := 6) rfl rfl (by kernel_rfl) (VC_one _ _) ?_
    simp only [Act.put, nA, nB, nC]
    refine Seq.store rfl rfl rfl rfl rfl (by repeat (first | exact rS | refine rN (by assumption) ?_)) (n := 6) rfl rfl (by kernel_rfl) (VC_one _ _) ?_
    simp only [Act.put, nA, nB, nC]
    refine Seq.done fun ws2 hws => ?_
    have HS2 := hws.list2 (p := bk5) (q := bk6) (by repeat (first | exact rS | refine rN (by assumption) ?_)) (by repeat (first | exact rS | refine rN (by assumption) ?_)) (by assumption)
    clear HS1 hws
    go_upto_region 2 with (fail)
    refine wp_seq_text [] (StR.no HS2) ?_
    refine Seq.pure rfl rfl (by intro w; go_simp; try rfl) ?_
    simp only [Act.put, nA, nB, nC]
    refine Seq.loadAt rfl rfl rfl rfl (by repeat (first | exact mC | apply mT)) (n := 6) (cs' := SW px1 px2) (Nat.le_of_ble_eq_true rfl) (by kernel_rfl) rfl ?_
    simp only [Act.put, nA, nB, nC]
    refine Seq.load rfl rfl rfl rfl (by repeat (first | exact mC | apply mT)) (n := 6) rfl (by kernel_rfl) ?_
    simp only [Act.put, nA, nB, nC]
    refine Seq.call rfl rfl rfl rfl (by kernel_rfl) (smeet_w (k := (4 * k + 5)) (a1 := px1) (a2 := px2) (b1 := (rt (s1 - m))) (b2 := (rt (s1 + m))) HT.out (Z_px.out.more (by omega)) (RawS.of (pm_le HM0.out) ((Rz.sub Z_s1.out.rz Z_m.out).more (by omega)) ((Rz.add Z_s1.out.rz Z_m.out).more (by omega)))  B1.out (by omega) (by omega)) ?_
    simp only [Act.put, nA, nB, nC]
    iterate 3 (refine Seq.pure rfl rfl (by intro w; go_simp; try rfl) ?_; simp only [Act.put, nA, nB, nC])
    refine Seq.loadAt rfl rfl rfl rfl (by repeat (first | exact mC | apply mT)) (n := 6) (cs' := SW py1 py2) (Nat.le_of_ble_eq_true rfl) (by kernel_rfl) rfl ?_
    simp only [Act.put, nA, nB, nC]
    refine Seq.load rfl rfl rfl rfl (by repeat (first | exact mC | apply mT)) (n := 6) rfl (by kernel_rfl) ?_
    simp only [Act.put, nA, nB, nC]
    refine Seq.call rfl rfl rfl rfl (by kernel_rfl) (smeet_w (k := (4 * k + 5)) (a1 := py1) (a2 := py2) (b1 := (rt (s2 - m))) (b2 := (rt (s2 + m))) HT.out (Z_py.out.more (by omega)) (RawS.of (pm_le HM0.out) ((Rz.sub Z_s2.out.rz Z_m.out).more (by omega)) ((Rz.add Z_s2.out.rz Z_m.out).more (by omega)))  B2.out (by omega) (by omega)) ?_
    simp only [Act.put, nA, nB, nC]
    iterate 2 (refine Seq.pure rfl rfl (by intro w; go_simp; try rfl) ?_; simp only [Act.put, nA, nB, nC])
    refine Seq.done fun ws3 hws => ?_
    have HS3 := hws.st
    clear HS2 hws
    go_upto_region 3 with (fail)
    refine wp_seq_text [] (StR.no HS3) ?_
    refine Seq.pure rfl rfl (by intro w; go_simp; try rfl) ?_
    simp only [Act.put, nA, nB, nC]
    refine Seq.done fun ws4 hws => ?_
    have HS4 := hws.st
    clear HS3 hws
    go_wp2_with fail
    go_ret
    exact ⟨congrArg (fun z => Ending.returned (.int .i64 z)) HR.out, HS4.below⟩
  · have HR := Lib.hid (show (0 : Int) = needQ pxl pxh pyl pyh s1 s2 (maxQ sw 0) from by rw [HM.out]; exact (needQ_in hb1 hb2 hb3).symm)
    have B1 := Lib.hid hb1
    have B2 := Lib.hid hb2
    have B3 := Lib.hid hb3
    clear hb1 hb2 hb3
    go_enter Tryd.func7, Tryd.ntmps7
    have HS : St w [] w := St.start
    go_upto_region 0 with (fail)
    refine wp_seq_text [] (StR.no HS) ?_
    refine Seq.box rfl rfl rfl (v := .agg (PW px1 px2 py1 py2 pt1 pt2)) (cs := PW px1 px2 py1 py2 pt1 pt2) rfl rfl ?_
    intro bk2 _ _ hbk2_r
    simp only [Act.put, nA, nB, nC]
    refine Seq.box rfl rfl rfl (v := .agg (SLW sn s1_t s2_t sh st_t sw_t)) (cs := SLW sn s1_t s2_t sh st_t sw_t) rfl rfl ?_
    intro bk3 _ _ hbk3_r
    obtain ⟨ne_bk3_bk2, hbk3_r⟩ := Reg.ne_of_put hbk3_r
    have ne_bk2_bk3 := Ne.symm ne_bk3_bk2
    simp only [Act.put, nA, nB, nC]
    refine Seq.pure rfl rfl (by intro w; go_simp; try rfl) ?_
    simp only [Act.put, nA, nB, nC]
    refine Seq.done fun ws1 hws => ?_
    have HS1 := hws.list2 (p := bk2) (q := bk3) (by repeat (first | exact rS | refine rN (by assumption) ?_)) (by repeat (first | exact rS | refine rN (by assumption) ?_)) (by assumption)
    clear HS hws
    go_upto_region 1 with (fail)
    refine wp_seq_text [] (StR.no HS1) ?_
    refine Seq.load rfl rfl rfl rfl (by repeat (first | exact mC | apply mT)) (n := 14) rfl (by kernel_rfl) ?_
    simp only [Act.put, nA, nB, nC]
    refine Seq.call rfl rfl rfl rfl (by kernel_rfl) (place_w (k := (1 * k + 2)) (s1_t := s1_t) (s2_t := s2_t) (st_t := st_t) (sw_t := sw_t) HT.out (Z_s1.out.more (by omega)) (Z_s2.out.more (by omega)) (Z_st.out.more (by omega)) (Z_sw.out.more (by omega))  HM4.out.1 HM4.out.2.1 HM4.out.2.2.1 HM4.out.2.2.2 (by omega) (by omega)) ?_
    simp only [Act.put, nA, nB, nC]
    refine Seq.pure rfl rfl (by intro w; go_simp; try rfl) ?_
    simp only [Act.put, nA, nB, nC]
    refine Seq.pure (v := .agg (VC (s1 - m) (s1 + m))) rfl rfl (fun w => rfl) ?_
    simp only [Act.put, nA, nB, nC]
    refine Seq.pure (v := .agg (VC (s2 - m) (s2 + m))) rfl rfl (fun w => rfl) ?_
    simp only [Act.put, nA, nB, nC]
    refine Seq.alloc rfl rfl rfl (z := .agg (SW rz0 rz0)) (by kernel_rfl) rfl ?_
    intro bk5 _ _ hbk5_r
    simp only [Act.put, nA, nB, nC]
    refine Seq.alloc rfl rfl rfl (z := .agg (SW rz0 rz0)) (by kernel_rfl) rfl ?_
    intro bk6 _ _ hbk6_r
    obtain ⟨ne_bk6_bk5, hbk6_r⟩ := Reg.ne_of_put hbk6_r
    have ne_bk5_bk6 := Ne.symm ne_bk6_bk5
    simp only [Act.put, nA, nB, nC]
    refine Seq.store rfl rfl rfl rfl rfl (by repeat (first | exact rS | refine rN (by assumption) ?_)) (n := 6) rfl rfl (by kernel_rfl) (VC_one _ _) ?_
    simp only [Act.put, nA, nB, nC]
    refine Seq.store rfl rfl rfl rfl rfl (by repeat (first | exact rS | refine rN (by assumption) ?_)) (n := 6) rfl rfl (by kernel_rfl) (VC_one _ _) ?_
    simp only [Act.put, nA, nB, nC]
    refine Seq.done fun ws2 hws => ?_
    have HS2 := hws.list2 (p := bk5) (q := bk6) (by repeat (first | exact rS | refine rN (by assumption) ?_)) (by repeat (first | exact rS | refine rN (by assumption) ?_)) (by assumption)
    clear HS1 hws
    go_upto_region 2 with (fail)
    refine wp_seq_text [] (StR.no HS2) ?_
    refine Seq.pure rfl rfl (by intro w; go_simp; try rfl) ?_
    simp only [Act.put, nA, nB, nC]
    refine Seq.loadAt rfl rfl rfl rfl (by repeat (first | exact mC | apply mT)) (n := 6) (cs' := SW px1 px2) (Nat.le_of_ble_eq_true rfl) (by kernel_rfl) rfl ?_
    simp only [Act.put, nA, nB, nC]
    refine Seq.load rfl rfl rfl rfl (by repeat (first | exact mC | apply mT)) (n := 6) rfl (by kernel_rfl) ?_
    simp only [Act.put, nA, nB, nC]
    refine Seq.call rfl rfl rfl rfl (by kernel_rfl) (smeet_w (k := (4 * k + 5)) (a1 := px1) (a2 := px2) (b1 := (rt (s1 - m))) (b2 := (rt (s1 + m))) HT.out (Z_px.out.more (by omega)) (RawS.of (pm_le HM0.out) ((Rz.sub Z_s1.out.rz Z_m.out).more (by omega)) ((Rz.add Z_s1.out.rz Z_m.out).more (by omega)))  B1.out (by omega) (by omega)) ?_
    simp only [Act.put, nA, nB, nC]
    iterate 3 (refine Seq.pure rfl rfl (by intro w; go_simp; try rfl) ?_; simp only [Act.put, nA, nB, nC])
    refine Seq.loadAt rfl rfl rfl rfl (by repeat (first | exact mC | apply mT)) (n := 6) (cs' := SW py1 py2) (Nat.le_of_ble_eq_true rfl) (by kernel_rfl) rfl ?_
    simp only [Act.put, nA, nB, nC]
    refine Seq.load rfl rfl rfl rfl (by repeat (first | exact mC | apply mT)) (n := 6) rfl (by kernel_rfl) ?_
    simp only [Act.put, nA, nB, nC]
    refine Seq.call rfl rfl rfl rfl (by kernel_rfl) (smeet_w (k := (4 * k + 5)) (a1 := py1) (a2 := py2) (b1 := (rt (s2 - m))) (b2 := (rt (s2 + m))) HT.out (Z_py.out.more (by omega)) (RawS.of (pm_le HM0.out) ((Rz.sub Z_s2.out.rz Z_m.out).more (by omega)) ((Rz.add Z_s2.out.rz Z_m.out).more (by omega)))  B2.out (by omega) (by omega)) ?_
    simp only [Act.put, nA, nB, nC]
    iterate 2 (refine Seq.pure rfl rfl (by intro w; go_simp; try rfl) ?_; simp only [Act.put, nA, nB, nC])
    refine Seq.done fun ws3 hws => ?_
    have HS3 := hws.st
    clear HS2 hws
    go_upto_region 4 with (fail)
    refine wp_seq_text [] (StR.no HS3) ?_
    refine Seq.load rfl rfl rfl rfl (by repeat (first | exact mC | apply mT)) (n := 6) rfl (by kernel_rfl) ?_
    simp only [Act.put, nA, nB, nC]
    refine Seq.load rfl rfl rfl rfl (by repeat (first | exact mC | apply mT)) (n := 6) rfl (by kernel_rfl) ?_
    simp only [Act.put, nA, nB, nC]
    refine Seq.pure rfl rfl (by intro w; go_simp; try rfl) ?_
    simp only [Act.put, nA, nB, nC]
    refine Seq.loadAt rfl rfl rfl rfl (by repeat (first | exact mC | apply mT)) (n := 6) (cs' := SW pt1 pt2) (Nat.le_of_ble_eq_true rfl) (by kernel_rfl) rfl ?_
    simp only [Act.put, nA, nB, nC]
    refine Seq.pure (v := .agg (PW (rt (s1 - m)) (rt (s1 + m)) (rt (s2 - m)) (rt (s2 + m)) pt1 pt2)) rfl rfl (fun w => bld_Pose (x := (rt (s1 - m))) (y := (rt (s1 + m))) (z := (rt (s2 - m))) (u := (rt (s2 + m))) (v := pt1) (t := pt2) rfl rfl rfl rfl w) ?_
    simp only [Act.put, nA, nB, nC]
    refine Seq.alloc rfl rfl rfl (z := .agg (PW rz0 rz0 rz0 rz0 rz0 rz0)) (by kernel_rfl) rfl ?_
    intro bk7 _ _ hbk7_r
    simp only [Act.put, nA, nB, nC]
    refine Seq.store rfl rfl rfl rfl rfl (by repeat (first | exact rS | refine rN (by assumption) ?_)) (n := 18) rfl rfl (by kernel_rfl) (PW_one _ _ _ _ _ _) ?_
    simp only [Act.put, nA, nB, nC]
    refine Seq.done fun ws4 hws => ?_
    have HS4 := hws.list1 (p := bk7) (by repeat (first | exact rS | refine rN (by assumption) ?_))
    clear HS3 hws
    go_upto_region 5 with (fail)
    refine wp_seq_text [] (StR.no HS4) ?_
    refine Seq.load rfl rfl rfl rfl (by repeat (first | exact mC | apply mT)) (n := 18) rfl (by kernel_rfl) ?_
    simp only [Act.put, nA, nB, nC]
    refine Seq.load rfl rfl rfl rfl (by repeat (first | exact mC | apply mT)) (n := 18) rfl (by kernel_rfl) ?_
    simp only [Act.put, nA, nB, nC]
    refine Seq.call rfl rfl rfl rfl (by kernel_rfl) (inside_w (k := (4 * k + 5)) (px1 := px1) (px2 := px2) (py1 := py1) (py2 := py2) (pt1 := pt1) (pt2 := pt2) (qx1 := (rt (s1 - m))) (qx2 := (rt (s1 + m))) (qy1 := (rt (s2 - m))) (qy2 := (rt (s2 + m))) (qt1 := pt1) (qt2 := pt2) HT.out (Z_px.out.more (by omega)) (Z_py.out.more (by omega)) (Z_pt.out.more (by omega)) (RawS.of (pm_le HM0.out) ((Rz.sub Z_s1.out.rz Z_m.out).more (by omega)) ((Rz.add Z_s1.out.rz Z_m.out).more (by omega))) (RawS.of (pm_le HM0.out) ((Rz.sub Z_s2.out.rz Z_m.out).more (by omega)) ((Rz.add Z_s2.out.rz Z_m.out).more (by omega))) (Z_pt.out.more (by omega))  B3.out (by omega) (by omega)) ?_
    simp only [Act.put, nA, nB, nC]
    refine Seq.done fun ws5 hws => ?_
    have HS5 := hws.st
    clear HS4 hws
    go_upto_region 6 with (fail)
    refine wp_seq_text [] (StR.no HS5) ?_
    refine Seq.pure rfl rfl (by intro w; go_simp; try rfl) ?_
    simp only [Act.put, nA, nB, nC]
    refine Seq.done fun ws6 hws => ?_
    have HS6 := hws.st
    clear HS5 hws
    go_wp2_with fail
    go_ret
    exact ⟨congrArg (fun z => Ending.returned (.int .i64 z)) HR.out, HS6.below⟩
  · have HR := Lib.hid (show (18 : Int) = needQ pxl pxh pyl pyh s1 s2 (maxQ sw 0) from by rw [HM.out]; exact (needQ_in hb1 hb2 hb3).symm)
    have B1 := Lib.hid hb1
    have B2 := Lib.hid hb2
    have B3 := Lib.hid hb3
    clear hb1 hb2 hb3
    go_enter Tryd.func7, Tryd.ntmps7
    have HS : St w [] w := St.start
    go_upto_region 0 with (fail)
    refine wp_seq_text [] (StR.no HS) ?_
    refine Seq.box rfl rfl rfl (v := .agg (PW px1 px2 py1 py2 pt1 pt2)) (cs := PW px1 px2 py1 py2 pt1 pt2) rfl rfl ?_
    intro bk2 _ _ hbk2_r
    simp only [Act.put, nA, nB, nC]
    refine Seq.box rfl rfl rfl (v := .agg (SLW sn s1_t s2_t sh st_t sw_t)) (cs := SLW sn s1_t s2_t sh st_t sw_t) rfl rfl ?_
    intro bk3 _ _ hbk3_r
    obtain ⟨ne_bk3_bk2, hbk3_r⟩ := Reg.ne_of_put hbk3_r
    have ne_bk2_bk3 := Ne.symm ne_bk3_bk2
    simp only [Act.put, nA, nB, nC]
    refine Seq.pure rfl rfl (by intro w; go_simp; try rfl) ?_
    simp only [Act.put, nA, nB, nC]
    refine Seq.done fun ws1 hws => ?_
    have HS1 := hws.list2 (p := bk2) (q := bk3) (by repeat (first | exact rS | refine rN (by assumption) ?_)) (by repeat (first | exact rS | refine rN (by assumption) ?_)) (by assumption)
    clear HS hws
    go_upto_region 1 with (fail)
    refine wp_seq_text [] (StR.no HS1) ?_
    refine Seq.load rfl rfl rfl rfl (by repeat (first | exact mC | apply mT)) (n := 14) rfl (by kernel_rfl) ?_
    simp only [Act.put, nA, nB, nC]
    refine Seq.call rfl rfl rfl rfl (by kernel_rfl) (place_w (k := (1 * k + 2)) (s1_t := s1_t) (s2_t := s2_t) (st_t := st_t) (sw_t := sw_t) HT.out (Z_s1.out.more (by omega)) (Z_s2.out.more (by omega)) (Z_st.out.more (by omega)) (Z_sw.out.more (by omega))  HM4.out.1 HM4.out.2.1 HM4.out.2.2.1 HM4.out.2.2.2 (by omega) (by omega)) ?_
    simp only [Act.put, nA, nB, nC]
    refine Seq.pure rfl rfl (by intro w; go_simp; try rfl) ?_
    simp only [Act.put, nA, nB, nC]
    refine Seq.pure (v := .agg (VC (s1 - m) (s1 + m))) rfl rfl (fun w => rfl) ?_
    simp only [Act.put, nA, nB, nC]
    refine Seq.pure (v := .agg (VC (s2 - m) (s2 + m))) rfl rfl (fun w => rfl) ?_
    simp only [Act.put, nA, nB, nC]
    refine Seq.alloc rfl rfl rfl (z := .agg (SW rz0 rz0)) (by kernel_rfl) rfl ?_
    intro bk5 _ _ hbk5_r
    simp only [Act.put, nA, nB, nC]
    refine Seq.alloc rfl rfl rfl (z := .agg (SW rz0 rz0)) (by kernel_rfl) rfl ?_
    intro bk6 _ _ hbk6_r
    obtain ⟨ne_bk6_bk5, hbk6_r⟩ := Reg.ne_of_put hbk6_r
    have ne_bk5_bk6 := Ne.symm ne_bk6_bk5
    simp only [Act.put, nA, nB, nC]
    refine Seq.store rfl rfl rfl rfl rfl (by repeat (first | exact rS | refine rN (by assumption) ?_)) (n := 6) rfl rfl (by kernel_rfl) (VC_one _ _) ?_
    simp only [Act.put, nA, nB, nC]
    refine Seq.store rfl rfl rfl rfl rfl (by repeat (first | exact rS | refine rN (by assumption) ?_)) (n := 6) rfl rfl (by kernel_rfl) (VC_one _ _) ?_
    simp only [Act.put, nA, nB, nC]
    refine Seq.done fun ws2 hws => ?_
    have HS2 := hws.list2 (p := bk5) (q := bk6) (by repeat (first | exact rS | refine rN (by assumption) ?_)) (by repeat (first | exact rS | refine rN (by assumption) ?_)) (by assumption)
    clear HS1 hws
    go_upto_region 2 with (fail)
    refine wp_seq_text [] (StR.no HS2) ?_
    refine Seq.pure rfl rfl (by intro w; go_simp; try rfl) ?_
    simp only [Act.put, nA, nB, nC]
    refine Seq.loadAt rfl rfl rfl rfl (by repeat (first | exact mC | apply mT)) (n := 6) (cs' := SW px1 px2) (Nat.le_of_ble_eq_true rfl) (by kernel_rfl) rfl ?_
    simp only [Act.put, nA, nB, nC]
    refine Seq.load rfl rfl rfl rfl (by repeat (first | exact mC | apply mT)) (n := 6) rfl (by kernel_rfl) ?_
    simp only [Act.put, nA, nB, nC]
    refine Seq.call rfl rfl rfl rfl (by kernel_rfl) (smeet_w (k := (4 * k + 5)) (a1 := px1) (a2 := px2) (b1 := (rt (s1 - m))) (b2 := (rt (s1 + m))) HT.out (Z_px.out.more (by omega)) (RawS.of (pm_le HM0.out) ((Rz.sub Z_s1.out.rz Z_m.out).more (by omega)) ((Rz.add Z_s1.out.rz Z_m.out).more (by omega)))  B1.out (by omega) (by omega)) ?_
    simp only [Act.put, nA, nB, nC]
    iterate 3 (refine Seq.pure rfl rfl (by intro w; go_simp; try rfl) ?_; simp only [Act.put, nA, nB, nC])
    refine Seq.loadAt rfl rfl rfl rfl (by repeat (first | exact mC | apply mT)) (n := 6) (cs' := SW py1 py2) (Nat.le_of_ble_eq_true rfl) (by kernel_rfl) rfl ?_
    simp only [Act.put, nA, nB, nC]
    refine Seq.load rfl rfl rfl rfl (by repeat (first | exact mC | apply mT)) (n := 6) rfl (by kernel_rfl) ?_
    simp only [Act.put, nA, nB, nC]
    refine Seq.call rfl rfl rfl rfl (by kernel_rfl) (smeet_w (k := (4 * k + 5)) (a1 := py1) (a2 := py2) (b1 := (rt (s2 - m))) (b2 := (rt (s2 + m))) HT.out (Z_py.out.more (by omega)) (RawS.of (pm_le HM0.out) ((Rz.sub Z_s2.out.rz Z_m.out).more (by omega)) ((Rz.add Z_s2.out.rz Z_m.out).more (by omega)))  B2.out (by omega) (by omega)) ?_
    simp only [Act.put, nA, nB, nC]
    iterate 2 (refine Seq.pure rfl rfl (by intro w; go_simp; try rfl) ?_; simp only [Act.put, nA, nB, nC])
    refine Seq.done fun ws3 hws => ?_
    have HS3 := hws.st
    clear HS2 hws
    go_upto_region 4 with (fail)
    refine wp_seq_text [] (StR.no HS3) ?_
    refine Seq.load rfl rfl rfl rfl (by repeat (first | exact mC | apply mT)) (n := 6) rfl (by kernel_rfl) ?_
    simp only [Act.put, nA, nB, nC]
    refine Seq.load rfl rfl rfl rfl (by repeat (first | exact mC | apply mT)) (n := 6) rfl (by kernel_rfl) ?_
    simp only [Act.put, nA, nB, nC]
    refine Seq.pure rfl rfl (by intro w; go_simp; try rfl) ?_
    simp only [Act.put, nA, nB, nC]
    refine Seq.loadAt rfl rfl rfl rfl (by repeat (first | exact mC | apply mT)) (n := 6) (cs' := SW pt1 pt2) (Nat.le_of_ble_eq_true rfl) (by kernel_rfl) rfl ?_
    simp only [Act.put, nA, nB, nC]
    refine Seq.pure (v := .agg (PW (rt (s1 - m)) (rt (s1 + m)) (rt (s2 - m)) (rt (s2 + m)) pt1 pt2)) rfl rfl (fun w => bld_Pose (x := (rt (s1 - m))) (y := (rt (s1 + m))) (z := (rt (s2 - m))) (u := (rt (s2 + m))) (v := pt1) (t := pt2) rfl rfl rfl rfl w) ?_
    simp only [Act.put, nA, nB, nC]
    refine Seq.alloc rfl rfl rfl (z := .agg (PW rz0 rz0 rz0 rz0 rz0 rz0)) (by kernel_rfl) rfl ?_
    intro bk7 _ _ hbk7_r
    simp only [Act.put, nA, nB, nC]
    refine Seq.store rfl rfl rfl rfl rfl (by repeat (first | exact rS | refine rN (by assumption) ?_)) (n := 18) rfl rfl (by kernel_rfl) (PW_one _ _ _ _ _ _) ?_
    simp only [Act.put, nA, nB, nC]
    refine Seq.done fun ws4 hws => ?_
    have HS4 := hws.list1 (p := bk7) (by repeat (first | exact rS | refine rN (by assumption) ?_))
    clear HS3 hws
    go_upto_region 5 with (fail)
    refine wp_seq_text [] (StR.no HS4) ?_
    refine Seq.load rfl rfl rfl rfl (by repeat (first | exact mC | apply mT)) (n := 18) rfl (by kernel_rfl) ?_
    simp only [Act.put, nA, nB, nC]
    refine Seq.load rfl rfl rfl rfl (by repeat (first | exact mC | apply mT)) (n := 18) rfl (by kernel_rfl) ?_
    simp only [Act.put, nA, nB, nC]
    refine Seq.call rfl rfl rfl rfl (by kernel_rfl) (inside_w (k := (4 * k + 5)) (px1 := px1) (px2 := px2) (py1 := py1) (py2 := py2) (pt1 := pt1) (pt2 := pt2) (qx1 := (rt (s1 - m))) (qx2 := (rt (s1 + m))) (qy1 := (rt (s2 - m))) (qy2 := (rt (s2 + m))) (qt1 := pt1) (qt2 := pt2) HT.out (Z_px.out.more (by omega)) (Z_py.out.more (by omega)) (Z_pt.out.more (by omega)) (RawS.of (pm_le HM0.out) ((Rz.sub Z_s1.out.rz Z_m.out).more (by omega)) ((Rz.add Z_s1.out.rz Z_m.out).more (by omega))) (RawS.of (pm_le HM0.out) ((Rz.sub Z_s2.out.rz Z_m.out).more (by omega)) ((Rz.add Z_s2.out.rz Z_m.out).more (by omega))) (Z_pt.out.more (by omega))  B3.out (by omega) (by omega)) ?_
    simp only [Act.put, nA, nB, nC]
    refine Seq.done fun ws5 hws => ?_
    have HS5 := hws.st
    clear HS4 hws
    go_upto_region 7 with (fail)
    refine wp_seq_text [] (StR.no HS5) ?_
    refine Seq.pure rfl rfl (by intro w; go_simp; try rfl) ?_
    simp only [Act.put, nA, nB, nC]
    refine Seq.done fun ws6 hws => ?_
    have HS6 := hws.st
    clear HS5 hws
    go_wp2_with fail
    go_ret
    exact ⟨congrArg (fun z => Ending.returned (.int .i64 z)) HR.out, HS6.below⟩
end Go.Proofs.YtoejojfjiikogaaDoor
