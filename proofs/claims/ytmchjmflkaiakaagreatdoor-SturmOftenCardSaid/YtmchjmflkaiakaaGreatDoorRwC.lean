/- Joined texts: RatZ RwA RwB RwC. -/
import Derived.Test.YtmchjmflkaiakaaGreatDoorRatT
import Derived.Test.YtmchjmflkaiakaaGreatDoorSpQ
set_option maxHeartbeats 4000000
set_option maxRecDepth 20000
namespace Go.Proofs.YtmchjmflkaiakaaGreatDoor
open Go.RowKit
set_option linter.unusedVariables false
set_option linter.unusedSimpArgs false
def BadT (s : Bool) (a d : ByteArray) : Prop :=
 d.size = 0 ∨ (∃ h : 0 < d.size, d[0] = 0) ∨ (∃ m, m ≠ 0 ∧ d = S m ∧ ((a = S 0 ∧ (s = true ∨ m ≠ 1)) ∨ (∃ h : 0 < a.size, a[0] = 0) ∨ ∃ n, n ≠ 0 ∧ a = S n ∧ Nat.gcd n m ≠ 1))
structure RawQ (k : Nat) (q : Rat) (g : Bool) (s : Bool) (a d : ByteArray) : Prop where
 or : (g = true ∧ RIs q s a d) ∨ (g = false ∧ q = 0 ∧ BadT s a d)
 rz : Rz k q
 sa : a.size ≤ k
 sd : d.size ≤ k
theorem S_of_head {d : ByteArray} (h : 0 < d.size) (hd : d[0] ≠ 0) : ∃ m, m ≠ 0 ∧ d = S m := by
 have hb : Bare (toL d) := by
  have h2 := toL_get d 0 h
  unfold Bare
  rw [List.head?_eq_getElem?, h2]
  intro e
  exact hd (Option.some.inj e)
 refine ⟨bval (toL d), ?_, S_of hb⟩
 intro e
 have h3 := S_of hb
 rw [e] at h3
 rw [h3] at h
 simp [S, bstr_zero, ByteArray.size] at h
theorem S_zero_of {d : ByteArray} (h : d.size = 0) : d = S 0 := by
 have hb : Bare (toL d) := by
  unfold Bare
  have : toL d = [] := List.eq_nil_of_length_eq_zero (by rw [toL_length]; exact h)
  rw [this]; simp
 have h2 := S_of hb
 have : toL d = [] := List.eq_nil_of_length_eq_zero (by rw [toL_length]; exact h)
 rw [this] at h2
 exact h2
theorem S_sz {k n : Nat} (h : (S n).size ≤ k) : Sz k n := by
 unfold Sz
 rwa [S_size] at h
theorem RIs_of {s : Bool} {n m : Nat} (hn : n ≠ 0) (hm : m ≠ 0) (hg : Nat.gcd n m = 1) : RIs (mkRat (sg s n) m) s (S n) (S m) := by
 have h := R_eq s n m hn hm
 rw [hg, Nat.div_one, Nat.div_one] at h
 unfold R at h
 simp only [Value.agg.injEq, Array.mk.injEq, List.cons.injEq, Value.bool.injEq, Value.string.injEq, and_true] at h
 exact ⟨h.1.symm, h.2.1.symm, h.2.2.symm⟩
theorem RIs_zero : RIs 0 false (S 0) (S 1) := ⟨rfl, rfl, rfl⟩
theorem raw_any (s : Bool) (a d : ByteArray) (k : Nat) (hk : 1 ≤ k) (ha : a.size ≤ k) (hd : d.size ≤ k) : ∃ q g, RawQ k q g s a d := by
 have z1 : Rz k 0 := Rz.zero.more hk
 rcases Nat.eq_zero_or_pos d.size with h0 | h0
 ·exact ⟨0, false, .inr ⟨rfl, rfl, .inl h0⟩, z1, ha, hd⟩
 by_cases h1 : d[0] = 0
 ·exact ⟨0, false, .inr ⟨rfl, rfl, .inr (.inl ⟨h0, h1⟩)⟩, z1, ha, hd⟩
 obtain ⟨m, hm, rfl⟩ := S_of_head h0 h1
 rcases Nat.eq_zero_or_pos a.size with h2 | h2
 ·obtain rfl := S_zero_of h2
  by_cases h3 : s = true ∨ m ≠ 1
  ·exact ⟨0, false, .inr ⟨rfl, rfl, .inr (.inr ⟨m, hm, rfl, .inl ⟨rfl, h3⟩⟩)⟩, z1, ha, hd⟩
  ·have h4 : s = false ∧ m = 1 := by
    cases s <;> simp_all
   obtain ⟨rfl, rfl⟩ := h4
   exact ⟨0, true, .inl ⟨rfl, RIs_zero⟩, z1, ha, hd⟩
 by_cases h3 : a[0] = 0
 ·exact ⟨0, false, .inr ⟨rfl, rfl, .inr (.inr ⟨m, hm, rfl, .inr (.inl ⟨h2, h3⟩)⟩)⟩, z1, ha, hd⟩
 obtain ⟨n, hn, rfl⟩ := S_of_head h2 h3
 by_cases h4 : Nat.gcd n m = 1
 ·have h5 := RIs_of (s := s) hn hm h4
  refine ⟨_, true, .inl ⟨rfl, h5⟩, ⟨?_, ?_⟩, ha, hd⟩
  ·have := h5.a; exact S_sz (by rw [← this]; exact ha)
  ·have := h5.d; exact S_sz (by rw [← this]; exact hd)
 ·exact ⟨0, false, .inr ⟨rfl, rfl, .inr (.inr ⟨m, hm, rfl, .inr (.inr ⟨n, hn, rfl, h4⟩)⟩)⟩, z1, ha, hd⟩
theorem RawQ.of {k : Nat} {q : Rat} {s : Bool} {a d : ByteArray} (h : RIs q s a d) (hz : Rz k q) : RawQ k q true s a d :=
 ⟨.inl ⟨rfl, h⟩, hz, by rw [h.a, S_size]; exact hz.1, by rw [h.d, S_size]; exact hz.2⟩
theorem RawQ.RC {k : Nat} {q : Rat} (hz : Rz k q) : RawQ k q true (decide (q.num < 0)) (S q.num.natAbs) (S q.den) := RawQ.of ⟨rfl, rfl, rfl⟩ hz
theorem head_zero {d : ByteArray} (h : 0 < d.size) (h1 : d[0] = 0) : ((d[0].toNat : Int) == 0) = true ∧ ¬ d.toList = [] ∧ d.toList.isEmpty = false := by
 have hl : d.toList.length = d.size := by rw [Lib.toList_data]; exact Array.length_toList
 refine ⟨by rw [h1]; rfl, fun e => ?_, ?_⟩
 ·rw [e, List.length_nil] at hl; omega
 ·cases hh : d.toList with
  | nil => rw [hh, List.length_nil] at hl; omega
  | cons x r => rfl
theorem good_bad (s : Bool) (a d : ByteArray) (k : Nat) (w : World) (h : BadT s a d) (ha : a.size ≤ k) (hdk : d.size ≤ k) (hk : k ≤ 35184372088832) (hT : Tab w) :
  Calls Tryz.prog 125 #[.agg #[.bool s, .string a, .string d]] w fun e w' => e = .returned (.bool false) ∧ Below w.heap.size w w' := by
 rcases h with h | ⟨h, h1⟩ | ⟨m, hm, rfl, h⟩
 ·obtain rfl := S_zero_of h
  have hz1 : (S 0).toList = [] := by rw [S_list]; rfl
  have hz2 : (S 0).toList.isEmpty = true := by rw [S_list]; rfl
  clear h ha hdk hk hT
  go_enter Tryz.func125, Tryz.ntmps125
  go_wp2_with fail
  go_ret
  exact ⟨rfl, (Below.refl _ _).alloc (Nat.le_refl _) _⟩
 ·obtain ⟨e1, e2, e3⟩ := head_zero h h1
  clear h1 ha hdk hk hT
  go_enter Tryz.func125, Tryz.ntmps125
  go_wp2_with fail
  go_ret
  exact ⟨rfl, (Below.refl _ _).alloc (Nat.le_refl _) _⟩
 ·rcases h with ⟨rfl, h⟩ | ⟨h, h1⟩ | ⟨n, hn, rfl, hg⟩
  ·have he := S_empty_of hm
   obtain ⟨hd1, hd2⟩ := S_head hm
   have hd3 := S_nil hm
   have hz1 : (S 0).toList = [] := by rw [S_list]; rfl
   have hz2 : (S 0).toList.isEmpty = true := by rw [S_list]; rfl
   cases s with
   | true =>
     clear h ha hdk hk hT
     go_enter Tryz.func125, Tryz.ntmps125
     go_wp2_with fail
     go_ret
     exact ⟨rfl, (Below.refl _ _).alloc (Nat.le_refl _) _⟩
   | false =>
     have hm1 : m ≠ 1 := by simpa using h
     have hd4 := S_ne_one hm1
     clear h hm1 ha hdk hk hT
     go_enter Tryz.func125, Tryz.ntmps125
     go_wp2_with fail
     go_ret
     exact ⟨rfl, (Below.refl _ _).alloc (Nat.le_refl _) _⟩
  ·have he := S_empty_of hm
   obtain ⟨hd1, hd2⟩ := S_head hm
   have hd3 := S_nil hm
   obtain ⟨e1, e2, e3⟩ := head_zero h h1
   clear h1 ha hdk hk hT
   go_enter Tryz.func125, Tryz.ntmps125
   go_wp2_with fail
   go_ret
   exact ⟨rfl, (Below.refl _ _).alloc (Nat.le_refl _) _⟩
  ·exact good_no s n m k w hm hn hg (S_sz ha) (S_sz hdk) hk hT
theorem fit_raw {k : Nat} {q : Rat} {g s : Bool} {a d : ByteArray} (w : World) (h : RawQ k q g s a d) (hk : k ≤ 35184372088832) (hT : Tab w) :
  Calls Tryz.prog 77 #[.agg #[.bool s, .string a, .string d]] w fun e w' => e = .returned (R q) ∧ Below w.heap.size w w' := by
 rcases h.or with ⟨rfl, h1⟩ | ⟨rfl, rfl, h1⟩
 ·have := fit_R k q w h.rz hk hT
  rwa [h1.val] at this ⊢
 ·have HH := yh (And.intro h1 (And.intro h.sa (And.intro h.sd (And.intro hk hT)))); clear h h1 hk hT
  have HB0 := yh (show Below w.heap.size w ((w.alloc (.cells #[.bool s, .string a, .string d] 27)).alloc (.cells #[.bool false, .string ⟨#[]⟩, .string ⟨#[]⟩] 27)) from ((Below.refl _ _).alloc (Nat.le_refl _) _).alloc (by simp) _)
  go_enter Tryz.func77, Tryz.ntmps77
  go_wp2_with fail
  refine (good_bad s a d k _ HH.out.1 HH.out.2.1 HH.out.2.2.1 HH.out.2.2.2.1 (HH.out.2.2.2.2.next HB0.out)).mono ?_
  rintro e w1 ⟨rfl, hb1⟩
  have HB1 := yh (below_next HB0.out hb1)
  have HK1 := yh (show Blk w1 (w.heap.size + 1) 27 #[.bool false, .string ⟨#[]⟩, .string ⟨#[]⟩] from (Blk.at_ (by simp)).belowB hb1)
  clear hb1
  obtain ⟨d0, d1, d2, f0, f1, f2⟩ := HK1.out.three
  go_wp2_with (go_at_call 126; refine (zero_V _).mono ?_; rintro e w2 ⟨rfl, hb2⟩; have HB2 := yh (below_next HB1.out hb2); have HK2 := yh (HK1.out.belowB hb2); obtain ⟨g0, g1, g2, i0, i1, i2⟩ := HK2.out.three; clear hb2)
  have hW := put3 HK2.out (.bool false) (.string (S 0)) (.string (S 1))
  have hWb := put3_below (g := w.heap.size + 1) HB2.out (Nat.le_succ _) (.bool false) (.string (S 0)) (.string (S 1))
  obtain ⟨e0, e1, e2, -, -, -⟩ := hW.three
  refine bodyPost_ret (v := R 0) (by simp [results, Tryz.results77, go_sem, e0, e1, e2]; rfl) rfl ⟨rfl, hWb⟩
universe u
variable {W : World} {l : List Own}
structure RT where
 s : Bool
 a : ByteArray
 d : ByteArray
def RT.c (t : RT) : Array Value := #[.bool t.s, .string t.a, .string t.d]
def rt (q : Rat) : RT := ⟨decide (q.num < 0), S q.num.natAbs, S q.den⟩
def RawT (k : Nat) (q : Rat) (g : Bool) (t : RT) : Prop := RawQ k q g t.s t.a t.d
theorem RawT.rc {k : Nat} {q : Rat} (h : Rz k q) : RawT k q true (rt q) := RawQ.RC h
theorem RawT.rz {k : Nat} {q : Rat} {g : Bool} {t : RT} (h : RawT k q g t) : Rz k q := RawQ.rz h
theorem RawT.good {k : Nat} {q : Rat} {t : RT} (h : RawT k q true t) : t = rt q := by
 rcases RawQ.or h with ⟨_, h1⟩ | ⟨h1, _⟩
 ·cases t
  obtain ⟨e1, e2, e3⟩ := h1
  dsimp only at e1 e2 e3
  unfold rt
  rw [e1, e2, e3]
 ·cases h1
theorem RawT.any (t : RT) (k : Nat) (hk : 1 ≤ k) (ha : t.a.size ≤ k) (hd : t.d.size ≤ k) : ∃ q g, RawT k q g t := raw_any t.s t.a t.d k hk ha hd
theorem RawT.more {k l : Nat} {q : Rat} {g : Bool} {t : RT} (h : RawT k q g t) (hk : k ≤ l) : RawT l q g t := ⟨RawQ.or h, h.rz.more hk, Nat.le_trans (RawQ.sa h) hk, Nat.le_trans (RawQ.sd h) hk⟩
section
variable {W : World} {l : List Own} {k : Nat} {x y : Rat} {g1 g2 : Bool} {t1 t2 : RT}
theorem fit_c {s : Bool} {a d : ByteArray} (hT : Tab W) (h1 : RawT k x g1 t1) (hr : RIs x s a d) (hk : k ≤ 4398046511104) (w : World) (h : St W l w) : Rt 77 #[.agg #[.bool t1.s, .string t1.a, .string t1.d]] w (.agg #[.bool s, .string a, .string d]) := by
 have := fit_raw (k := k) (q := x) (g := g1) (s := t1.s) (a := t1.a) (d := t1.d) w h1 (by omega) (tabS hT h)
 rwa [hr.val] at this
end
section
variable {W : World} {l : List Own} {k : Nat} {x y : Rat} {g1 g2 : Bool} {t1 t2 : RT}
end
section
variable {W : World} {l : List Own} {k : Nat} {x y : Rat} {g1 g2 : Bool} {t1 t2 : RT}
end
section
variable {W : World} {l : List Own} {k : Nat} {x y : Rat} {g1 g2 : Bool} {t1 t2 : RT}
end
variable {W : World} {l : List Own}
section
variable {W : World} {l : List Own} {k : Nat} {x y : Rat} {g1 g2 : Bool} {t1 t2 : RT}
end
section
variable {W : World} {l : List Own} {k : Nat} {x y : Rat} {g1 g2 : Bool} {t1 t2 : RT}
end
section
variable {W : World} {l : List Own} {k : Nat} {x y : Rat} {g1 g2 : Bool} {t1 t2 : RT}
end
def sgU (s : Bool) (a : Nat) (t : Bool) (b : Nat) : Bool := if s = t then s else if b ≤ a then s else t
def sgN (s : Bool) (a : Nat) (t : Bool) (b : Nat) : Nat := if s = t then a + b else if b ≤ a then a - b else b - a
theorem sg_V (s t : Bool) (a b : Nat) : sg (sgU s a t b) (sgN s a t b) = sg s a + sg t b := by
 unfold sgU sgN
 by_cases h : s = t
 ·subst h; rw [if_pos rfl, if_pos rfl]; unfold sg; cases s <;> simp <;> omega
 ·rw [if_neg h, if_neg h]
  by_cases h2 : b ≤ a
  ·rw [if_pos h2, if_pos h2]; unfold sg; cases s <;> cases t <;> simp_all <;> omega
  ·rw [if_neg h2, if_neg h2]; unfold sg; cases s <;> cases t <;> simp_all <;> omega
theorem signed_V0 (s t : Bool) (a b k : Nat) (w : World) (ha : Sz k a) (hb : Sz k b) (hk : k ≤ 35184372088832) :
  Calls Tryz.prog 90 #[.bool s, .string (S a), .bool t, .string (S b)] w fun e w' => e = .returned (.tuple #[.bool (sgU s a t b), .string (S (sgN s a t b))]) ∧ Below w.heap.size w w' := by
 have HH := yh (And.intro (Nat.le_trans ha hk) (Nat.le_trans hb hk)); clear ha hb hk
 by_cases hst : s = t
 ·subst hst
  rw [show sgU s a s b = s by unfold sgU; rw [if_pos rfl], show sgN s a s b = a + b by unfold sgN; rw [if_pos rfl]]
  go_enter Tryz.func90, Tryz.ntmps90
  go_wp2_with fail
  refine (add_S a b _ HH.out.1 HH.out.2).mono ?_
  rintro e w1 ⟨rfl, hb1⟩
  have HB1 := yh hb1; clear hb1
  go_wp2_with fail
  go_ret2
  exact ⟨rfl, HB1.out⟩
 ·have h1 : (s == t) = false := by rw [beq_eq_false_iff_ne]; exact hst
  by_cases hle : b ≤ a
  ·have hsub := sub_S a b w HH.out.1 HH.out.2
   have e1 : subS a b = S (a - b) := by unfold subS; rw [if_neg (by omega)]
   have e2 : subE a b = 0 := by unfold subE; rw [if_neg (by omega)]
   rw [show sgU s a t b = s by unfold sgU; rw [if_neg hst, if_pos hle], show sgN s a t b = a - b by unfold sgN; rw [if_neg hst, if_pos hle]]
   rw [e1, e2] at hsub
   have HS := hide' hsub; clear hsub e1 e2 hst
   go_enter Tryz.func90, Tryz.ntmps90
   go_wp2_with fail
   refine (HS.out).mono ?_
   rintro e w1 ⟨rfl, hb1⟩
   have HB1 := yh hb1; clear hb1
   go_wp2_with fail
   go_ret2
   exact ⟨rfl, HB1.out⟩
  ·have hsub := sub_S a b w HH.out.1 HH.out.2
   have e2 : subE a b = 1 := by unfold subE; rw [if_pos (by omega)]
   rw [e2] at hsub
   have hsub2 : ∀ w1, Calls Tryz.prog 138 #[.string (S b), .string (S a)] w1 fun e w' => e = .returned (.tuple #[.string (S (b - a)), .int .i64 0]) ∧ Below w1.heap.size w1 w' := fun w1 => by
    have h := sub_S b a w1 HH.out.2 HH.out.1
    have e3 : subS b a = S (b - a) := by unfold subS; rw [if_neg (by omega)]
    have e4 : subE b a = 0 := by unfold subE; rw [if_neg (by omega)]
    rw [e3, e4] at h; exact h
   rw [show sgU s a t b = t by unfold sgU; rw [if_neg hst, if_neg hle], show sgN s a t b = b - a by unfold sgN; rw [if_neg hst, if_neg hle]]
   have HS := hide' hsub; have HS2 := hide' hsub2; clear hsub hsub2 e2 hst
   go_enter Tryz.func90, Tryz.ntmps90
   go_wp2_with fail
   refine (HS.out).mono ?_
   rintro e w1 ⟨rfl, hb1⟩
   have HB1 := yh hb1; clear hb1
   go_wp2_with fail
   refine (HS2.out _).mono ?_
   rintro e w2 ⟨rfl, hb2⟩
   have HB2 := yh hb2; clear hb2
   go_wp2_with fail
   go_ret2
   exact ⟨rfl, below_next HB1.out HB2.out⟩
theorem signed_V (s t : Bool) (m n k : Nat) {a b : ByteArray} (w : World) (ha : a = S m) (hb : b = S n) (h : Sz k m) (h' : Sz k n) (hk : k ≤ 35184372088832) {u : Bool} {q : Nat} (hu : sgU s m t n = u) (hq : sgN s m t n = q) :
  Calls Tryz.prog 90 #[.bool s, .string a, .bool t, .string b] w fun e w' => e = .returned (.tuple #[.bool u, .string (S q)]) ∧ Below w.heap.size w w' := by
 subst hu hq ha hb
 exact signed_V0 s t m n k w h h' hk
section
variable {W : World} {l : List Own} {k : Nat} {x y : Rat} {g1 g2 : Bool} {t1 t2 : RT}
theorem add_w {z : Rat} (hT : Tab W) (h1 : RawT k x g1 t1) (h2 : RawT k y g2 t2) (hz : x + y = z) (hk : k ≤ 1099511627776) (w : World) (h : St W l w) : Rt 49 #[.agg t1.c, .agg t2.c] w (.agg (RC z)) := by
 subst hz
 have HT := yh (tabS hT h); clear hT h
 have H1 := yh h1; clear h1
 have H2 := yh h2; clear h2
 obtain ⟨s1, a1, d1, r1⟩ := R_parts x
 have R1 := yh r1; clear r1
 obtain ⟨s2, a2, d2, r2⟩ := R_parts y
 have R2 := yh r2; clear r2
 obtain ⟨s3, a3, d3, r3⟩ := R_parts (x + y)
 have R3 := yh r3; clear r3
 unfold RT.c
 by_cases hde : x.den = y.den
 ·have HD : Hid ((d1.toList == d2.toList) = true) := yh (by rw [R1.out.d, R2.out.d, S_eq_iff]; exact decide_eq_true hde)
  have HD2 := yh (show d1.toList = d2.toList from by simpa using HD.out)
  obtain ⟨u, hu⟩ : ∃ u, sgU s1 (x.num.natAbs) s2 (y.num.natAbs) = u := ⟨_, rfl⟩
  obtain ⟨n, hn⟩ : ∃ n, sgN s1 (x.num.natAbs) s2 (y.num.natAbs) = n := ⟨_, rfl⟩
  have hv := sg_V s1 s2 (x.num.natAbs) (y.num.natAbs)
  rw [hu, hn, R1.out.sg, R2.out.sg] at hv
  have HUN := yh (And.intro (show Sz (k + k + 1) n from sz_abs hv H1.out.rz.1 H2.out.rz.1) (show mkRat (sg u n) x.den = x + y from by rw [hv]; exact add_same hde))
  have SV := yh (And.intro hu hn); clear hu hn hv hde
  go_enter Tryz.func49, Tryz.ntmps49
  have HS : St w [] w := St.start
  go_upto_region 0 with fail
  refine rgT [] HS ?_
  refine bX (#[.bool t1.s, .string t1.a, .string t1.d]) ?_
  intro bk2 _ _ y2
  refine nZ ?_
  refine bX (#[.bool t2.s, .string t2.a, .string t2.d]) ?_
  intro bk3 _ _ y3
  obtain ⟨_, _, y3⟩ := Reg.ne2 y3
  refine nZ ?_
  refine Seq.alloc rfl rfl rfl (z := .agg (#[.bool false, .string ⟨#[]⟩, .string ⟨#[]⟩])) (by kernel_rfl) rfl ?_
  intro bk4 _ _ y4
  obtain ⟨_, _, y4⟩ := Reg.ne2 y4
  obtain ⟨_, _, y4⟩ := Reg.ne2 y4
  refine nZ ?_
  refine dn3 bk2 bk3 bk4 fun ws1 HS1=>?_
  clear HS
  go_upto_region 1 with fail
  have HPbk3 := HS1.p1
  have HPbk2 := HPbk3.p1
  refine wS [0, 4] (Reg.fin.put (Reg.fin.put Reg.fin_no _ _) _ _) (StR.move (StR.move (StR.no HPbk2))) ?_
  refine gV ?_
  refine cX rfl rfl (fit_c HT.out H1.out R1.out (by omega)) ?_
  refine gV ?_
  refine cX rfl rfl (fit_c HT.out H2.out R2.out (by omega)) ?_
  refine sW ?_
  refine sW ?_
  refine dn2 bk2 bk3 fun ws2 HS2=>?_
  clear HS1 HPbk3 HPbk2
  go_upto_region 2 with fail
  refine rgT [] HS2 ?_
  refine pU ?_
  refine lC (.string d1) ?_
  refine pU ?_
  refine lC (.string d2) ?_
  refine pV (.bool true) (by intro w; go_simp <;> (first | (rw [HD2.out]; done) | exact HD2.out | (simp [HD2.out]; done))) ?_
  refine dnS fun ws3 HS3=>?_
  clear HS2
  go_upto_region 3 with fail
  refine rgT [] HS3 ?_
  refine pU ?_
  refine lC (.bool s1) ?_
  refine pU ?_
  refine lC (.string a1) ?_
  refine pU ?_
  refine lC (.bool s2) ?_
  refine pU ?_
  refine lC (.string a2) ?_
  refine cX rfl rfl (fun w h => signed_V s1 s2 x.num.natAbs y.num.natAbs k w R1.out.a R2.out.a H1.out.rz.1 H2.out.rz.1 (by omega) SV.out.1 SV.out.2) ?_
  refine pU ?_
  refine pV (.bool u) (fun w => rfl) ?_
  refine pV (.string (S n)) (fun w => rfl) ?_
  iterate 2 refine pU ?_
  refine dnS fun ws4 HS4=>?_
  clear HS3
  go_upto_region 4 with fail
  have HPbk4 := HS4.p2
  refine wp_seq_text [] (StR.move (StR.no HPbk4)) ?_
  iterate 3 refine pU ?_
  refine lC (.string d1) ?_
  refine cX rfl rfl (fun w h => made_G u n (k + k + 1) x.den (x + y) w R3.out R1.out.d x.den_nz HUN.out.2 HUN.out.1 (H1.out.rz.2.more (by omega)) (by omega) (tabS HT.out h)) ?_
  refine sW ?_
  refine dn1 bk4 fun ws5 HS5=>?_
  clear HS4 HPbk4
  go_wp2_with fail
  exact ret_own rfl rfl rfl HS5 (by repeat first|exact mC|apply mT) (n := 3) rfl (by kernel_rfl) ⟨congrArg (fun c => Ending.returned (.agg c)) R3.out.rc, HS5.below⟩
 ·have HD : Hid ((d1.toList == d2.toList) = false) := yh (by rw [R1.out.d, R2.out.d, S_eq_iff]; exact decide_eq_false hde)
  have HD2 := yh (show ¬ d1.toList = d2.toList from by simpa using HD.out)
  obtain ⟨u, hu⟩ : ∃ u, sgU s1 (x.num.natAbs * y.den) s2 (y.num.natAbs * x.den) = u := ⟨_, rfl⟩
  obtain ⟨n, hn⟩ : ∃ n, sgN s1 (x.num.natAbs * y.den) s2 (y.num.natAbs * x.den) = n := ⟨_, rfl⟩
  have hv := sg_V s1 s2 (x.num.natAbs * y.den) (y.num.natAbs * x.den)
  rw [hu, hn, sg_mul_nat, sg_mul_nat, R1.out.sg, R2.out.sg] at hv
  have HUN := yh (And.intro (show Sz (k + k + (k + k) + 1) n from sz_abs hv (by rw [Int.natAbs_mul, Int.natAbs_natCast]; exact H1.out.rz.1.mul H2.out.rz.2) (by rw [Int.natAbs_mul, Int.natAbs_natCast]; exact H2.out.rz.1.mul H1.out.rz.2)) (show mkRat (sg u n) (x.den * y.den) = x + y from by rw [hv]; exact (Rat.add_def' x y).symm))
  have SV := yh (And.intro hu hn); clear hu hn hv hde
  go_enter Tryz.func49, Tryz.ntmps49
  have HS : St w [] w := St.start
  go_upto_region 0 with fail
  refine rgT [] HS ?_
  refine bX (#[.bool t1.s, .string t1.a, .string t1.d]) ?_
  intro bk2 _ _ y2
  refine nZ ?_
  refine bX (#[.bool t2.s, .string t2.a, .string t2.d]) ?_
  intro bk3 _ _ y3
  obtain ⟨_, _, y3⟩ := Reg.ne2 y3
  refine nZ ?_
  refine Seq.alloc rfl rfl rfl (z := .agg (#[.bool false, .string ⟨#[]⟩, .string ⟨#[]⟩])) (by kernel_rfl) rfl ?_
  intro bk4 _ _ y4
  obtain ⟨_, _, y4⟩ := Reg.ne2 y4
  obtain ⟨_, _, y4⟩ := Reg.ne2 y4
  refine nZ ?_
  refine dn3 bk2 bk3 bk4 fun _ HS1=>?_
  clear HS
  go_upto_region 1 with fail
  have HPbk3 := HS1.p1
  have HPbk2 := HPbk3.p1
  refine wS [0, 4] (Reg.fin.put (Reg.fin.put Reg.fin_no _ _) _ _) (StR.move (StR.move (StR.no HPbk2))) ?_
  refine gV ?_
  refine cX rfl rfl (fit_c HT.out H1.out R1.out (by omega)) ?_
  refine gV ?_
  refine cX rfl rfl (fit_c HT.out H2.out R2.out (by omega)) ?_
  refine sW ?_
  refine sW ?_
  refine dn2 bk2 bk3 fun _ HS2=>?_
  clear HS1 HPbk3 HPbk2
  go_upto_region 2 with fail
  refine rgT [] HS2 ?_
  refine pU ?_
  refine lC (.string d1) ?_
  refine pU ?_
  refine lC (.string d2) ?_
  refine pV (.bool false) (by intro w; go_simp <;> (first | (rw [HD2.out]; done) | exact HD2.out | (simp [HD2.out]; done))) ?_
  refine dnS fun _ HS3=>?_
  clear HS2
  go_upto_region 5 with fail
  refine rgW [] HS3 ?_
  refine pU ?_
  refine lC (.bool s1) ?_
  refine pU ?_
  refine lC (.string a1) ?_
  refine pU ?_
  refine lC (.string d2) ?_
  refine cX rfl rfl (fun w h => mul_G x.num.natAbs y.den k w R1.out.a R2.out.d H1.out.rz.1 H2.out.rz.2 (by omega)) ?_
  refine pU ?_
  refine lC (.bool s2) ?_
  refine pU ?_
  refine lC (.string a2) ?_
  refine pU ?_
  refine lC (.string d1) ?_
  refine cX rfl rfl (fun w h => mul_G y.num.natAbs x.den k w R2.out.a R1.out.d H2.out.rz.1 H1.out.rz.2 (by omega)) ?_
  refine cX rfl rfl (fun w h => signed_V s1 s2 (x.num.natAbs * y.den) (y.num.natAbs * x.den) (k + k) w rfl rfl (H1.out.rz.1.mul H2.out.rz.2) (H2.out.rz.1.mul H1.out.rz.2) (by omega) SV.out.1 SV.out.2) ?_
  refine pU ?_
  refine pV (.bool u) (fun w => rfl) ?_
  refine pV (.string (S n)) (fun w => rfl) ?_
  iterate 2 refine pU ?_
  refine dnS fun _ HS4=>?_
  clear HS3
  go_upto_region 6 with fail
  have HPbk4 := HS4.p2
  refine wp_seq_text [] (StR.move (StR.no HPbk4)) ?_
  iterate 3 refine pU ?_
  refine lC (.string d1) ?_
  refine pU ?_
  refine lC (.string d2) ?_
  refine cX rfl rfl (fun w h => mul_G x.den y.den k w R1.out.d R2.out.d H1.out.rz.2 H2.out.rz.2 (by omega)) ?_
  refine cX rfl rfl (fun w h => made_G u n (k + k + (k + k) + 1) (x.den * y.den) (x + y) w R3.out rfl (Nat.mul_ne_zero x.den_nz y.den_nz) HUN.out.2 HUN.out.1 ((H1.out.rz.2.mul H2.out.rz.2).more (by omega)) (by omega) (tabS HT.out h)) ?_
  refine sW ?_
  refine dn1 bk4 fun _ HS5=>?_
  clear HS4 HPbk4
  go_wp2_with fail
  exact ret_own rfl rfl rfl HS5 (by repeat first|exact mC|apply mT) (n := 3) rfl (by kernel_rfl) ⟨congrArg (fun c => Ending.returned (.agg c)) R3.out.rc, HS5.below⟩
end
end Go.Proofs.YtmchjmflkaiakaaGreatDoor
