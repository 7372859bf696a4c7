/- Numbers that came in: three cells of any content, and what Good and fit make of them. -/
import Derived.Test.YtekbpiooecdopaaDoorRatT

namespace Go.Proofs.YtekbpiooecdopaaDoor
open Go.RowKit
set_option linter.unusedVariables false
set_option linter.unusedSimpArgs false

/-- three cells that are no good number -/
def BadT (s : Bool) (a d : ByteArray) : Prop :=
  d.size = 0 ∨ (∃ h : 0 < d.size, d[0] = 0) ∨ (∃ m, m ≠ 0 ∧ d = S m ∧ ((a = S 0 ∧ (s = true ∨ m ≠ 1)) ∨ (∃ h : 0 < a.size, a[0] = 0) ∨ ∃ n, n ≠ 0 ∧ a = S n ∧ Nat.gcd n m ≠ 1))
/-- the number that three cells stand for (0 where they are not good), and whether they are good -/
structure RawQ (k : Nat) (q : Rat) (g : Bool) (s : Bool) (a d : ByteArray) : Prop where
  or : (g = true ∧ RIs q s a d) ∨ (g = false ∧ q = 0 ∧ BadT s a d)
  rz : Rz k q
  sa : a.size ≤ k
  sd : d.size ≤ k
theorem S_of_head {d : ByteArray} (h : 0 < d.size) (hd : d[0] ≠ 0) : ∃ m, m ≠ 0 ∧ d = S m := by
  have hb : Bare (toL d) := by
    have h2 := toL_get d 0 h
    unfold Bare
    rw [List.head?_eq_getElem?, h2]
    intro e
    exact hd (Option.some.inj e)
  refine ⟨bval (toL d), ?_, S_of hb⟩
  intro e
  have h3 := S_of hb
  rw [e] at h3
  rw [h3] at h
  simp [S, bstr_zero, ByteArray.size] at h
theorem S_zero_of {d : ByteArray} (h : d.size = 0) : d = S 0 := by
  have hb : Bare (toL d) := by
    unfold Bare
    have : toL d = [] := List.eq_nil_of_length_eq_zero (by rw [toL_length]; exact h)
    rw [this]; simp
  have h2 := S_of hb
  have : toL d = [] := List.eq_nil_of_length_eq_zero (by rw [toL_length]; exact h)
  rw [this] at h2
  exact h2
theorem S_sz {k n : Nat} (h : (S n).size ≤ k) : Sz k n := by
  unfold Sz
  rwa [S_size] at h
theorem RIs_of {s : Bool} {n m : Nat} (hn : n ≠ 0) (hm : m ≠ 0) (hg : Nat.gcd n m = 1) : RIs (mkRat (sg s n) m) s (S n) (S m) := by
  have h := R_eq s n m hn hm
  rw [hg, Nat.div_one, Nat.div_one] at h
  unfold R at h
  simp only [Value.agg.injEq, Array.mk.injEq, List.cons.injEq, Value.bool.injEq, Value.string.injEq, and_true] at h
  exact ⟨h.1.symm, h.2.1.symm, h.2.2.symm⟩
theorem RIs_zero : RIs 0 false (S 0) (S 1) := ⟨rfl, rfl, rfl⟩
theorem raw_any (s : Bool) (a d : ByteArray) (k : Nat) (hk : 1 ≤ k) (ha : a.size ≤ k) (hd : d.size ≤ k) : ∃ q g, RawQ k q g s a d := by
  have z1 : Rz k 0 := Rz.zero.more hk
  rcases Nat.eq_zero_or_pos d.size with h0 | h0
  · exact ⟨0, false, .inr ⟨rfl, rfl, .inl h0⟩, z1, ha, hd⟩
  by_cases h1 : d[0] = 0
  · exact ⟨0, false, .inr ⟨rfl, rfl, .inr (.inl ⟨h0, h1⟩)⟩, z1, ha, hd⟩
  obtain ⟨m, hm, rfl⟩ := S_of_head h0 h1
  rcases Nat.eq_zero_or_pos a.size with h2 | h2
  · obtain rfl := S_zero_of h2
    by_cases h3 : s = true ∨ m ≠ 1
    · exact ⟨0, false, .inr ⟨rfl, rfl, .inr (.inr ⟨m, hm, rfl, .inl ⟨rfl, h3⟩⟩)⟩, z1, ha, hd⟩
    · have h4 : s = false ∧ m = 1 := by
        cases s <;> simp_all
      obtain ⟨rfl, rfl⟩ := h4
      exact ⟨0, true, .inl ⟨rfl, RIs_zero⟩, z1, ha, hd⟩
  by_cases h3 : a[0] = 0
  · exact ⟨0, false, .inr ⟨rfl, rfl, .inr (.inr ⟨m, hm, rfl, .inr (.inl ⟨h2, h3⟩)⟩)⟩, z1, ha, hd⟩
  obtain ⟨n, hn, rfl⟩ := S_of_head h2 h3
  by_cases h4 : Nat.gcd n m = 1
  · have h5 := RIs_of (s := s) hn hm h4
    refine ⟨_, true, .inl ⟨rfl, h5⟩, ⟨?_, ?_⟩, ha, hd⟩
    · have := h5.a; exact S_sz (by rw [← this]; exact ha)
    · have := h5.d; exact S_sz (by rw [← this]; exact hd)
  · exact ⟨0, false, .inr ⟨rfl, rfl, .inr (.inr ⟨m, hm, rfl, .inr (.inr ⟨n, hn, rfl, h4⟩)⟩)⟩, z1, ha, hd⟩
theorem RawQ.of {k : Nat} {q : Rat} {s : Bool} {a d : ByteArray} (h : RIs q s a d) (hz : Rz k q) : RawQ k q true s a d :=
  ⟨.inl ⟨rfl, h⟩, hz, by rw [h.a, S_size]; exact hz.1, by rw [h.d, S_size]; exact hz.2⟩
theorem RawQ.RC {k : Nat} {q : Rat} (hz : Rz k q) : RawQ k q true (decide (q.num < 0)) (S q.num.natAbs) (S q.den) := RawQ.of ⟨rfl, rfl, rfl⟩ hz
theorem head_zero {d : ByteArray} (h : 0 < d.size) (h1 : d[0] = 0) : ((d[0].toNat : Int) == 0) = true ∧ ¬ d.toList = [] ∧ d.toList.isEmpty = false := by
  have hl : d.toList.length = d.size := by rw [Lib.toList_data]; exact Array.length_toList
  refine ⟨by rw [h1]; rfl, fun e => ?_, ?_⟩
  · rw [e, List.length_nil] at hl; omega
  · cases hh : d.toList with
    | nil => rw [hh, List.length_nil] at hl; omega
    | cons x r => rfl

theorem good_bad (s : Bool) (a d : ByteArray) (k : Nat) (w : World) (h : BadT s a d) (ha : a.size ≤ k) (hdk : d.size ≤ k) (hk : k ≤ 35184372088832) (hT : Tab w) :
    Calls Tryd.prog 23 #[.agg #[.bool s, .string a, .string d]] w fun e w' => e = .returned (.bool false) ∧ Below w.heap.size w w' := by
  rcases h with h | ⟨h, h1⟩ | ⟨m, hm, rfl, h⟩
  · obtain rfl := S_zero_of h
    have hz1 : (S 0).toList = [] := by rw [S_list]; rfl
    have hz2 : (S 0).toList.isEmpty = true := by rw [S_list]; rfl
    clear h ha hdk hk hT
    go_enter Tryd.func23, Tryd.ntmps23
    go_wp2_with fail
    go_ret
    exact ⟨rfl, (Below.refl _ _).alloc (Nat.le_refl _) _⟩
  · obtain ⟨e1, e2, e3⟩ := head_zero h h1
    clear h1 ha hdk hk hT
    go_enter Tryd.func23, Tryd.ntmps23
    go_wp2_with fail
    go_ret
    exact ⟨rfl, (Below.refl _ _).alloc (Nat.le_refl _) _⟩
  · rcases h with ⟨rfl, h⟩ | ⟨h, h1⟩ | ⟨n, hn, rfl, hg⟩
    · have he := S_empty_of hm
      obtain ⟨hd1, hd2⟩ := S_head hm
      have hd3 := S_nil hm
      have hz1 : (S 0).toList = [] := by rw [S_list]; rfl
      have hz2 : (S 0).toList.isEmpty = true := by rw [S_list]; rfl
      cases s with
      | true =>
        clear h ha hdk hk hT
        go_enter Tryd.func23, Tryd.ntmps23
        go_wp2_with fail
        go_ret
        exact ⟨rfl, (Below.refl _ _).alloc (Nat.le_refl _) _⟩
      | false =>
        have hm1 : m ≠ 1 := by simpa using h
        have hd4 := S_ne_one hm1
        clear h hm1 ha hdk hk hT
        go_enter Tryd.func23, Tryd.ntmps23
        go_wp2_with fail
        go_ret
        exact ⟨rfl, (Below.refl _ _).alloc (Nat.le_refl _) _⟩
    · have he := S_empty_of hm
      obtain ⟨hd1, hd2⟩ := S_head hm
      have hd3 := S_nil hm
      obtain ⟨e1, e2, e3⟩ := head_zero h h1
      clear h1 ha hdk hk hT
      go_enter Tryd.func23, Tryd.ntmps23
      go_wp2_with fail
      go_ret
      exact ⟨rfl, (Below.refl _ _).alloc (Nat.le_refl _) _⟩
    · exact good_no s n m k w hm hn hg (S_sz ha) (S_sz hdk) hk hT
theorem good_raw {k : Nat} {q : Rat} {g s : Bool} {a d : ByteArray} (w : World) (h : RawQ k q g s a d) (hk : k ≤ 35184372088832) (hT : Tab w) :
    Calls Tryd.prog 23 #[.agg #[.bool s, .string a, .string d]] w fun e w' => e = .returned (.bool g) ∧ Below w.heap.size w w' := by
  rcases h.or with ⟨rfl, h1⟩ | ⟨rfl, _, h1⟩
  · have := Good_R k q w h.rz hk hT
    rwa [h1.val] at this
  · exact good_bad s a d k w h1 h.sa h.sd hk hT
theorem fit_raw {k : Nat} {q : Rat} {g s : Bool} {a d : ByteArray} (w : World) (h : RawQ k q g s a d) (hk : k ≤ 35184372088832) (hT : Tab w) :
    Calls Tryd.prog 19 #[.agg #[.bool s, .string a, .string d]] w fun e w' => e = .returned (R q) ∧ Below w.heap.size w w' := by
  rcases h.or with ⟨rfl, h1⟩ | ⟨rfl, rfl, h1⟩
  · have := fit_R k q w h.rz hk hT
    rwa [h1.val] at this ⊢
  · have HH := Lib.hid (And.intro h1 (And.intro h.sa (And.intro h.sd (And.intro hk hT)))); clear h h1 hk hT
    have HB0 := Lib.hid (show Below w.heap.size w ((w.alloc (.cells #[.bool s, .string a, .string d] 28)).alloc (.cells #[.bool false, .string ⟨#[]⟩, .string ⟨#[]⟩] 28)) from ((Below.refl _ _).alloc (Nat.le_refl _) _).alloc (by simp) _)
    go_enter Tryd.func19, Tryd.ntmps19
    go_wp2_with fail
    refine (good_bad s a d k _ HH.out.1 HH.out.2.1 HH.out.2.2.1 HH.out.2.2.2.1 (HH.out.2.2.2.2.next HB0.out)).mono ?_
    rintro e w1 ⟨rfl, hb1⟩
    have HB1 := Lib.hid (below_next HB0.out hb1)
    have HK1 := Lib.hid (show Blk w1 (w.heap.size + 1) 28 #[.bool false, .string ⟨#[]⟩, .string ⟨#[]⟩] from (Blk.at_ (by simp)).belowB hb1)
    clear hb1
    obtain ⟨d0, d1, d2, f0, f1, f2⟩ := HK1.out.three
    go_wp2_with (go_at_call 30; refine (zero_V _).mono ?_; rintro e w2 ⟨rfl, hb2⟩; have HB2 := Lib.hid (below_next HB1.out hb2); have HK2 := Lib.hid (HK1.out.belowB hb2); obtain ⟨g0, g1, g2, i0, i1, i2⟩ := HK2.out.three; clear hb2)
    have hW := put3 HK2.out (.bool false) (.string (S 0)) (.string (S 1))
    have hWb := put3_below (g := w.heap.size + 1) HB2.out (Nat.le_succ _) (.bool false) (.string (S 0)) (.string (S 1))
    obtain ⟨e0, e1, e2, -, -, -⟩ := hW.three
    refine bodyPost_ret (v := R 0) (by simp [results, Tryd.results19, go_sem, e0, e1, e2]; rfl) rfl ⟨rfl, hWb⟩
end Go.Proofs.YtekbpiooecdopaaDoor
