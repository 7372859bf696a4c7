/- Joined texts: RatZ RwA GrZ. -/
import Derived.Test.YtoejojfjiikogaaGreatDoorRatT
import Derived.Test.YtoejojfjiikogaaGreatDoorSpQ
import Derived.LoopN
namespace Go.Proofs.YtoejojfjiikogaaGreatDoor
open Go.RowKit
set_option linter.unusedVariables false
set_option linter.unusedSimpArgs false

/-- three cells that are no good number -/
def BadT (s : Bool) (a d : ByteArray) : Prop :=
  d.size = 0 ∨ (∃ h : 0 < d.size, d[0] = 0) ∨ (∃ m, m ≠ 0 ∧ d = S m ∧ ((a = S 0 ∧ (s = true ∨ m ≠ 1)) ∨ (∃ h : 0 < a.size, a[0] = 0) ∨ ∃ n, n ≠ 0 ∧ a = S n ∧ Nat.gcd n m ≠ 1))
/-- the number that three cells stand for (0 where they are not good), and whether they are good -/
structure RawQ (k : Nat) (q : Rat) (g : Bool) (s : Bool) (a d : ByteArray) : Prop where
  or : (g = true ∧ RIs q s a d) ∨ (g = false ∧ q = 0 ∧ BadT s a d)
  rz : Rz k q
  sa : a.size ≤ k
  sd : d.size ≤ k
theorem S_of_head {d : ByteArray} (h : 0 < d.size) (hd : d[0] ≠ 0) : ∃ m, m ≠ 0 ∧ d = S m := by
  have hb : Bare (toL d) := by
    have h2 := toL_get d 0 h
    unfold Bare
    rw [List.head?_eq_getElem?, h2]
    intro e
    exact hd (Option.some.inj e)
  refine ⟨bval (toL d), ?_, S_of hb⟩
  intro e
  have h3 := S_of hb
  rw [e] at h3
  rw [h3] at h
  simp [S, bstr_zero, ByteArray.size] at h
theorem S_zero_of {d : ByteArray} (h : d.size = 0) : d = S 0 := by
  have hb : Bare (toL d) := by
    unfold Bare
    have : toL d = [] := List.eq_nil_of_length_eq_zero (by rw [toL_length]; exact h)
    rw [this]; simp
  have h2 := S_of hb
  have : toL d = [] := List.eq_nil_of_length_eq_zero (by rw [toL_length]; exact h)
  rw [this] at h2
  exact h2
theorem S_sz {k n : Nat} (h : (S n).size ≤ k) : Sz k n := by
  unfold Sz
  rwa [S_size] at h
theorem RIs_of {s : Bool} {n m : Nat} (hn : n ≠ 0) (hm : m ≠ 0) (hg : Nat.gcd n m = 1) : RIs (mkRat (sg s n) m) s (S n) (S m) := by
  have h := R_eq s n m hn hm
  rw [hg, Nat.div_one, Nat.div_one] at h
  unfold R at h
  simp only [Value.agg.injEq, Array.mk.injEq, List.cons.injEq, Value.bool.injEq, Value.string.injEq, and_true] at h
  exact ⟨h.1.symm, h.2.1.symm, h.2.2.symm⟩
theorem RIs_zero : RIs 0 false (S 0) (S 1) := ⟨rfl, rfl, rfl⟩
theorem raw_any (s : Bool) (a d : ByteArray) (k : Nat) (hk : 1 ≤ k) (ha : a.size ≤ k) (hd : d.size ≤ k) : ∃ q g, RawQ k q g s a d := by
  have z1 : Rz k 0 := Rz.zero.more hk
  rcases Nat.eq_zero_or_pos d.size with h0 | h0
  · exact ⟨0, false, .inr ⟨rfl, rfl, .inl h0⟩, z1, ha, hd⟩
  by_cases h1 : d[0] = 0
  · exact ⟨0, false, .inr ⟨rfl, rfl, .inr (.inl ⟨h0, h1⟩)⟩, z1, ha, hd⟩
  obtain ⟨m, hm, rfl⟩ := S_of_head h0 h1
  rcases Nat.eq_zero_or_pos a.size with h2 | h2
  · obtain rfl := S_zero_of h2
    by_cases h3 : s = true ∨ m ≠ 1
    · exact ⟨0, false, .inr ⟨rfl, rfl, .inr (.inr ⟨m, hm, rfl, .inl ⟨rfl, h3⟩⟩)⟩, z1, ha, hd⟩
    · have h4 : s = false ∧ m = 1 := by
        cases s <;> simp_all
      obtain ⟨rfl, rfl⟩ := h4
      exact ⟨0, true, .inl ⟨rfl, RIs_zero⟩, z1, ha, hd⟩
  by_cases h3 : a[0] = 0
  · exact ⟨0, false, .inr ⟨rfl, rfl, .inr (.inr ⟨m, hm, rfl, .inr (.inl ⟨h2, h3⟩)⟩)⟩, z1, ha, hd⟩
  obtain ⟨n, hn, rfl⟩ := S_of_head h2 h3
  by_cases h4 : Nat.gcd n m = 1
  · have h5 := RIs_of (s := s) hn hm h4
    refine ⟨_, true, .inl ⟨rfl, h5⟩, ⟨?_, ?_⟩, ha, hd⟩
    · have := h5.a; exact S_sz (by rw [← this]; exact ha)
    · have := h5.d; exact S_sz (by rw [← this]; exact hd)
  · exact ⟨0, false, .inr ⟨rfl, rfl, .inr (.inr ⟨m, hm, rfl, .inr (.inr ⟨n, hn, rfl, h4⟩)⟩)⟩, z1, ha, hd⟩
theorem RawQ.of {k : Nat} {q : Rat} {s : Bool} {a d : ByteArray} (h : RIs q s a d) (hz : Rz k q) : RawQ k q true s a d :=
  ⟨.inl ⟨rfl, h⟩, hz, by rw [h.a, S_size]; exact hz.1, by rw [h.d, S_size]; exact hz.2⟩
theorem RawQ.RC {k : Nat} {q : Rat} (hz : Rz k q) : RawQ k q true (decide (q.num < 0)) (S q.num.natAbs) (S q.den) := RawQ.of ⟨rfl, rfl, rfl⟩ hz
theorem head_zero {d : ByteArray} (h : 0 < d.size) (h1 : d[0] = 0) : ((d[0].toNat : Int) == 0) = true ∧ ¬ d.toList = [] ∧ d.toList.isEmpty = false := by
  have hl : d.toList.length = d.size := by rw [Lib.toList_data]; exact Array.length_toList
  refine ⟨by rw [h1]; rfl, fun e => ?_, ?_⟩
  · rw [e, List.length_nil] at hl; omega
  · cases hh : d.toList with
    | nil => rw [hh, List.length_nil] at hl; omega
    | cons x r => rfl

theorem good_bad (s : Bool) (a d : ByteArray) (k : Nat) (w : World) (h : BadT s a d) (ha : a.size ≤ k) (hdk : d.size ≤ k) (hk : k ≤ 35184372088832) (hT : Tab w) :
    Calls Tryz.prog 85 #[.agg #[.bool s, .string a, .string d]] w fun e w' => e = .returned (.bool false) ∧ Below w.heap.size w w' := by
  rcases h with h | ⟨h, h1⟩ | ⟨m, hm, rfl, h⟩
  · obtain rfl := S_zero_of h
    have hz1 : (S 0).toList = [] := by rw [S_list]; rfl
    have hz2 : (S 0).toList.isEmpty = true := by rw [S_list]; rfl
    clear h ha hdk hk hT
    go_enter Tryz.func85, Tryz.ntmps85
    go_wp2_with fail
    go_ret
    exact ⟨rfl, (Below.refl _ _).alloc (Nat.le_refl _) _⟩
  · obtain ⟨e1, e2, e3⟩ := head_zero h h1
    clear h1 ha hdk hk hT
    go_enter Tryz.func85, Tryz.ntmps85
    go_wp2_with fail
    go_ret
    exact ⟨rfl, (Below.refl _ _).alloc (Nat.le_refl _) _⟩
  · rcases h with ⟨rfl, h⟩ | ⟨h, h1⟩ | ⟨n, hn, rfl, hg⟩
    · have he := S_empty_of hm
      obtain ⟨hd1, hd2⟩ := S_head hm
      have hd3 := S_nil hm
      have hz1 : (S 0).toList = [] := by rw [S_list]; rfl
      have hz2 : (S 0).toList.isEmpty = true := by rw [S_list]; rfl
      cases s with
      | true =>
        clear h ha hdk hk hT
        go_enter Tryz.func85, Tryz.ntmps85
        go_wp2_with fail
        go_ret
        exact ⟨rfl, (Below.refl _ _).alloc (Nat.le_refl _) _⟩
      | false =>
        have hm1 : m ≠ 1 := by simpa using h
        have hd4 := S_ne_one hm1
        clear h hm1 ha hdk hk hT
        go_enter Tryz.func85, Tryz.ntmps85
        go_wp2_with fail
        go_ret
        exact ⟨rfl, (Below.refl _ _).alloc (Nat.le_refl _) _⟩
    · have he := S_empty_of hm
      obtain ⟨hd1, hd2⟩ := S_head hm
      have hd3 := S_nil hm
      obtain ⟨e1, e2, e3⟩ := head_zero h h1
      clear h1 ha hdk hk hT
      go_enter Tryz.func85, Tryz.ntmps85
      go_wp2_with fail
      go_ret
      exact ⟨rfl, (Below.refl _ _).alloc (Nat.le_refl _) _⟩
    · exact good_no s n m k w hm hn hg (S_sz ha) (S_sz hdk) hk hT
theorem fit_raw {k : Nat} {q : Rat} {g s : Bool} {a d : ByteArray} (w : World) (h : RawQ k q g s a d) (hk : k ≤ 35184372088832) (hT : Tab w) :
    Calls Tryz.prog 45 #[.agg #[.bool s, .string a, .string d]] w fun e w' => e = .returned (R q) ∧ Below w.heap.size w w' := by
  rcases h.or with ⟨rfl, h1⟩ | ⟨rfl, rfl, h1⟩
  · have := fit_R k q w h.rz hk hT
    rwa [h1.val] at this ⊢
  · have HH := Lib.hid (And.intro h1 (And.intro h.sa (And.intro h.sd (And.intro hk hT)))); clear h h1 hk hT
    have HB0 := Lib.hid (show Below w.heap.size w ((w.alloc (.cells #[.bool s, .string a, .string d] 24)).alloc (.cells #[.bool false, .string ⟨#[]⟩, .string ⟨#[]⟩] 24)) from ((Below.refl _ _).alloc (Nat.le_refl _) _).alloc (by simp) _)
    go_enter Tryz.func45, Tryz.ntmps45
    go_wp2_with fail
    refine (good_bad s a d k _ HH.out.1 HH.out.2.1 HH.out.2.2.1 HH.out.2.2.2.1 (HH.out.2.2.2.2.next HB0.out)).mono ?_
    rintro e w1 ⟨rfl, hb1⟩
    have HB1 := Lib.hid (below_next HB0.out hb1)
    have HK1 := Lib.hid (show Blk w1 (w.heap.size + 1) 24 #[.bool false, .string ⟨#[]⟩, .string ⟨#[]⟩] from (Blk.at_ (by simp)).belowB hb1)
    clear hb1
    obtain ⟨d0, d1, d2, f0, f1, f2⟩ := HK1.out.three
    go_wp2_with (go_at_call 86; refine (zero_V _).mono ?_; rintro e w2 ⟨rfl, hb2⟩; have HB2 := Lib.hid (below_next HB1.out hb2); have HK2 := Lib.hid (HK1.out.belowB hb2); obtain ⟨g0, g1, g2, i0, i1, i2⟩ := HK2.out.three; clear hb2)
    have hW := put3 HK2.out (.bool false) (.string (S 0)) (.string (S 1))
    have hWb := put3_below (g := w.heap.size + 1) HB2.out (Nat.le_succ _) (.bool false) (.string (S 0)) (.string (S 1))
    obtain ⟨e0, e1, e2, -, -, -⟩ := hW.three
    refine bodyPost_ret (v := R 0) (by simp [results, Tryz.results45, go_sem, e0, e1, e2]; rfl) rfl ⟨rfl, hWb⟩
end Go.Proofs.YtoejojfjiikogaaGreatDoor
namespace Go.Proofs.YtoejojfjiikogaaGreatDoor
universe u
open Go.RowKit
set_option linter.unusedVariables false
set_option linter.unusedSimpArgs false

/-- three cells -/
structure RT where
  s : Bool
  a : ByteArray
  d : ByteArray
def RT.c (t : RT) : Array Value := #[.bool t.s, .string t.a, .string t.d]
def rt (q : Rat) : RT := ⟨decide (q.num < 0), S q.num.natAbs, S q.den⟩
/-- the three cells stand for the number q (0 where they are not good); g: whether they are good -/
def RawT (k : Nat) (q : Rat) (g : Bool) (t : RT) : Prop := RawQ k q g t.s t.a t.d
theorem RawT.rc {k : Nat} {q : Rat} (h : Rz k q) : RawT k q true (rt q) := RawQ.RC h
theorem RawT.rz {k : Nat} {q : Rat} {g : Bool} {t : RT} (h : RawT k q g t) : Rz k q := RawQ.rz h
theorem RawT.good {k : Nat} {q : Rat} {t : RT} (h : RawT k q true t) : t = rt q := by
  rcases RawQ.or h with ⟨_, h1⟩ | ⟨h1, _⟩
  · cases t
    obtain ⟨e1, e2, e3⟩ := h1
    dsimp only at e1 e2 e3
    unfold rt
    rw [e1, e2, e3]
  · cases h1
theorem RawT.bad {k : Nat} {q : Rat} {t : RT} (h : RawT k q false t) : q = 0 := by
  rcases RawQ.or h with ⟨h1, _⟩ | ⟨_, h1, _⟩
  · cases h1
  · exact h1
theorem RawT.any (t : RT) (k : Nat) (hk : 1 ≤ k) (ha : t.a.size ≤ k) (hd : t.d.size ≤ k) : ∃ q g, RawT k q g t := raw_any t.s t.a t.d k hk ha hd
theorem RawT.more {k l : Nat} {q : Rat} {g : Bool} {t : RT} (h : RawT k q g t) (hk : k ≤ l) : RawT l q g t := ⟨RawQ.or h, h.rz.more hk, Nat.le_trans (RawQ.sa h) hk, Nat.le_trans (RawQ.sd h) hk⟩
section
variable {W : World} {l : List Own} {k : Nat} {x y : Rat} {g1 g2 : Bool} {t1 t2 : RT}
theorem fit_w (hT : Tab W) (h1 : RawT k x g1 t1) (hk : k ≤ 4398046511104) (w : World) (h : St W l w) :
    Calls Tryz.prog 45 #[.agg t1.c] w fun e w' => e = .returned (.agg (RC x)) ∧ Below w.heap.size w w' := fit_raw w h1 (by omega) (tabS hT h)
theorem fit_c {s : Bool} {a d : ByteArray} (hT : Tab W) (h1 : RawT k x g1 t1) (hr : RIs x s a d) (hk : k ≤ 4398046511104) (w : World) (h : St W l w) :
    Calls Tryz.prog 45 #[.agg #[.bool t1.s, .string t1.a, .string t1.d]] w fun e w' => e = .returned (.agg #[.bool s, .string a, .string d]) ∧ Below w.heap.size w w' := by
  have := fit_raw (k := k) (q := x) (g := g1) (s := t1.s) (a := t1.a) (d := t1.d) w h1 (by omega) (tabS hT h)
  rwa [hr.val] at this
end
section
variable {W : World} {l : List Own} {k : Nat} {x y : Rat} {g1 g2 : Bool} {t1 t2 : RT}
set_option maxHeartbeats 4000000 in
set_option maxRecDepth 20000 in
theorem cmp_w {v : Int} (hT : Tab W) (h1 : RawT k x g1 t1) (h2 : RawT k y g2 t2) (hv : cmpQ x y = v) (hk : k ≤ 4398046511104) (w : World) (h : St W l w) :
    Calls Tryz.prog 36 #[.agg t1.c, .agg t2.c] w fun e w' => e = .returned (.int .i64 v) ∧ Below w.heap.size w w' := by
  subst hv
  have HT := Lib.hid (tabS hT h); clear hT h
  have H1 := Lib.hid h1; clear h1
  have H2 := Lib.hid h2; clear h2
  obtain ⟨s1, a1, d1, r1⟩ := R_parts x
  have R1 := Lib.hid r1; clear r1
  obtain ⟨s2, a2, d2, r2⟩ := R_parts y
  have R2 := Lib.hid r2; clear r2
  have HS1 := Lib.hid R1.out.s
  have HS2 := Lib.hid R2.out.s
  unfold RT.c
  cases s1 <;> cases s2
  · have hn1 := of_decide_eq_false HS1.out.symm
    have hn2 := of_decide_eq_false HS2.out.symm
    obtain ⟨cz, hcz⟩ : ∃ cz, cz = cmpZ (x.num.natAbs * y.den) (y.num.natAbs * x.den) := ⟨_, rfl⟩
    have HQ := Lib.hid (show cz = cmpQ x y from by rw [hcz]; exact cmpZ_mul x y (by omega) (by omega)); clear hn1 hn2
    have hcl : -1 ≤ cz ∧ cz ≤ 1 := by rw [hcz]; unfold cmpZ; split <;> (try split) <;> omega
    obtain ⟨l1, l2⟩ := hcl
    have HCZ := Lib.hid (show Ending.returned (.int .i64 (cmpZ (x.num.natAbs * y.den) (y.num.natAbs * x.den))) = .returned (.int .i64 cz) from by rw [hcz]); clear hcz
    go_enter Tryz.func36, Tryz.ntmps36
    have HS : St w [] w := St.start
    go_upto_region 0 with (fail)
    refine wp_seq_text [] (StR.no HS) ?_
    refine Seq.box rfl rfl rfl (v := .agg (#[.bool t1.s, .string t1.a, .string t1.d])) (cs := #[.bool t1.s, .string t1.a, .string t1.d]) rfl rfl ?_
    intro bk2 _ _ hbk2_r
    simp only [Act.put, nA, nB, nC]
    refine Seq.box rfl rfl rfl (v := .agg (#[.bool t2.s, .string t2.a, .string t2.d])) (cs := #[.bool t2.s, .string t2.a, .string t2.d]) rfl rfl ?_
    intro bk3 _ _ hbk3_r
    obtain ⟨ne_bk3_bk2, hbk3_r⟩ := Reg.ne_of_put hbk3_r
    have ne_bk2_bk3 := Ne.symm ne_bk3_bk2
    simp only [Act.put, nA, nB, nC]
    refine Seq.pure rfl rfl (by intro w; go_simp; try rfl) ?_
    simp only [Act.put, nA, nB, nC]
    refine Seq.done fun ws1 hws => ?_
    have HS1 : St w [(bk2, 24, #[.bool t1.s, .string t1.a, .string t1.d]), (bk3, 24, #[.bool t2.s, .string t2.a, .string t2.d])] ws1 := hws.list2 (by repeat (first | exact rS | refine rN (by assumption) ?_)) (by repeat (first | exact rS | refine rN (by assumption) ?_)) (by assumption)
    clear HS hws
    go_upto_region 1 with (fail)
    have HPbk3 : St w [(bk3, 24, #[.bool t2.s, .string t2.a, .string t2.d]), (bk2, 24, #[.bool t1.s, .string t1.a, .string t1.d])] _ := St.perm HS1 (List.perm_middle (l₁ := ([(bk2, 24, #[.bool t1.s, .string t1.a, .string t1.d])] : List Own)))
    have HPbk2 : St w [(bk2, 24, #[.bool t1.s, .string t1.a, .string t1.d]), (bk3, 24, #[.bool t2.s, .string t2.a, .string t2.d])] _ := St.perm HPbk3 (List.perm_middle (l₁ := ([(bk3, 24, #[.bool t2.s, .string t2.a, .string t2.d])] : List Own)))
    refine wp_seq [0, 4] (by kernel_rfl) (by kernel_rfl) (Reg.fin.put (Reg.fin.put Reg.fin_no _ _) _ _) (StR.move (StR.move (StR.no HPbk2))) ?_
    refine Seq.get rfl rfl rfl rfl (by repeat (first | exact rS | refine rN (by assumption) ?_)) (n := 3) rfl (by kernel_rfl) ?_
    simp only [Act.put, nA, nB, nC]
    refine Seq.call rfl rfl rfl rfl (by kernel_rfl) (fit_c HT.out H1.out R1.out (by omega)) ?_
    simp only [Act.put, nA, nB, nC]
    refine Seq.get rfl rfl rfl rfl (by repeat (first | exact rS | refine rN (by assumption) ?_)) (n := 3) rfl (by kernel_rfl) ?_
    simp only [Act.put, nA, nB, nC]
    refine Seq.call rfl rfl rfl rfl (by kernel_rfl) (fit_c HT.out H2.out R2.out (by omega)) ?_
    simp only [Act.put, nA, nB, nC]
    refine Seq.store rfl rfl rfl rfl rfl (by repeat (first | exact rS | refine rN (by assumption) ?_)) (n := 3) rfl rfl (by kernel_rfl) (by intro u hu; simp at hu; rcases hu with rfl | rfl | rfl <;> rfl) ?_
    simp only [Act.put, nA, nB, nC]
    refine Seq.store rfl rfl rfl rfl rfl (by repeat (first | exact rS | refine rN (by assumption) ?_)) (n := 3) rfl rfl (by kernel_rfl) (by intro u hu; simp at hu; rcases hu with rfl | rfl | rfl <;> rfl) ?_
    simp only [Act.put, nA, nB, nC]
    refine Seq.done fun ws2 hws => ?_
    have HS2 : St w [(bk2, 24, #[.bool false, .string a1, .string d1]), (bk3, 24, #[.bool false, .string a2, .string d2])] ws2 := hws.list2 (by repeat (first | exact rS | refine rN (by assumption) ?_)) (by repeat (first | exact rS | refine rN (by assumption) ?_)) (by assumption)
    clear HS1 hws HPbk3 HPbk2
    go_upto_region 2 with (fail)
    refine wp_seq_text [] (StR.no HS2) ?_
    refine Seq.pure rfl rfl (by intro w; go_simp; try rfl) ?_
    simp only [Act.put, nA, nB, nC]
    refine Seq.loadCell rfl rfl rfl rfl (by repeat (first | exact mC | apply mT)) (v := .bool false) rfl (by kernel_rfl) rfl ?_
    simp only [Act.put, nA, nB, nC]
    refine Seq.pure rfl rfl (by intro w; go_simp; try rfl) ?_
    simp only [Act.put, nA, nB, nC]
    refine Seq.loadCell rfl rfl rfl rfl (by repeat (first | exact mC | apply mT)) (v := .bool false) rfl (by kernel_rfl) rfl ?_
    simp only [Act.put, nA, nB, nC]
    refine Seq.pure rfl rfl (by intro w; go_simp; try rfl) ?_
    simp only [Act.put, nA, nB, nC]
    refine Seq.done fun ws3 hws => ?_
    have HS3 := hws.st
    clear HS2 hws
    go_upto_region 6 with (fail)
    refine wp_seq [] (by kernel_rfl) (by kernel_rfl) Reg.fin_no (StR.no HS3) ?_
    refine Seq.pure rfl rfl (by intro w; go_simp; try rfl) ?_
    simp only [Act.put, nA, nB, nC]
    refine Seq.loadCell rfl rfl rfl rfl (by repeat (first | exact mC | apply mT)) (v := .string a1) rfl (by kernel_rfl) rfl ?_
    simp only [Act.put, nA, nB, nC]
    refine Seq.pure rfl rfl (by intro w; go_simp; try rfl) ?_
    simp only [Act.put, nA, nB, nC]
    refine Seq.loadCell rfl rfl rfl rfl (by repeat (first | exact mC | apply mT)) (v := .string d2) rfl (by kernel_rfl) rfl ?_
    simp only [Act.put, nA, nB, nC]
    refine Seq.call rfl rfl rfl rfl (by kernel_rfl) (fun w h => mul_G x.num.natAbs y.den k w R1.out.a R2.out.d H1.out.rz.1 H2.out.rz.2 (by omega)) ?_
    simp only [Act.put, nA, nB, nC]
    refine Seq.pure rfl rfl (by intro w; go_simp; try rfl) ?_
    simp only [Act.put, nA, nB, nC]
    refine Seq.loadCell rfl rfl rfl rfl (by repeat (first | exact mC | apply mT)) (v := .string a2) rfl (by kernel_rfl) rfl ?_
    simp only [Act.put, nA, nB, nC]
    refine Seq.pure rfl rfl (by intro w; go_simp; try rfl) ?_
    simp only [Act.put, nA, nB, nC]
    refine Seq.loadCell rfl rfl rfl rfl (by repeat (first | exact mC | apply mT)) (v := .string d1) rfl (by kernel_rfl) rfl ?_
    simp only [Act.put, nA, nB, nC]
    refine Seq.call rfl rfl rfl rfl (by kernel_rfl) (fun w h => mul_G y.num.natAbs x.den k w R2.out.a R1.out.d H2.out.rz.1 H1.out.rz.2 (by omega)) ?_
    simp only [Act.put, nA, nB, nC]
    refine Seq.call rfl rfl rfl rfl (by kernel_rfl) (fun w h => (cmp_G _ _ k w (H1.out.rz.1.mul H2.out.rz.2) (H2.out.rz.1.mul H1.out.rz.2) (by omega)).mono (fun e w2 hh => ⟨hh.1.trans HCZ.out, hh.2 ▸ Below.refl _ _⟩)) ?_
    simp only [Act.put, nA, nB, nC]
    refine Seq.pure rfl rfl (by intro w; go_simp; try rfl) ?_
    simp only [Act.put, nA, nB, nC]
    refine Seq.done fun ws4 hws => ?_
    have HS4 := hws.st
    clear HS3 hws
    go_upto_region 7 with (fail)
    refine wp_seq_text [] (StR.no HS4) ?_
    refine Seq.pure rfl rfl (by intro w; go_simp; try rfl) ?_
    simp only [Act.put, nA, nB, nC]
    refine Seq.loadCell rfl rfl rfl rfl (by repeat (first | exact mC | apply mT)) (v := .bool false) rfl (by kernel_rfl) rfl ?_
    simp only [Act.put, nA, nB, nC]
    refine Seq.done fun ws5 hws => ?_
    have HS5 := hws.st
    clear HS4 hws
    go_upto_region 9 with (fail)
    refine wp_seq_text [] (StR.no HS5) ?_
    iterate 2 (refine Seq.pure rfl rfl (by intro w; go_simp; try rfl) ?_; simp only [Act.put, nA, nB, nC])
    refine Seq.done fun ws6 hws => ?_
    have HS6 := hws.st
    clear HS5 hws
    go_wp2_with fail
    go_ret
    exact ⟨by rw [← HQ.out]; first | rfl | exact congrArg (fun z => Ending.returned (Value.int .i64 z)) hwr, HS6.below⟩
  · have hn1 := of_decide_eq_false HS1.out.symm
    have hn2 := of_decide_eq_true HS2.out.symm
    have HQ := Lib.hid (cmpQ_pn x y (by omega) hn2); clear hn1 hn2
    go_enter Tryz.func36, Tryz.ntmps36
    have HS : St w [] w := St.start
    go_upto_region 0 with (fail)
    refine wp_seq_text [] (StR.no HS) ?_
    refine Seq.box rfl rfl rfl (v := .agg (#[.bool t1.s, .string t1.a, .string t1.d])) (cs := #[.bool t1.s, .string t1.a, .string t1.d]) rfl rfl ?_
    intro bk2 _ _ hbk2_r
    simp only [Act.put, nA, nB, nC]
    refine Seq.box rfl rfl rfl (v := .agg (#[.bool t2.s, .string t2.a, .string t2.d])) (cs := #[.bool t2.s, .string t2.a, .string t2.d]) rfl rfl ?_
    intro bk3 _ _ hbk3_r
    obtain ⟨ne_bk3_bk2, hbk3_r⟩ := Reg.ne_of_put hbk3_r
    have ne_bk2_bk3 := Ne.symm ne_bk3_bk2
    simp only [Act.put, nA, nB, nC]
    refine Seq.pure rfl rfl (by intro w; go_simp; try rfl) ?_
    simp only [Act.put, nA, nB, nC]
    refine Seq.done fun ws1 hws => ?_
    have HS1 : St w [(bk2, 24, #[.bool t1.s, .string t1.a, .string t1.d]), (bk3, 24, #[.bool t2.s, .string t2.a, .string t2.d])] ws1 := hws.list2 (by repeat (first | exact rS | refine rN (by assumption) ?_)) (by repeat (first | exact rS | refine rN (by assumption) ?_)) (by assumption)
    clear HS hws
    go_upto_region 1 with (fail)
    have HPbk3 : St w [(bk3, 24, #[.bool t2.s, .string t2.a, .string t2.d]), (bk2, 24, #[.bool t1.s, .string t1.a, .string t1.d])] _ := St.perm HS1 (List.perm_middle (l₁ := ([(bk2, 24, #[.bool t1.s, .string t1.a, .string t1.d])] : List Own)))
    have HPbk2 : St w [(bk2, 24, #[.bool t1.s, .string t1.a, .string t1.d]), (bk3, 24, #[.bool t2.s, .string t2.a, .string t2.d])] _ := St.perm HPbk3 (List.perm_middle (l₁ := ([(bk3, 24, #[.bool t2.s, .string t2.a, .string t2.d])] : List Own)))
    refine wp_seq [0, 4] (by kernel_rfl) (by kernel_rfl) (Reg.fin.put (Reg.fin.put Reg.fin_no _ _) _ _) (StR.move (StR.move (StR.no HPbk2))) ?_
    refine Seq.get rfl rfl rfl rfl (by repeat (first | exact rS | refine rN (by assumption) ?_)) (n := 3) rfl (by kernel_rfl) ?_
    simp only [Act.put, nA, nB, nC]
    refine Seq.call rfl rfl rfl rfl (by kernel_rfl) (fit_c HT.out H1.out R1.out (by omega)) ?_
    simp only [Act.put, nA, nB, nC]
    refine Seq.get rfl rfl rfl rfl (by repeat (first | exact rS | refine rN (by assumption) ?_)) (n := 3) rfl (by kernel_rfl) ?_
    simp only [Act.put, nA, nB, nC]
    refine Seq.call rfl rfl rfl rfl (by kernel_rfl) (fit_c HT.out H2.out R2.out (by omega)) ?_
    simp only [Act.put, nA, nB, nC]
    refine Seq.store rfl rfl rfl rfl rfl (by repeat (first | exact rS | refine rN (by assumption) ?_)) (n := 3) rfl rfl (by kernel_rfl) (by intro u hu; simp at hu; rcases hu with rfl | rfl | rfl <;> rfl) ?_
    simp only [Act.put, nA, nB, nC]
    refine Seq.store rfl rfl rfl rfl rfl (by repeat (first | exact rS | refine rN (by assumption) ?_)) (n := 3) rfl rfl (by kernel_rfl) (by intro u hu; simp at hu; rcases hu with rfl | rfl | rfl <;> rfl) ?_
    simp only [Act.put, nA, nB, nC]
    refine Seq.done fun ws2 hws => ?_
    have HS2 : St w [(bk2, 24, #[.bool false, .string a1, .string d1]), (bk3, 24, #[.bool true, .string a2, .string d2])] ws2 := hws.list2 (by repeat (first | exact rS | refine rN (by assumption) ?_)) (by repeat (first | exact rS | refine rN (by assumption) ?_)) (by assumption)
    clear HS1 hws HPbk3 HPbk2
    go_upto_region 2 with (fail)
    refine wp_seq_text [] (StR.no HS2) ?_
    refine Seq.pure rfl rfl (by intro w; go_simp; try rfl) ?_
    simp only [Act.put, nA, nB, nC]
    refine Seq.loadCell rfl rfl rfl rfl (by repeat (first | exact mC | apply mT)) (v := .bool false) rfl (by kernel_rfl) rfl ?_
    simp only [Act.put, nA, nB, nC]
    refine Seq.pure rfl rfl (by intro w; go_simp; try rfl) ?_
    simp only [Act.put, nA, nB, nC]
    refine Seq.loadCell rfl rfl rfl rfl (by repeat (first | exact mC | apply mT)) (v := .bool true) rfl (by kernel_rfl) rfl ?_
    simp only [Act.put, nA, nB, nC]
    refine Seq.pure rfl rfl (by intro w; go_simp; try rfl) ?_
    simp only [Act.put, nA, nB, nC]
    refine Seq.done fun ws3 hws => ?_
    have HS3 := hws.st
    clear HS2 hws
    go_upto_region 3 with (fail)
    refine wp_seq_text [] (StR.no HS3) ?_
    refine Seq.pure rfl rfl (by intro w; go_simp; try rfl) ?_
    simp only [Act.put, nA, nB, nC]
    refine Seq.loadCell rfl rfl rfl rfl (by repeat (first | exact mC | apply mT)) (v := .bool false) rfl (by kernel_rfl) rfl ?_
    simp only [Act.put, nA, nB, nC]
    refine Seq.done fun ws4 hws => ?_
    have HS4 := hws.st
    clear HS3 hws
    go_upto_region 5 with (fail)
    refine wp_seq_text [] (StR.no HS4) ?_
    refine Seq.pure rfl rfl (by intro w; go_simp; try rfl) ?_
    simp only [Act.put, nA, nB, nC]
    refine Seq.done fun ws5 hws => ?_
    have HS5 := hws.st
    clear HS4 hws
    go_wp2_with fail
    go_ret
    exact ⟨by rw [← HQ.out]; first | rfl | exact congrArg (fun z => Ending.returned (Value.int .i64 z)) hwr, HS5.below⟩
  · have hn1 := of_decide_eq_true HS1.out.symm
    have hn2 := of_decide_eq_false HS2.out.symm
    have HQ := Lib.hid (cmpQ_np x y hn1 (by omega)); clear hn1 hn2
    go_enter Tryz.func36, Tryz.ntmps36
    have HS : St w [] w := St.start
    go_upto_region 0 with (fail)
    refine wp_seq_text [] (StR.no HS) ?_
    refine Seq.box rfl rfl rfl (v := .agg (#[.bool t1.s, .string t1.a, .string t1.d])) (cs := #[.bool t1.s, .string t1.a, .string t1.d]) rfl rfl ?_
    intro bk2 _ _ hbk2_r
    simp only [Act.put, nA, nB, nC]
    refine Seq.box rfl rfl rfl (v := .agg (#[.bool t2.s, .string t2.a, .string t2.d])) (cs := #[.bool t2.s, .string t2.a, .string t2.d]) rfl rfl ?_
    intro bk3 _ _ hbk3_r
    obtain ⟨ne_bk3_bk2, hbk3_r⟩ := Reg.ne_of_put hbk3_r
    have ne_bk2_bk3 := Ne.symm ne_bk3_bk2
    simp only [Act.put, nA, nB, nC]
    refine Seq.pure rfl rfl (by intro w; go_simp; try rfl) ?_
    simp only [Act.put, nA, nB, nC]
    refine Seq.done fun ws1 hws => ?_
    have HS1 : St w [(bk2, 24, #[.bool t1.s, .string t1.a, .string t1.d]), (bk3, 24, #[.bool t2.s, .string t2.a, .string t2.d])] ws1 := hws.list2 (by repeat (first | exact rS | refine rN (by assumption) ?_)) (by repeat (first | exact rS | refine rN (by assumption) ?_)) (by assumption)
    clear HS hws
    go_upto_region 1 with (fail)
    have HPbk3 : St w [(bk3, 24, #[.bool t2.s, .string t2.a, .string t2.d]), (bk2, 24, #[.bool t1.s, .string t1.a, .string t1.d])] _ := St.perm HS1 (List.perm_middle (l₁ := ([(bk2, 24, #[.bool t1.s, .string t1.a, .string t1.d])] : List Own)))
    have HPbk2 : St w [(bk2, 24, #[.bool t1.s, .string t1.a, .string t1.d]), (bk3, 24, #[.bool t2.s, .string t2.a, .string t2.d])] _ := St.perm HPbk3 (List.perm_middle (l₁ := ([(bk3, 24, #[.bool t2.s, .string t2.a, .string t2.d])] : List Own)))
    refine wp_seq [0, 4] (by kernel_rfl) (by kernel_rfl) (Reg.fin.put (Reg.fin.put Reg.fin_no _ _) _ _) (StR.move (StR.move (StR.no HPbk2))) ?_
    refine Seq.get rfl rfl rfl rfl (by repeat (first | exact rS | refine rN (by assumption) ?_)) (n := 3) rfl (by kernel_rfl) ?_
    simp only [Act.put, nA, nB, nC]
    refine Seq.call rfl rfl rfl rfl (by kernel_rfl) (fit_c HT.out H1.out R1.out (by omega)) ?_
    simp only [Act.put, nA, nB, nC]
    refine Seq.get rfl rfl rfl rfl (by repeat (first | exact rS | refine rN (by assumption) ?_)) (n := 3) rfl (by kernel_rfl) ?_
    simp only [Act.put, nA, nB, nC]
    refine Seq.call rfl rfl rfl rfl (by kernel_rfl) (fit_c HT.out H2.out R2.out (by omega)) ?_
    simp only [Act.put, nA, nB, nC]
    refine Seq.store rfl rfl rfl rfl rfl (by repeat (first | exact rS | refine rN (by assumption) ?_)) (n := 3) rfl rfl (by kernel_rfl) (by intro u hu; simp at hu; rcases hu with rfl | rfl | rfl <;> rfl) ?_
    simp only [Act.put, nA, nB, nC]
    refine Seq.store rfl rfl rfl rfl rfl (by repeat (first | exact rS | refine rN (by assumption) ?_)) (n := 3) rfl rfl (by kernel_rfl) (by intro u hu; simp at hu; rcases hu with rfl | rfl | rfl <;> rfl) ?_
    simp only [Act.put, nA, nB, nC]
    refine Seq.done fun ws2 hws => ?_
    have HS2 : St w [(bk2, 24, #[.bool true, .string a1, .string d1]), (bk3, 24, #[.bool false, .string a2, .string d2])] ws2 := hws.list2 (by repeat (first | exact rS | refine rN (by assumption) ?_)) (by repeat (first | exact rS | refine rN (by assumption) ?_)) (by assumption)
    clear HS1 hws HPbk3 HPbk2
    go_upto_region 2 with (fail)
    refine wp_seq_text [] (StR.no HS2) ?_
    refine Seq.pure rfl rfl (by intro w; go_simp; try rfl) ?_
    simp only [Act.put, nA, nB, nC]
    refine Seq.loadCell rfl rfl rfl rfl (by repeat (first | exact mC | apply mT)) (v := .bool true) rfl (by kernel_rfl) rfl ?_
    simp only [Act.put, nA, nB, nC]
    refine Seq.pure rfl rfl (by intro w; go_simp; try rfl) ?_
    simp only [Act.put, nA, nB, nC]
    refine Seq.loadCell rfl rfl rfl rfl (by repeat (first | exact mC | apply mT)) (v := .bool false) rfl (by kernel_rfl) rfl ?_
    simp only [Act.put, nA, nB, nC]
    refine Seq.pure rfl rfl (by intro w; go_simp; try rfl) ?_
    simp only [Act.put, nA, nB, nC]
    refine Seq.done fun ws3 hws => ?_
    have HS3 := hws.st
    clear HS2 hws
    go_upto_region 3 with (fail)
    refine wp_seq_text [] (StR.no HS3) ?_
    refine Seq.pure rfl rfl (by intro w; go_simp; try rfl) ?_
    simp only [Act.put, nA, nB, nC]
    refine Seq.loadCell rfl rfl rfl rfl (by repeat (first | exact mC | apply mT)) (v := .bool true) rfl (by kernel_rfl) rfl ?_
    simp only [Act.put, nA, nB, nC]
    refine Seq.done fun ws4 hws => ?_
    have HS4 := hws.st
    clear HS3 hws
    go_upto_region 4 with (fail)
    refine wp_seq_text [] (StR.no HS4) ?_
    refine Seq.pure rfl rfl (by intro w; go_simp; try rfl) ?_
    simp only [Act.put, nA, nB, nC]
    refine Seq.done fun ws5 hws => ?_
    have HS5 := hws.st
    clear HS4 hws
    go_wp2_with fail
    go_ret
    exact ⟨by rw [← HQ.out]; first | rfl | exact congrArg (fun z => Ending.returned (Value.int .i64 z)) hwr, HS5.below⟩
  · have hn1 := of_decide_eq_true HS1.out.symm
    have hn2 := of_decide_eq_true HS2.out.symm
    obtain ⟨cz, hcz⟩ : ∃ cz, cz = cmpZ (x.num.natAbs * y.den) (y.num.natAbs * x.den) := ⟨_, rfl⟩
    have HQ := Lib.hid (show -cz = cmpQ x y from by rw [hcz]; exact cmpZ_neg x y hn1 hn2); clear hn1 hn2
    have hcl : -1 ≤ cz ∧ cz ≤ 1 := by rw [hcz]; unfold cmpZ; split <;> (try split) <;> omega
    obtain ⟨l1, l2⟩ := hcl
    have HCZ := Lib.hid (show Ending.returned (.int .i64 (cmpZ (x.num.natAbs * y.den) (y.num.natAbs * x.den))) = .returned (.int .i64 cz) from by rw [hcz]); clear hcz
    go_enter Tryz.func36, Tryz.ntmps36
    have HS : St w [] w := St.start
    go_upto_region 0 with (fail)
    refine wp_seq_text [] (StR.no HS) ?_
    refine Seq.box rfl rfl rfl (v := .agg (#[.bool t1.s, .string t1.a, .string t1.d])) (cs := #[.bool t1.s, .string t1.a, .string t1.d]) rfl rfl ?_
    intro bk2 _ _ hbk2_r
    simp only [Act.put, nA, nB, nC]
    refine Seq.box rfl rfl rfl (v := .agg (#[.bool t2.s, .string t2.a, .string t2.d])) (cs := #[.bool t2.s, .string t2.a, .string t2.d]) rfl rfl ?_
    intro bk3 _ _ hbk3_r
    obtain ⟨ne_bk3_bk2, hbk3_r⟩ := Reg.ne_of_put hbk3_r
    have ne_bk2_bk3 := Ne.symm ne_bk3_bk2
    simp only [Act.put, nA, nB, nC]
    refine Seq.pure rfl rfl (by intro w; go_simp; try rfl) ?_
    simp only [Act.put, nA, nB, nC]
    refine Seq.done fun ws1 hws => ?_
    have HS1 : St w [(bk2, 24, #[.bool t1.s, .string t1.a, .string t1.d]), (bk3, 24, #[.bool t2.s, .string t2.a, .string t2.d])] ws1 := hws.list2 (by repeat (first | exact rS | refine rN (by assumption) ?_)) (by repeat (first | exact rS | refine rN (by assumption) ?_)) (by assumption)
    clear HS hws
    go_upto_region 1 with (fail)
    have HPbk3 : St w [(bk3, 24, #[.bool t2.s, .string t2.a, .string t2.d]), (bk2, 24, #[.bool t1.s, .string t1.a, .string t1.d])] _ := St.perm HS1 (List.perm_middle (l₁ := ([(bk2, 24, #[.bool t1.s, .string t1.a, .string t1.d])] : List Own)))
    have HPbk2 : St w [(bk2, 24, #[.bool t1.s, .string t1.a, .string t1.d]), (bk3, 24, #[.bool t2.s, .string t2.a, .string t2.d])] _ := St.perm HPbk3 (List.perm_middle (l₁ := ([(bk3, 24, #[.bool t2.s, .string t2.a, .string t2.d])] : List Own)))
    refine wp_seq [0, 4] (by kernel_rfl) (by kernel_rfl) (Reg.fin.put (Reg.fin.put Reg.fin_no _ _) _ _) (StR.move (StR.move (StR.no HPbk2))) ?_
    refine Seq.get rfl rfl rfl rfl (by repeat (first | exact rS | refine rN (by assumption) ?_)) (n := 3) rfl (by kernel_rfl) ?_
    simp only [Act.put, nA, nB, nC]
    refine Seq.call rfl rfl rfl rfl (by kernel_rfl) (fit_c HT.out H1.out R1.out (by omega)) ?_
    simp only [Act.put, nA, nB, nC]
    refine Seq.get rfl rfl rfl rfl (by repeat (first | exact rS | refine rN (by assumption) ?_)) (n := 3) rfl (by kernel_rfl) ?_
    simp only [Act.put, nA, nB, nC]
    refine Seq.call rfl rfl rfl rfl (by kernel_rfl) (fit_c HT.out H2.out R2.out (by omega)) ?_
    simp only [Act.put, nA, nB, nC]
    refine Seq.store rfl rfl rfl rfl rfl (by repeat (first | exact rS | refine rN (by assumption) ?_)) (n := 3) rfl rfl (by kernel_rfl) (by intro u hu; simp at hu; rcases hu with rfl | rfl | rfl <;> rfl) ?_
    simp only [Act.put, nA, nB, nC]
    refine Seq.store rfl rfl rfl rfl rfl (by repeat (first | exact rS | refine rN (by assumption) ?_)) (n := 3) rfl rfl (by kernel_rfl) (by intro u hu; simp at hu; rcases hu with rfl | rfl | rfl <;> rfl) ?_
    simp only [Act.put, nA, nB, nC]
    refine Seq.done fun ws2 hws => ?_
    have HS2 : St w [(bk2, 24, #[.bool true, .string a1, .string d1]), (bk3, 24, #[.bool true, .string a2, .string d2])] ws2 := hws.list2 (by repeat (first | exact rS | refine rN (by assumption) ?_)) (by repeat (first | exact rS | refine rN (by assumption) ?_)) (by assumption)
    clear HS1 hws HPbk3 HPbk2
    go_upto_region 2 with (fail)
    refine wp_seq_text [] (StR.no HS2) ?_
    refine Seq.pure rfl rfl (by intro w; go_simp; try rfl) ?_
    simp only [Act.put, nA, nB, nC]
    refine Seq.loadCell rfl rfl rfl rfl (by repeat (first | exact mC | apply mT)) (v := .bool true) rfl (by kernel_rfl) rfl ?_
    simp only [Act.put, nA, nB, nC]
    refine Seq.pure rfl rfl (by intro w; go_simp; try rfl) ?_
    simp only [Act.put, nA, nB, nC]
    refine Seq.loadCell rfl rfl rfl rfl (by repeat (first | exact mC | apply mT)) (v := .bool true) rfl (by kernel_rfl) rfl ?_
    simp only [Act.put, nA, nB, nC]
    refine Seq.pure rfl rfl (by intro w; go_simp; try rfl) ?_
    simp only [Act.put, nA, nB, nC]
    refine Seq.done fun ws3 hws => ?_
    have HS3 := hws.st
    clear HS2 hws
    go_upto_region 6 with (fail)
    refine wp_seq [] (by kernel_rfl) (by kernel_rfl) Reg.fin_no (StR.no HS3) ?_
    refine Seq.pure rfl rfl (by intro w; go_simp; try rfl) ?_
    simp only [Act.put, nA, nB, nC]
    refine Seq.loadCell rfl rfl rfl rfl (by repeat (first | exact mC | apply mT)) (v := .string a1) rfl (by kernel_rfl) rfl ?_
    simp only [Act.put, nA, nB, nC]
    refine Seq.pure rfl rfl (by intro w; go_simp; try rfl) ?_
    simp only [Act.put, nA, nB, nC]
    refine Seq.loadCell rfl rfl rfl rfl (by repeat (first | exact mC | apply mT)) (v := .string d2) rfl (by kernel_rfl) rfl ?_
    simp only [Act.put, nA, nB, nC]
    refine Seq.call rfl rfl rfl rfl (by kernel_rfl) (fun w h => mul_G x.num.natAbs y.den k w R1.out.a R2.out.d H1.out.rz.1 H2.out.rz.2 (by omega)) ?_
    simp only [Act.put, nA, nB, nC]
    refine Seq.pure rfl rfl (by intro w; go_simp; try rfl) ?_
    simp only [Act.put, nA, nB, nC]
    refine Seq.loadCell rfl rfl rfl rfl (by repeat (first | exact mC | apply mT)) (v := .string a2) rfl (by kernel_rfl) rfl ?_
    simp only [Act.put, nA, nB, nC]
    refine Seq.pure rfl rfl (by intro w; go_simp; try rfl) ?_
    simp only [Act.put, nA, nB, nC]
    refine Seq.loadCell rfl rfl rfl rfl (by repeat (first | exact mC | apply mT)) (v := .string d1) rfl (by kernel_rfl) rfl ?_
    simp only [Act.put, nA, nB, nC]
    refine Seq.call rfl rfl rfl rfl (by kernel_rfl) (fun w h => mul_G y.num.natAbs x.den k w R2.out.a R1.out.d H2.out.rz.1 H1.out.rz.2 (by omega)) ?_
    simp only [Act.put, nA, nB, nC]
    refine Seq.call rfl rfl rfl rfl (by kernel_rfl) (fun w h => (cmp_G _ _ k w (H1.out.rz.1.mul H2.out.rz.2) (H2.out.rz.1.mul H1.out.rz.2) (by omega)).mono (fun e w2 hh => ⟨hh.1.trans HCZ.out, hh.2 ▸ Below.refl _ _⟩)) ?_
    simp only [Act.put, nA, nB, nC]
    refine Seq.pure rfl rfl (by intro w; go_simp; try rfl) ?_
    simp only [Act.put, nA, nB, nC]
    refine Seq.done fun ws4 hws => ?_
    have HS4 := hws.st
    clear HS3 hws
    go_upto_region 7 with (fail)
    refine wp_seq_text [] (StR.no HS4) ?_
    refine Seq.pure rfl rfl (by intro w; go_simp; try rfl) ?_
    simp only [Act.put, nA, nB, nC]
    refine Seq.loadCell rfl rfl rfl rfl (by repeat (first | exact mC | apply mT)) (v := .bool true) rfl (by kernel_rfl) rfl ?_
    simp only [Act.put, nA, nB, nC]
    refine Seq.done fun ws5 hws => ?_
    have HS5 := hws.st
    clear HS4 hws
    go_upto_region 8 with (fail)
    refine wp_seq_text [] (StR.no HS5) ?_
    iterate 3 (refine Seq.pure rfl rfl (by intro w; go_simp; try rfl) ?_; simp only [Act.put, nA, nB, nC])
    refine Seq.done fun ws6 hws => ?_
    have HS6 := hws.st
    clear HS5 hws
    have hwr : IntKind.i64.wrap (-cz) = -cz := IntWalk.i64_in _ (by omega)
    go_wp2_with fail
    go_ret
    exact ⟨by rw [← HQ.out]; first | rfl | exact congrArg (fun z => Ending.returned (Value.int .i64 z)) hwr, HS6.below⟩
end

section
variable {W : World} {l : List Own} {k : Nat} {x y : Rat} {g1 g2 : Bool} {t1 t2 : RT}
end

section
variable {W : World} {l : List Own} {k : Nat} {x y : Rat} {g1 g2 : Bool} {t1 t2 : RT}
set_option maxHeartbeats 4000000 in
set_option maxRecDepth 20000 in
theorem neg_w {z : Rat} (hT : Tab W) (h1 : RawT k x g1 t1) (hz : -x = z) (hk : k ≤ 4398046511104) (w : World) (h : St W l w) :
    Calls Tryz.prog 81 #[.agg t1.c] w fun e w' => e = .returned (.agg (RC z)) ∧ Below w.heap.size w w' := by
  subst hz
  have HT := Lib.hid (tabS hT h); clear hT h
  have H1 := Lib.hid h1; clear h1
  obtain ⟨s1, a1, d1, r1⟩ := R_parts x
  have R1 := Lib.hid r1; clear r1
  unfold RT.c
  rcases neg_parts R1.out with ⟨hn, rfl, he, h3⟩ | ⟨hn, rfl, he, h3⟩ | ⟨hn, rfl, he, h3⟩
  · have HE2 := Lib.hid (show ¬ a1.toList = [] from fun e => by rw [e] at he; cases he); clear he hn
    have HQ := Lib.hid h3; clear h3
    go_enter Tryz.func81, Tryz.ntmps81
    have HS : St w [] w := St.start
    go_upto_region 0 with (fail)
    refine wp_seq_text [] (StR.no HS) ?_
    refine Seq.box rfl rfl rfl (v := .agg (#[.bool t1.s, .string t1.a, .string t1.d])) (cs := #[.bool t1.s, .string t1.a, .string t1.d]) rfl rfl ?_
    intro bk1 _ _ hbk1_r
    simp only [Act.put, nA, nB, nC]
    refine Seq.alloc rfl rfl rfl (z := .agg (#[.bool false, .string ⟨#[]⟩, .string ⟨#[]⟩])) (by kernel_rfl) rfl ?_
    intro bk2 _ _ hbk2_r
    obtain ⟨ne_bk2_bk1, hbk2_r⟩ := Reg.ne_of_put hbk2_r
    have ne_bk1_bk2 := Ne.symm ne_bk2_bk1
    simp only [Act.put, nA, nB, nC]
    refine Seq.done fun ws1 hws => ?_
    have HS1 : St w [(bk1, 24, #[.bool t1.s, .string t1.a, .string t1.d]), (bk2, 24, #[.bool false, .string ⟨#[]⟩, .string ⟨#[]⟩])] ws1 := hws.list2 (by repeat (first | exact rS | refine rN (by assumption) ?_)) (by repeat (first | exact rS | refine rN (by assumption) ?_)) (by assumption)
    clear HS hws
    go_upto_region 1 with (fail)
    refine wp_seq_text [0] (StR.move (StR.no HS1)) ?_
    refine Seq.get rfl rfl rfl rfl (by repeat (first | exact rS | refine rN (by assumption) ?_)) (n := 3) rfl (by kernel_rfl) ?_
    simp only [Act.put, nA, nB, nC]
    refine Seq.call rfl rfl rfl rfl (by kernel_rfl) (fit_c HT.out H1.out R1.out (by omega)) ?_
    simp only [Act.put, nA, nB, nC]
    refine Seq.store rfl rfl rfl rfl rfl (by repeat (first | exact rS | refine rN (by assumption) ?_)) (n := 3) rfl rfl (by kernel_rfl) (by intro u hu; simp at hu; rcases hu with rfl | rfl | rfl <;> rfl) ?_
    simp only [Act.put, nA, nB, nC]
    refine Seq.done fun ws2 hws => ?_
    have HS2 : St w [(bk1, 24, #[.bool true, .string a1, .string d1]), (bk2, 24, #[.bool false, .string ⟨#[]⟩, .string ⟨#[]⟩])] ws2 := hws.list1 (by repeat (first | exact rS | refine rN (by assumption) ?_))
    clear HS1 hws
    go_upto_region 2 with (fail)
    refine wp_seq_text [2, 10] (StR.move (StR.no HS2)) ?_
    refine Seq.pure rfl rfl (by intro w; go_simp; try rfl) ?_
    simp only [Act.put, nA, nB, nC]
    refine Seq.getCell rfl rfl rfl rfl (by repeat (first | exact rS | refine rN (by assumption) ?_)) (v := .bool true) rfl (by kernel_rfl) rfl ?_
    simp only [Act.put, nA, nB, nC]
    iterate 2 (refine Seq.pure rfl rfl (by intro w; go_simp; try rfl) ?_; simp only [Act.put, nA, nB, nC])
    iterate 3 (refine Seq.nw rfl ?_; simp only [Act.put, nA, nB, nC])
    refine Seq.pure (v := .bool false) rfl rfl (by intro w; go_simp <;> (first | (rw [HE2.out]; done) | exact HE2.out | (simp [HE2.out]; done) | (trace_state; done))) ?_
    simp only [Act.put, nA, nB, nC]
    refine Seq.pure rfl rfl (by intro w; go_simp; try rfl) ?_
    simp only [Act.put, nA, nB, nC]
    refine Seq.storeAt (v := .bool false) rfl rfl rfl rfl rfl (by repeat (first | exact rS | refine rN (by assumption) ?_)) (Nat.le_of_ble_eq_true rfl) (by kernel_rfl) (by intro u hu; simp [Value.cells] at hu; subst hu; rfl) (cs' := #[.bool false, .string a1, .string d1]) rfl ?_
    simp only [Act.put, nA, nB, nC]
    refine Seq.done fun ws3 hws => ?_
    have HS3 : St w [(bk1, 24, #[.bool false, .string a1, .string d1]), (bk2, 24, #[.bool false, .string ⟨#[]⟩, .string ⟨#[]⟩])] ws3 := hws.list1 (by repeat (first | exact rS | refine rN (by assumption) ?_))
    clear HS2 hws
    go_upto_region 3 with (fail)
    have HPbk2 : St w [(bk2, 24, #[.bool false, .string ⟨#[]⟩, .string ⟨#[]⟩]), (bk1, 24, #[.bool false, .string a1, .string d1])] _ := St.perm HS3 (List.perm_middle (l₁ := ([(bk1, 24, #[.bool false, .string a1, .string d1])] : List Own)))
    refine wp_seq_text [] (StR.move (StR.no HPbk2)) ?_
    refine Seq.load rfl rfl rfl rfl (by repeat (first | exact mC | apply mT)) (n := 3) rfl (by kernel_rfl) ?_
    simp only [Act.put, nA, nB, nC]
    refine Seq.store rfl rfl rfl rfl rfl (by repeat (first | exact rS | refine rN (by assumption) ?_)) (n := 3) rfl rfl (by kernel_rfl) (by intro u hu; simp at hu; rcases hu with rfl | rfl | rfl <;> rfl) ?_
    simp only [Act.put, nA, nB, nC]
    refine Seq.done fun ws4 hws => ?_
    have HS4 : St w [(bk2, 24, #[.bool false, .string a1, .string d1]), (bk1, 24, #[.bool false, .string a1, .string d1])] ws4 := hws.list1 (by repeat (first | exact rS | refine rN (by assumption) ?_))
    clear HS3 hws HPbk2
    go_wp2_with fail
    exact ret_own rfl rfl rfl HS4 (by repeat (first | exact mC | apply mT)) (n := 3) rfl (by kernel_rfl) ⟨congrArg (fun c => Ending.returned (.agg c)) HQ.out.rc, HS4.below⟩
  · have HE2 := Lib.hid (show a1.toList = [] from List.isEmpty_iff.1 he); clear he hn
    have HQ := Lib.hid h3; clear h3
    go_enter Tryz.func81, Tryz.ntmps81
    have HS : St w [] w := St.start
    go_upto_region 0 with (fail)
    refine wp_seq_text [] (StR.no HS) ?_
    refine Seq.box rfl rfl rfl (v := .agg (#[.bool t1.s, .string t1.a, .string t1.d])) (cs := #[.bool t1.s, .string t1.a, .string t1.d]) rfl rfl ?_
    intro bk1 _ _ hbk1_r
    simp only [Act.put, nA, nB, nC]
    refine Seq.alloc rfl rfl rfl (z := .agg (#[.bool false, .string ⟨#[]⟩, .string ⟨#[]⟩])) (by kernel_rfl) rfl ?_
    intro bk2 _ _ hbk2_r
    obtain ⟨ne_bk2_bk1, hbk2_r⟩ := Reg.ne_of_put hbk2_r
    have ne_bk1_bk2 := Ne.symm ne_bk2_bk1
    simp only [Act.put, nA, nB, nC]
    refine Seq.done fun ws1 hws => ?_
    have HS1 : St w [(bk1, 24, #[.bool t1.s, .string t1.a, .string t1.d]), (bk2, 24, #[.bool false, .string ⟨#[]⟩, .string ⟨#[]⟩])] ws1 := hws.list2 (by repeat (first | exact rS | refine rN (by assumption) ?_)) (by repeat (first | exact rS | refine rN (by assumption) ?_)) (by assumption)
    clear HS hws
    go_upto_region 1 with (fail)
    refine wp_seq_text [0] (StR.move (StR.no HS1)) ?_
    refine Seq.get rfl rfl rfl rfl (by repeat (first | exact rS | refine rN (by assumption) ?_)) (n := 3) rfl (by kernel_rfl) ?_
    simp only [Act.put, nA, nB, nC]
    refine Seq.call rfl rfl rfl rfl (by kernel_rfl) (fit_c HT.out H1.out R1.out (by omega)) ?_
    simp only [Act.put, nA, nB, nC]
    refine Seq.store rfl rfl rfl rfl rfl (by repeat (first | exact rS | refine rN (by assumption) ?_)) (n := 3) rfl rfl (by kernel_rfl) (by intro u hu; simp at hu; rcases hu with rfl | rfl | rfl <;> rfl) ?_
    simp only [Act.put, nA, nB, nC]
    refine Seq.done fun ws2 hws => ?_
    have HS2 : St w [(bk1, 24, #[.bool false, .string a1, .string d1]), (bk2, 24, #[.bool false, .string ⟨#[]⟩, .string ⟨#[]⟩])] ws2 := hws.list1 (by repeat (first | exact rS | refine rN (by assumption) ?_))
    clear HS1 hws
    go_upto_region 2 with (fail)
    refine wp_seq_text [2, 10] (StR.move (StR.no HS2)) ?_
    refine Seq.pure rfl rfl (by intro w; go_simp; try rfl) ?_
    simp only [Act.put, nA, nB, nC]
    refine Seq.getCell rfl rfl rfl rfl (by repeat (first | exact rS | refine rN (by assumption) ?_)) (v := .bool false) rfl (by kernel_rfl) rfl ?_
    simp only [Act.put, nA, nB, nC]
    iterate 3 (refine Seq.pure rfl rfl (by intro w; go_simp; try rfl) ?_; simp only [Act.put, nA, nB, nC])
    refine Seq.getCell rfl rfl rfl rfl (by repeat (first | exact rS | refine rN (by assumption) ?_)) (v := .string a1) rfl (by kernel_rfl) rfl ?_
    simp only [Act.put, nA, nB, nC]
    refine Seq.pure (v := .bool false) rfl rfl (by intro w; go_simp <;> (first | (rw [HE2.out]; done) | exact HE2.out | (simp [HE2.out]; done) | (trace_state; done))) ?_
    simp only [Act.put, nA, nB, nC]
    refine Seq.pure (v := .bool false) rfl rfl (by intro w; go_simp <;> (first | (rw [HE2.out]; done) | exact HE2.out | (simp [HE2.out]; done) | (trace_state; done))) ?_
    simp only [Act.put, nA, nB, nC]
    refine Seq.pure rfl rfl (by intro w; go_simp; try rfl) ?_
    simp only [Act.put, nA, nB, nC]
    refine Seq.storeAt (v := .bool false) rfl rfl rfl rfl rfl (by repeat (first | exact rS | refine rN (by assumption) ?_)) (Nat.le_of_ble_eq_true rfl) (by kernel_rfl) (by intro u hu; simp [Value.cells] at hu; subst hu; rfl) (cs' := #[.bool false, .string a1, .string d1]) rfl ?_
    simp only [Act.put, nA, nB, nC]
    refine Seq.done fun ws3 hws => ?_
    have HS3 : St w [(bk1, 24, #[.bool false, .string a1, .string d1]), (bk2, 24, #[.bool false, .string ⟨#[]⟩, .string ⟨#[]⟩])] ws3 := hws.list1 (by repeat (first | exact rS | refine rN (by assumption) ?_))
    clear HS2 hws
    go_upto_region 3 with (fail)
    have HPbk2 : St w [(bk2, 24, #[.bool false, .string ⟨#[]⟩, .string ⟨#[]⟩]), (bk1, 24, #[.bool false, .string a1, .string d1])] _ := St.perm HS3 (List.perm_middle (l₁ := ([(bk1, 24, #[.bool false, .string a1, .string d1])] : List Own)))
    refine wp_seq_text [] (StR.move (StR.no HPbk2)) ?_
    refine Seq.load rfl rfl rfl rfl (by repeat (first | exact mC | apply mT)) (n := 3) rfl (by kernel_rfl) ?_
    simp only [Act.put, nA, nB, nC]
    refine Seq.store rfl rfl rfl rfl rfl (by repeat (first | exact rS | refine rN (by assumption) ?_)) (n := 3) rfl rfl (by kernel_rfl) (by intro u hu; simp at hu; rcases hu with rfl | rfl | rfl <;> rfl) ?_
    simp only [Act.put, nA, nB, nC]
    refine Seq.done fun ws4 hws => ?_
    have HS4 : St w [(bk2, 24, #[.bool false, .string a1, .string d1]), (bk1, 24, #[.bool false, .string a1, .string d1])] ws4 := hws.list1 (by repeat (first | exact rS | refine rN (by assumption) ?_))
    clear HS3 hws HPbk2
    go_wp2_with fail
    exact ret_own rfl rfl rfl HS4 (by repeat (first | exact mC | apply mT)) (n := 3) rfl (by kernel_rfl) ⟨congrArg (fun c => Ending.returned (.agg c)) HQ.out.rc, HS4.below⟩
  · have HE2 := Lib.hid (show ¬ a1.toList = [] from fun e => by rw [e] at he; cases he); clear he hn
    have HQ := Lib.hid h3; clear h3
    go_enter Tryz.func81, Tryz.ntmps81
    have HS : St w [] w := St.start
    go_upto_region 0 with (fail)
    refine wp_seq_text [] (StR.no HS) ?_
    refine Seq.box rfl rfl rfl (v := .agg (#[.bool t1.s, .string t1.a, .string t1.d])) (cs := #[.bool t1.s, .string t1.a, .string t1.d]) rfl rfl ?_
    intro bk1 _ _ hbk1_r
    simp only [Act.put, nA, nB, nC]
    refine Seq.alloc rfl rfl rfl (z := .agg (#[.bool false, .string ⟨#[]⟩, .string ⟨#[]⟩])) (by kernel_rfl) rfl ?_
    intro bk2 _ _ hbk2_r
    obtain ⟨ne_bk2_bk1, hbk2_r⟩ := Reg.ne_of_put hbk2_r
    have ne_bk1_bk2 := Ne.symm ne_bk2_bk1
    simp only [Act.put, nA, nB, nC]
    refine Seq.done fun ws1 hws => ?_
    have HS1 : St w [(bk1, 24, #[.bool t1.s, .string t1.a, .string t1.d]), (bk2, 24, #[.bool false, .string ⟨#[]⟩, .string ⟨#[]⟩])] ws1 := hws.list2 (by repeat (first | exact rS | refine rN (by assumption) ?_)) (by repeat (first | exact rS | refine rN (by assumption) ?_)) (by assumption)
    clear HS hws
    go_upto_region 1 with (fail)
    refine wp_seq_text [0] (StR.move (StR.no HS1)) ?_
    refine Seq.get rfl rfl rfl rfl (by repeat (first | exact rS | refine rN (by assumption) ?_)) (n := 3) rfl (by kernel_rfl) ?_
    simp only [Act.put, nA, nB, nC]
    refine Seq.call rfl rfl rfl rfl (by kernel_rfl) (fit_c HT.out H1.out R1.out (by omega)) ?_
    simp only [Act.put, nA, nB, nC]
    refine Seq.store rfl rfl rfl rfl rfl (by repeat (first | exact rS | refine rN (by assumption) ?_)) (n := 3) rfl rfl (by kernel_rfl) (by intro u hu; simp at hu; rcases hu with rfl | rfl | rfl <;> rfl) ?_
    simp only [Act.put, nA, nB, nC]
    refine Seq.done fun ws2 hws => ?_
    have HS2 : St w [(bk1, 24, #[.bool false, .string a1, .string d1]), (bk2, 24, #[.bool false, .string ⟨#[]⟩, .string ⟨#[]⟩])] ws2 := hws.list1 (by repeat (first | exact rS | refine rN (by assumption) ?_))
    clear HS1 hws
    go_upto_region 2 with (fail)
    refine wp_seq_text [2, 10] (StR.move (StR.no HS2)) ?_
    refine Seq.pure rfl rfl (by intro w; go_simp; try rfl) ?_
    simp only [Act.put, nA, nB, nC]
    refine Seq.getCell rfl rfl rfl rfl (by repeat (first | exact rS | refine rN (by assumption) ?_)) (v := .bool false) rfl (by kernel_rfl) rfl ?_
    simp only [Act.put, nA, nB, nC]
    iterate 3 (refine Seq.pure rfl rfl (by intro w; go_simp; try rfl) ?_; simp only [Act.put, nA, nB, nC])
    refine Seq.getCell rfl rfl rfl rfl (by repeat (first | exact rS | refine rN (by assumption) ?_)) (v := .string a1) rfl (by kernel_rfl) rfl ?_
    simp only [Act.put, nA, nB, nC]
    refine Seq.pure (v := .bool true) rfl rfl (by intro w; go_simp <;> (first | (rw [HE2.out]; done) | exact HE2.out | (simp [HE2.out]; done) | (trace_state; done))) ?_
    simp only [Act.put, nA, nB, nC]
    refine Seq.pure (v := .bool true) rfl rfl (by intro w; go_simp <;> (first | (rw [HE2.out]; done) | exact HE2.out | (simp [HE2.out]; done) | (trace_state; done))) ?_
    simp only [Act.put, nA, nB, nC]
    refine Seq.pure rfl rfl (by intro w; go_simp; try rfl) ?_
    simp only [Act.put, nA, nB, nC]
    refine Seq.storeAt (v := .bool true) rfl rfl rfl rfl rfl (by repeat (first | exact rS | refine rN (by assumption) ?_)) (Nat.le_of_ble_eq_true rfl) (by kernel_rfl) (by intro u hu; simp [Value.cells] at hu; subst hu; rfl) (cs' := #[.bool true, .string a1, .string d1]) rfl ?_
    simp only [Act.put, nA, nB, nC]
    refine Seq.done fun ws3 hws => ?_
    have HS3 : St w [(bk1, 24, #[.bool true, .string a1, .string d1]), (bk2, 24, #[.bool false, .string ⟨#[]⟩, .string ⟨#[]⟩])] ws3 := hws.list1 (by repeat (first | exact rS | refine rN (by assumption) ?_))
    clear HS2 hws
    go_upto_region 3 with (fail)
    have HPbk2 : St w [(bk2, 24, #[.bool false, .string ⟨#[]⟩, .string ⟨#[]⟩]), (bk1, 24, #[.bool true, .string a1, .string d1])] _ := St.perm HS3 (List.perm_middle (l₁ := ([(bk1, 24, #[.bool true, .string a1, .string d1])] : List Own)))
    refine wp_seq_text [] (StR.move (StR.no HPbk2)) ?_
    refine Seq.load rfl rfl rfl rfl (by repeat (first | exact mC | apply mT)) (n := 3) rfl (by kernel_rfl) ?_
    simp only [Act.put, nA, nB, nC]
    refine Seq.store rfl rfl rfl rfl rfl (by repeat (first | exact rS | refine rN (by assumption) ?_)) (n := 3) rfl rfl (by kernel_rfl) (by intro u hu; simp at hu; rcases hu with rfl | rfl | rfl <;> rfl) ?_
    simp only [Act.put, nA, nB, nC]
    refine Seq.done fun ws4 hws => ?_
    have HS4 : St w [(bk2, 24, #[.bool true, .string a1, .string d1]), (bk1, 24, #[.bool true, .string a1, .string d1])] ws4 := hws.list1 (by repeat (first | exact rS | refine rN (by assumption) ?_))
    clear HS3 hws HPbk2
    go_wp2_with fail
    exact ret_own rfl rfl rfl HS4 (by repeat (first | exact mC | apply mT)) (n := 3) rfl (by kernel_rfl) ⟨congrArg (fun c => Ending.returned (.agg c)) HQ.out.rc, HS4.below⟩
end
end Go.Proofs.YtoejojfjiikogaaGreatDoor
namespace Go.Proofs.YtoejojfjiikogaaGreatDoor
universe u
open Go.RowKit
set_option linter.unusedVariables false
set_option linter.unusedSimpArgs false

theorem St.f1 {W w : World} {x0 a : Own} {l : List Own} (h : St W (x0 :: a :: l) w) : St W (a :: x0 :: l) w := St.perm h (List.perm_middle (l₁ := [x0]))
theorem St.f2 {W w : World} {x0 x1 a : Own} {l : List Own} (h : St W (x0 :: x1 :: a :: l) w) : St W (a :: x0 :: x1 :: l) w := St.perm h (List.perm_middle (l₁ := [x0, x1]))
theorem St.f3 {W w : World} {x0 x1 x2 a : Own} {l : List Own} (h : St W (x0 :: x1 :: x2 :: a :: l) w) : St W (a :: x0 :: x1 :: x2 :: l) w := St.perm h (List.perm_middle (l₁ := [x0, x1, x2]))
theorem St.f4 {W w : World} {x0 x1 x2 x3 a : Own} {l : List Own} (h : St W (x0 :: x1 :: x2 :: x3 :: a :: l) w) : St W (a :: x0 :: x1 :: x2 :: x3 :: l) w := St.perm h (List.perm_middle (l₁ := [x0, x1, x2, x3]))
theorem St.f5 {W w : World} {x0 x1 x2 x3 x4 a : Own} {l : List Own} (h : St W (x0 :: x1 :: x2 :: x3 :: x4 :: a :: l) w) : St W (a :: x0 :: x1 :: x2 :: x3 :: x4 :: l) w := St.perm h (List.perm_middle (l₁ := [x0, x1, x2, x3, x4]))
/-- two, three, six numbers, cell by cell -/
def SW (a b : RT) : Array Value := #[.bool a.s, .string a.a, .string a.d, .bool b.s, .string b.a, .string b.d]
/-- the cells of a zero value -/
def rz0 : RT := ⟨false, ⟨#[]⟩, ⟨#[]⟩⟩
theorem cmpQ_gt (x y : Rat) : cmpQ x y > 0 ↔ y < x := by unfold cmpQ; grind
theorem cmpQ_le (x y : Rat) : cmpQ x y ≤ 0 ↔ x ≤ y := by unfold cmpQ; grind
end Go.Proofs.YtoejojfjiikogaaGreatDoor
