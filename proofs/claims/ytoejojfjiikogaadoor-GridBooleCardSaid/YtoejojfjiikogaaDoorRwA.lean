/- Rational functions at numbers that came in (any three cells). -/
import Derived.Test.YtoejojfjiikogaaDoorSpQ
import Derived.Test.YtoejojfjiikogaaDoorRatZ

namespace Go.Proofs.YtoejojfjiikogaaDoor
universe u
open Go.RowKit
set_option linter.unusedVariables false
set_option linter.unusedSimpArgs false

/-- three cells -/
structure RT where
  s : Bool
  a : ByteArray
  d : ByteArray
def RT.c (t : RT) : Array Value := #[.bool t.s, .string t.a, .string t.d]
def rt (q : Rat) : RT := ⟨decide (q.num < 0), S q.num.natAbs, S q.den⟩
/-- the three cells stand for the number q (0 where they are not good); g: whether they are good -/
def RawT (k : Nat) (q : Rat) (g : Bool) (t : RT) : Prop := RawQ k q g t.s t.a t.d
theorem RawT.rc {k : Nat} {q : Rat} (h : Rz k q) : RawT k q true (rt q) := RawQ.RC h
theorem RawT.rz {k : Nat} {q : Rat} {g : Bool} {t : RT} (h : RawT k q g t) : Rz k q := RawQ.rz h
theorem RawT.good {k : Nat} {q : Rat} {t : RT} (h : RawT k q true t) : t = rt q := by
  rcases RawQ.or h with ⟨_, h1⟩ | ⟨h1, _⟩
  · cases t
    obtain ⟨e1, e2, e3⟩ := h1
    dsimp only at e1 e2 e3
    unfold rt
    rw [e1, e2, e3]
  · cases h1
theorem RawT.bad {k : Nat} {q : Rat} {t : RT} (h : RawT k q false t) : q = 0 := by
  rcases RawQ.or h with ⟨h1, _⟩ | ⟨_, h1, _⟩
  · cases h1
  · exact h1
theorem RawT.any (t : RT) (k : Nat) (hk : 1 ≤ k) (ha : t.a.size ≤ k) (hd : t.d.size ≤ k) : ∃ q g, RawT k q g t := raw_any t.s t.a t.d k hk ha hd
theorem RawT.more {k l : Nat} {q : Rat} {g : Bool} {t : RT} (h : RawT k q g t) (hk : k ≤ l) : RawT l q g t := ⟨RawQ.or h, h.rz.more hk, Nat.le_trans (RawQ.sa h) hk, Nat.le_trans (RawQ.sd h) hk⟩
section
variable {W : World} {l : List Own} {k : Nat} {x y : Rat} {g1 g2 : Bool} {t1 t2 : RT}
theorem fit_w (hT : Tab W) (h1 : RawT k x g1 t1) (hk : k ≤ 4398046511104) (w : World) (h : St W l w) :
    Calls Tryd.prog 35 #[.agg t1.c] w fun e w' => e = .returned (.agg (RC x)) ∧ Below w.heap.size w w' := fit_raw w h1 (by omega) (tabS hT h)
theorem fit_c {s : Bool} {a d : ByteArray} (hT : Tab W) (h1 : RawT k x g1 t1) (hr : RIs x s a d) (hk : k ≤ 4398046511104) (w : World) (h : St W l w) :
    Calls Tryd.prog 35 #[.agg #[.bool t1.s, .string t1.a, .string t1.d]] w fun e w' => e = .returned (.agg #[.bool s, .string a, .string d]) ∧ Below w.heap.size w w' := by
  have := fit_raw (k := k) (q := x) (g := g1) (s := t1.s) (a := t1.a) (d := t1.d) w h1 (by omega) (tabS hT h)
  rwa [hr.val] at this
end
section
variable {W : World} {l : List Own} {k : Nat} {x y : Rat} {g1 g2 : Bool} {t1 t2 : RT}
set_option maxHeartbeats 4000000 in
set_option maxRecDepth 20000 in
theorem cmp_w {v : Int} (hT : Tab W) (h1 : RawT k x g1 t1) (h2 : RawT k y g2 t2) (hv : cmpQ x y = v) (hk : k ≤ 4398046511104) (w : World) (h : St W l w) :
    Calls Tryd.prog 9 #[.agg t1.c, .agg t2.c] w fun e w' => e = .returned (.int .i64 v) ∧ Below w.heap.size w w' := by
  subst hv
  have HT := Lib.hid (tabS hT h); clear hT h
  have H1 := Lib.hid h1; clear h1
  have H2 := Lib.hid h2; clear h2
  obtain ⟨s1, a1, d1, r1⟩ := R_parts x
  have R1 := Lib.hid r1; clear r1
  obtain ⟨s2, a2, d2, r2⟩ := R_parts y
  have R2 := Lib.hid r2; clear r2
  have HS1 := Lib.hid R1.out.s
  have HS2 := Lib.hid R2.out.s
  unfold RT.c
  cases s1 <;> cases s2
  · have hn1 := of_decide_eq_false HS1.out.symm
    have hn2 := of_decide_eq_false HS2.out.symm
    obtain ⟨cz, hcz⟩ : ∃ cz, cz = cmpZ (x.num.natAbs * y.den) (y.num.natAbs * x.den) := ⟨_, rfl⟩
    have HQ := Lib.hid (show cz = cmpQ x y from by rw [hcz]; exact cmpZ_mul x y (by omega) (by omega)); clear hn1 hn2
    have hcl : -1 ≤ cz ∧ cz ≤ 1 := by rw [hcz]; unfold cmpZ; split <;> (try split) <;> omega
    obtain ⟨l1, l2⟩ := hcl
    have HCZ := Lib.hid (show Ending.returned (.int .i64 (cmpZ (x.num.natAbs * y.den) (y.num.natAbs * x.den))) = .returned (.int .i64 cz) from by rw [hcz]); clear hcz
    go_enter Tryd.func9, Tryd.ntmps9
    have HS : St w [] w := St.start
    go_upto_region 0 with (fail)
    refine wp_seq_text [] (StR.no HS) ?_
    refine Seq.box rfl rfl rfl (v := .agg (#[.bool t1.s, .string t1.a, .string t1.d])) (cs := #[.bool t1.s, .string t1.a, .string t1.d]) rfl rfl ?_
    intro bk2 _ _ hbk2_r
    simp only [Act.put, nA, nB, nC]
    refine Seq.box rfl rfl rfl (v := .agg (#[.bool t2.s, .string t2.a, .string t2.d])) (cs := #[.bool t2.s, .string t2.a, .string t2.d]) rfl rfl ?_
    intro bk3 _ _ hbk3_r
    obtain ⟨ne_bk3_bk2, hbk3_r⟩ := Reg.ne_of_put hbk3_r
    have ne_bk2_bk3 := Ne.symm ne_bk3_bk2
    simp only [Act.put, nA, nB, nC]
    refine Seq.pure rfl rfl (by intro w; go_simp; try rfl) ?_
    simp only [Act.put, nA, nB, nC]
    refine Seq.done fun ws1 hws => ?_
    have HS1 : St w [(bk2, 23, #[.bool t1.s, .string t1.a, .string t1.d]), (bk3, 23, #[.bool t2.s, .string t2.a, .string t2.d])] ws1 := hws.list2 (by repeat (first | exact rS | refine rN (by assumption) ?_)) (by repeat (first | exact rS | refine rN (by assumption) ?_)) (by assumption)
    clear HS hws
    go_upto_region 1 with (fail)
    have HPbk3 : St w [(bk3, 23, #[.bool t2.s, .string t2.a, .string t2.d]), (bk2, 23, #[.bool t1.s, .string t1.a, .string t1.d])] _ := St.perm HS1 (List.perm_middle (l₁ := ([(bk2, 23, #[.bool t1.s, .string t1.a, .string t1.d])] : List Own)))
    have HPbk2 : St w [(bk2, 23, #[.bool t1.s, .string t1.a, .string t1.d]), (bk3, 23, #[.bool t2.s, .string t2.a, .string t2.d])] _ := St.perm HPbk3 (List.perm_middle (l₁ := ([(bk3, 23, #[.bool t2.s, .string t2.a, .string t2.d])] : List Own)))
    refine wp_seq [0, 4] (by kernel_rfl) (by kernel_rfl) (Reg.fin.put (Reg.fin.put Reg.fin_no _ _) _ _) (StR.move (StR.move (StR.no HPbk2))) ?_
    refine Seq.get rfl rfl rfl rfl (by repeat (first | exact rS | refine rN (by assumption) ?_)) (n := 3) rfl (by kernel_rfl) ?_
    simp only [Act.put, nA, nB, nC]
    refine Seq.call rfl rfl rfl rfl (by kernel_rfl) (fit_c HT.out H1.out R1.out (by omega)) ?_
    simp only [Act.put, nA, nB, nC]
    refine Seq.get rfl rfl rfl rfl (by repeat (first | exact rS | refine rN (by assumption) ?_)) (n := 3) rfl (by kernel_rfl) ?_
    simp only [Act.put, nA, nB, nC]
    refine Seq.call rfl rfl rfl rfl (by kernel_rfl) (fit_c HT.out H2.out R2.out (by omega)) ?_
    simp only [Act.put, nA, nB, nC]
    refine Seq.store rfl rfl rfl rfl rfl (by repeat (first | exact rS | refine rN (by assumption) ?_)) (n := 3) rfl rfl (by kernel_rfl) (by intro u hu; simp at hu; rcases hu with rfl | rfl | rfl <;> rfl) ?_
    simp only [Act.put, nA, nB, nC]
    refine Seq.store rfl rfl rfl rfl rfl (by repeat (first | exact rS | refine rN (by assumption) ?_)) (n := 3) rfl rfl (by kernel_rfl) (by intro u hu; simp at hu; rcases hu with rfl | rfl | rfl <;> rfl) ?_
    simp only [Act.put, nA, nB, nC]
    refine Seq.done fun ws2 hws => ?_
    have HS2 : St w [(bk2, 23, #[.bool false, .string a1, .string d1]), (bk3, 23, #[.bool false, .string a2, .string d2])] ws2 := hws.list2 (by repeat (first | exact rS | refine rN (by assumption) ?_)) (by repeat (first | exact rS | refine rN (by assumption) ?_)) (by assumption)
    clear HS1 hws HPbk3 HPbk2
    go_upto_region 2 with (fail)
    refine wp_seq_text [] (StR.no HS2) ?_
    refine Seq.pure rfl rfl (by intro w; go_simp; try rfl) ?_
    simp only [Act.put, nA, nB, nC]
    refine Seq.loadCell rfl rfl rfl rfl (by repeat (first | exact mC | apply mT)) (v := .bool false) rfl (by kernel_rfl) rfl ?_
    simp only [Act.put, nA, nB, nC]
    refine Seq.pure rfl rfl (by intro w; go_simp; try rfl) ?_
    simp only [Act.put, nA, nB, nC]
    refine Seq.loadCell rfl rfl rfl rfl (by repeat (first | exact mC | apply mT)) (v := .bool false) rfl (by kernel_rfl) rfl ?_
    simp only [Act.put, nA, nB, nC]
    refine Seq.pure rfl rfl (by intro w; go_simp; try rfl) ?_
    simp only [Act.put, nA, nB, nC]
    refine Seq.done fun ws3 hws => ?_
    have HS3 := hws.st
    clear HS2 hws
    go_upto_region 6 with (fail)
    refine wp_seq [] (by kernel_rfl) (by kernel_rfl) Reg.fin_no (StR.no HS3) ?_
    refine Seq.pure rfl rfl (by intro w; go_simp; try rfl) ?_
    simp only [Act.put, nA, nB, nC]
    refine Seq.loadCell rfl rfl rfl rfl (by repeat (first | exact mC | apply mT)) (v := .string a1) rfl (by kernel_rfl) rfl ?_
    simp only [Act.put, nA, nB, nC]
    refine Seq.pure rfl rfl (by intro w; go_simp; try rfl) ?_
    simp only [Act.put, nA, nB, nC]
    refine Seq.loadCell rfl rfl rfl rfl (by repeat (first | exact mC | apply mT)) (v := .string d2) rfl (by kernel_rfl) rfl ?_
    simp only [Act.put, nA, nB, nC]
    refine Seq.call rfl rfl rfl rfl (by kernel_rfl) (fun w h => mul_G x.num.natAbs y.den k w R1.out.a R2.out.d H1.out.rz.1 H2.out.rz.2 (by omega)) ?_
    simp only [Act.put, nA, nB, nC]
    refine Seq.pure rfl rfl (by intro w; go_simp; try rfl) ?_
    simp only [Act.put, nA, nB, nC]
    refine Seq.loadCell rfl rfl rfl rfl (by repeat (first | exact mC | apply mT)) (v := .string a2) rfl (by kernel_rfl) rfl ?_
    simp only [Act.put, nA, nB, nC]
    refine Seq.pure rfl rfl (by intro w; go_simp; try rfl) ?_
    simp only [Act.put, nA, nB, nC]
    refine Seq.loadCell rfl rfl rfl rfl (by repeat (first | exact mC | apply mT)) (v := .string d1) rfl (by kernel_rfl) rfl ?_
    simp only [Act.put, nA, nB, nC]
    refine Seq.call rfl rfl rfl rfl (by kernel_rfl) (fun w h => mul_G y.num.natAbs x.den k w R2.out.a R1.out.d H2.out.rz.1 H1.out.rz.2 (by omega)) ?_
    simp only [Act.put, nA, nB, nC]
    refine Seq.call rfl rfl rfl rfl (by kernel_rfl) (fun w h => (cmp_G _ _ k w (H1.out.rz.1.mul H2.out.rz.2) (H2.out.rz.1.mul H1.out.rz.2) (by omega)).mono (fun e w2 hh => ⟨hh.1.trans HCZ.out, hh.2 ▸ Below.refl _ _⟩)) ?_
    simp only [Act.put, nA, nB, nC]
    refine Seq.pure rfl rfl (by intro w; go_simp; try rfl) ?_
    simp only [Act.put, nA, nB, nC]
    refine Seq.done fun ws4 hws => ?_
    have HS4 := hws.st
    clear HS3 hws
    go_upto_region 7 with (fail)
    refine wp_seq_text [] (StR.no HS4) ?_
    refine Seq.pure rfl rfl (by intro w; go_simp; try rfl) ?_
    simp only [Act.put, nA, nB, nC]
    refine Seq.loadCell rfl rfl rfl rfl (by repeat (first | exact mC | apply mT)) (v := .bool false) rfl (by kernel_rfl) rfl ?_
    simp only [Act.put, nA, nB, nC]
    refine Seq.done fun ws5 hws => ?_
    have HS5 := hws.st
    clear HS4 hws
    go_upto_region 9 with (fail)
    refine wp_seq_text [] (StR.no HS5) ?_
    iterate 2 (refine Seq.pure rfl rfl (by intro w; go_simp; try rfl) ?_; simp only [Act.put, nA, nB, nC])
    refine Seq.done fun ws6 hws => ?_
    have HS6 := hws.st
    clear HS5 hws
    go_wp2_with fail
    go_ret
    exact ⟨by rw [← HQ.out]; first | rfl | exact congrArg (fun z => Ending.returned (Value.int .i64 z)) hwr, HS6.below⟩
  · have hn1 := of_decide_eq_false HS1.out.symm
    have hn2 := of_decide_eq_true HS2.out.symm
    have HQ := Lib.hid (cmpQ_pn x y (by omega) hn2); clear hn1 hn2
    go_enter Tryd.func9, Tryd.ntmps9
    have HS : St w [] w := St.start
    go_upto_region 0 with (fail)
    refine wp_seq_text [] (StR.no HS) ?_
    refine Seq.box rfl rfl rfl (v := .agg (#[.bool t1.s, .string t1.a, .string t1.d])) (cs := #[.bool t1.s, .string t1.a, .string t1.d]) rfl rfl ?_
    intro bk2 _ _ hbk2_r
    simp only [Act.put, nA, nB, nC]
    refine Seq.box rfl rfl rfl (v := .agg (#[.bool t2.s, .string t2.a, .string t2.d])) (cs := #[.bool t2.s, .string t2.a, .string t2.d]) rfl rfl ?_
    intro bk3 _ _ hbk3_r
    obtain ⟨ne_bk3_bk2, hbk3_r⟩ := Reg.ne_of_put hbk3_r
    have ne_bk2_bk3 := Ne.symm ne_bk3_bk2
    simp only [Act.put, nA, nB, nC]
    refine Seq.pure rfl rfl (by intro w; go_simp; try rfl) ?_
    simp only [Act.put, nA, nB, nC]
    refine Seq.done fun ws1 hws => ?_
    have HS1 : St w [(bk2, 23, #[.bool t1.s, .string t1.a, .string t1.d]), (bk3, 23, #[.bool t2.s, .string t2.a, .string t2.d])] ws1 := hws.list2 (by repeat (first | exact rS | refine rN (by assumption) ?_)) (by repeat (first | exact rS | refine rN (by assumption) ?_)) (by assumption)
    clear HS hws
    go_upto_region 1 with (fail)
    have HPbk3 : St w [(bk3, 23, #[.bool t2.s, .string t2.a, .string t2.d]), (bk2, 23, #[.bool t1.s, .string t1.a, .string t1.d])] _ := St.perm HS1 (List.perm_middle (l₁ := ([(bk2, 23, #[.bool t1.s, .string t1.a, .string t1.d])] : List Own)))
    have HPbk2 : St w [(bk2, 23, #[.bool t1.s, .string t1.a, .string t1.d]), (bk3, 23, #[.bool t2.s, .string t2.a, .string t2.d])] _ := St.perm HPbk3 (List.perm_middle (l₁ := ([(bk3, 23, #[.bool t2.s, .string t2.a, .string t2.d])] : List Own)))
    refine wp_seq [0, 4] (by kernel_rfl) (by kernel_rfl) (Reg.fin.put (Reg.fin.put Reg.fin_no _ _) _ _) (StR.move (StR.move (StR.no HPbk2))) ?_
    refine Seq.get rfl rfl rfl rfl (by repeat (first | exact rS | refine rN (by assumption) ?_)) (n := 3) rfl (by kernel_rfl) ?_
    simp only [Act.put, nA, nB, nC]
    refine Seq.call rfl rfl rfl rfl (by kernel_rfl) (fit_c HT.out H1.out R1.out (by omega)) ?_
    simp only [Act.put, nA, nB, nC]
    refine Seq.get rfl rfl rfl rfl (by repeat (first | exact rS | refine rN (by assumption) ?_)) (n := 3) rfl (by kernel_rfl) ?_
    simp only [Act.put, nA, nB, nC]
    refine Seq.call rfl rfl rfl rfl (by kernel_rfl) (fit_c HT.out H2.out R2.out (by omega)) ?_
    simp only [Act.put, nA, nB, nC]
    refine Seq.store rfl rfl rfl rfl rfl (by repeat (first | exact rS | refine rN (by assumption) ?_)) (n := 3) rfl rfl (by kernel_rfl) (by intro u hu; simp at hu; rcases hu with rfl | rfl | rfl <;> rfl) ?_
    simp only [Act.put, nA, nB, nC]
    refine Seq.store rfl rfl rfl rfl rfl (by repeat (first | exact rS | refine rN (by assumption) ?_)) (n := 3) rfl rfl (by kernel_rfl) (by intro u hu; simp at hu; rcases hu with rfl | rfl | rfl <;> rfl) ?_
    simp only [Act.put, nA, nB, nC]
    refine Seq.done fun ws2 hws => ?_
    have HS2 : St w [(bk2, 23, #[.bool false, .string a1, .string d1]), (bk3, 23, #[.bool true, .string a2, .string d2])] ws2 := hws.list2 (by repeat (first | exact rS | refine rN (by assumption) ?_)) (by repeat (first | exact rS | refine rN (by assumption) ?_)) (by assumption)
    clear HS1 hws HPbk3 HPbk2
    go_upto_region 2 with (fail)
    refine wp_seq_text [] (StR.no HS2) ?_
    refine Seq.pure rfl rfl (by intro w; go_simp; try rfl) ?_
    simp only [Act.put, nA, nB, nC]
    refine Seq.loadCell rfl rfl rfl rfl (by repeat (first | exact mC | apply mT)) (v := .bool false) rfl (by kernel_rfl) rfl ?_
    simp only [Act.put, nA, nB, nC]
    refine Seq.pure rfl rfl (by intro w; go_simp; try rfl) ?_
    simp only [Act.put, nA, nB, nC]
    refine Seq.loadCell rfl rfl rfl rfl (by repeat (first | exact mC | apply mT)) (v := .bool true) rfl (by kernel_rfl) rfl ?_
    simp only [Act.put, nA, nB, nC]
    refine Seq.pure rfl rfl (by intro w; go_simp; try rfl) ?_
    simp only [Act.put, nA, nB, nC]
    refine Seq.done fun ws3 hws => ?_
    have HS3 := hws.st
    clear HS2 hws
    go_upto_region 3 with (fail)
    refine wp_seq_text [] (StR.no HS3) ?_
    refine Seq.pure rfl rfl (by intro w; go_simp; try rfl) ?_
    simp only [Act.put, nA, nB, nC]
    refine Seq.loadCell rfl rfl rfl rfl (by repeat (first | exact mC | apply mT)) (v := .bool false) rfl (by kernel_rfl) rfl ?_
    simp only [Act.put, nA, nB, nC]
    refine Seq.done fun ws4 hws => ?_
    have HS4 := hws.st
    clear HS3 hws
    go_upto_region 5 with (fail)
    refine wp_seq_text [] (StR.no HS4) ?_
    refine Seq.pure rfl rfl (by intro w; go_simp; try rfl) ?_
    simp only [Act.put, nA, nB, nC]
    refine Seq.done fun ws5 hws => ?_
    have HS5 := hws.st
    clear HS4 hws
    go_wp2_with fail
    go_ret
    exact ⟨by rw [← HQ.out]; first | rfl | exact congrArg (fun z => Ending.returned (Value.int .i64 z)) hwr, HS5.below⟩
  · have hn1 := of_decide_eq_true HS1.out.symm
    have hn2 := of_decide_eq_false HS2.out.symm
    have HQ := Lib.hid (cmpQ_np x y hn1 (by omega)); clear hn1 hn2
    go_enter Tryd.func9, Tryd.ntmps9
    have HS : St w [] w := St.start
    go_upto_region 0 with (fail)
    refine wp_seq_text [] (StR.no HS) ?_
    refine Seq.box rfl rfl rfl (v := .agg (#[.bool t1.s, .string t1.a, .string t1.d])) (cs := #[.bool t1.s, .string t1.a, .string t1.d]) rfl rfl ?_
    intro bk2 _ _ hbk2_r
    simp only [Act.put, nA, nB, nC]
    refine Seq.box rfl rfl rfl (v := .agg (#[.bool t2.s, .string t2.a, .string t2.d])) (cs := #[.bool t2.s, .string t2.a, .string t2.d]) rfl rfl ?_
    intro bk3 _ _ hbk3_r
    obtain ⟨ne_bk3_bk2, hbk3_r⟩ := Reg.ne_of_put hbk3_r
    have ne_bk2_bk3 := Ne.symm ne_bk3_bk2
    simp only [Act.put, nA, nB, nC]
    refine Seq.pure rfl rfl (by intro w; go_simp; try rfl) ?_
    simp only [Act.put, nA, nB, nC]
    refine Seq.done fun ws1 hws => ?_
    have HS1 : St w [(bk2, 23, #[.bool t1.s, .string t1.a, .string t1.d]), (bk3, 23, #[.bool t2.s, .string t2.a, .string t2.d])] ws1 := hws.list2 (by repeat (first | exact rS | refine rN (by assumption) ?_)) (by repeat (first | exact rS | refine rN (by assumption) ?_)) (by assumption)
    clear HS hws
    go_upto_region 1 with (fail)
    have HPbk3 : St w [(bk3, 23, #[.bool t2.s, .string t2.a, .string t2.d]), (bk2, 23, #[.bool t1.s, .string t1.a, .string t1.d])] _ := St.perm HS1 (List.perm_middle (l₁ := ([(bk2, 23, #[.bool t1.s, .string t1.a, .string t1.d])] : List Own)))
    have HPbk2 : St w [(bk2, 23, #[.bool t1.s, .string t1.a, .string t1.d]), (bk3, 23, #[.bool t2.s, .string t2.a, .string t2.d])] _ := St.perm HPbk3 (List.perm_middle (l₁ := ([(bk3, 23, #[.bool t2.s, .string t2.a, .string t2.d])] : List Own)))
    refine wp_seq [0, 4] (by kernel_rfl) (by kernel_rfl) (Reg.fin.put (Reg.fin.put Reg.fin_no _ _) _ _) (StR.move (StR.move (StR.no HPbk2))) ?_
    refine Seq.get rfl rfl rfl rfl (by repeat (first | exact rS | refine rN (by assumption) ?_)) (n := 3) rfl (by kernel_rfl) ?_
    simp only [Act.put, nA, nB, nC]
    refine Seq.call rfl rfl rfl rfl (by kernel_rfl) (fit_c HT.out H1.out R1.out (by omega)) ?_
    simp only [Act.put, nA, nB, nC]
    refine Seq.get rfl rfl rfl rfl (by repeat (first | exact rS | refine rN (by assumption) ?_)) (n := 3) rfl (by kernel_rfl) ?_
    simp only [Act.put, nA, nB, nC]
    refine Seq.call rfl rfl rfl rfl (by kernel_rfl) (fit_c HT.out H2.out R2.out (by omega)) ?_
    simp only [Act.put, nA, nB, nC]
    refine Seq.store rfl rfl rfl rfl rfl (by repeat (first | exact rS | refine rN (by assumption) ?_)) (n := 3) rfl rfl (by kernel_rfl) (by intro u hu; simp at hu; rcases hu with rfl | rfl | rfl <;> rfl) ?_
    simp only [Act.put, nA, nB, nC]
    refine Seq.store rfl rfl rfl rfl rfl (by repeat (first | exact rS | refine rN (by assumption) ?_)) (n := 3) rfl rfl (by kernel_rfl) (by intro u hu; simp at hu; rcases hu with rfl | rfl | rfl <;> rfl) ?_
    simp only [Act.put, nA, nB, nC]
    refine Seq.done fun ws2 hws => ?_
    have HS2 : St w [(bk2, 23, #[.bool true, .string a1, .string d1]), (bk3, 23, #[.bool false, .string a2, .string d2])] ws2 := hws.list2 (by repeat (first | exact rS | refine rN (by assumption) ?_)) (by repeat (first | exact rS | refine rN (by assumption) ?_)) (by assumption)
    clear HS1 hws HPbk3 HPbk2
    go_upto_region 2 with (fail)
    refine wp_seq_text [] (StR.no HS2) ?_
    refine Seq.pure rfl rfl (by intro w; go_simp; try rfl) ?_
    simp only [Act.put, nA, nB, nC]
    refine Seq.loadCell rfl rfl rfl rfl (by repeat (first | exact mC | apply mT)) (v := .bool true) rfl (by kernel_rfl) rfl ?_
    simp only [Act.put, nA, nB, nC]
    refine Seq.pure rfl rfl (by intro w; go_simp; try rfl) ?_
    simp only [Act.put, nA, nB, nC]
    refine Seq.loadCell rfl rfl rfl rfl (by repeat (first | exact mC | apply mT)) (v := .bool false) rfl (by kernel_rfl) rfl ?_
    simp only [Act.put, nA, nB, nC]
    refine Seq.pure rfl rfl (by intro w; go_simp; try rfl) ?_
    simp only [Act.put, nA, nB, nC]
    refine Seq.done fun ws3 hws => ?_
    have HS3 := hws.st
    clear HS2 hws
    go_upto_region 3 with (fail)
    refine wp_seq_text [] (StR.no HS3) ?_
    refine Seq.pure rfl rfl (by intro w; go_simp; try rfl) ?_
    simp only [Act.put, nA, nB, nC]
    refine Seq.loadCell rfl rfl rfl rfl (by repeat (first | exact mC | apply mT)) (v := .bool true) rfl (by kernel_rfl) rfl ?_
    simp only [Act.put, nA, nB, nC]
    refine Seq.done fun ws4 hws => ?_
    have HS4 := hws.st
    clear HS3 hws
    go_upto_region 4 with (fail)
    refine wp_seq_text [] (StR.no HS4) ?_
    refine Seq.pure rfl rfl (by intro w; go_simp; try rfl) ?_
    simp only [Act.put, nA, nB, nC]
    refine Seq.done fun ws5 hws => ?_
    have HS5 := hws.st
    clear HS4 hws
    go_wp2_with fail
    go_ret
    exact ⟨by rw [← HQ.out]; first | rfl | exact congrArg (fun z => Ending.returned (Value.int .i64 z)) hwr, HS5.below⟩
  · have hn1 := of_decide_eq_true HS1.out.symm
    have hn2 := of_decide_eq_true HS2.out.symm
    obtain ⟨cz, hcz⟩ : ∃ cz, cz = cmpZ (x.num.natAbs * y.den) (y.num.natAbs * x.den) := ⟨_, rfl⟩
    have HQ := Lib.hid (show -cz = cmpQ x y from by rw [hcz]; exact cmpZ_neg x y hn1 hn2); clear hn1 hn2
    have hcl : -1 ≤ cz ∧ cz ≤ 1 := by rw [hcz]; unfold cmpZ; split <;> (try split) <;> omega
    obtain ⟨l1, l2⟩ := hcl
    have HCZ := Lib.hid (show Ending.returned (.int .i64 (cmpZ (x.num.natAbs * y.den) (y.num.natAbs * x.den))) = .returned (.int .i64 cz) from by rw [hcz]); clear hcz
    go_enter Tryd.func9, Tryd.ntmps9
    have HS : St w [] w := St.start
    go_upto_region 0 with (fail)
    refine wp_seq_text [] (StR.no HS) ?_
    refine Seq.box rfl rfl rfl (v := .agg (#[.bool t1.s, .string t1.a, .string t1.d])) (cs := #[.bool t1.s, .string t1.a, .string t1.d]) rfl rfl ?_
    intro bk2 _ _ hbk2_r
    simp only [Act.put, nA, nB, nC]
    refine Seq.box rfl rfl rfl (v := .agg (#[.bool t2.s, .string t2.a, .string t2.d])) (cs := #[.bool t2.s, .string t2.a, .string t2.d]) rfl rfl ?_
    intro bk3 _ _ hbk3_r
    obtain ⟨ne_bk3_bk2, hbk3_r⟩ := Reg.ne_of_put hbk3_r
    have ne_bk2_bk3 := Ne.symm ne_bk3_bk2
    simp only [Act.put, nA, nB, nC]
    refine Seq.pure rfl rfl (by intro w; go_simp; try rfl) ?_
    simp only [Act.put, nA, nB, nC]
    refine Seq.done fun ws1 hws => ?_
    have HS1 : St w [(bk2, 23, #[.bool t1.s, .string t1.a, .string t1.d]), (bk3, 23, #[.bool t2.s, .string t2.a, .string t2.d])] ws1 := hws.list2 (by repeat (first | exact rS | refine rN (by assumption) ?_)) (by repeat (first | exact rS | refine rN (by assumption) ?_)) (by assumption)
    clear HS hws
    go_upto_region 1 with (fail)
    have HPbk3 : St w [(bk3, 23, #[.bool t2.s, .string t2.a, .string t2.d]), (bk2, 23, #[.bool t1.s, .string t1.a, .string t1.d])] _ := St.perm HS1 (List.perm_middle (l₁ := ([(bk2, 23, #[.bool t1.s, .string t1.a, .string t1.d])] : List Own)))
    have HPbk2 : St w [(bk2, 23, #[.bool t1.s, .string t1.a, .string t1.d]), (bk3, 23, #[.bool t2.s, .string t2.a, .string t2.d])] _ := St.perm HPbk3 (List.perm_middle (l₁ := ([(bk3, 23, #[.bool t2.s, .string t2.a, .string t2.d])] : List Own)))
    refine wp_seq [0, 4] (by kernel_rfl) (by kernel_rfl) (Reg.fin.put (Reg.fin.put Reg.fin_no _ _) _ _) (StR.move (StR.move (StR.no HPbk2))) ?_
    refine Seq.get rfl rfl rfl rfl (by repeat (first | exact rS | refine rN (by assumption) ?_)) (n := 3) rfl (by kernel_rfl) ?_
    simp only [Act.put, nA, nB, nC]
    refine Seq.call rfl rfl rfl rfl (by kernel_rfl) (fit_c HT.out H1.out R1.out (by omega)) ?_
    simp only [Act.put, nA, nB, nC]
    refine Seq.get rfl rfl rfl rfl (by repeat (first | exact rS | refine rN (by assumption) ?_)) (n := 3) rfl (by kernel_rfl) ?_
    simp only [Act.put, nA, nB, nC]
    refine Seq.call rfl rfl rfl rfl (by kernel_rfl) (fit_c HT.out H2.out R2.out (by omega)) ?_
    simp only [Act.put, nA, nB, nC]
    refine Seq.store rfl rfl rfl rfl rfl (by repeat (first | exact rS | refine rN (by assumption) ?_)) (n := 3) rfl rfl (by kernel_rfl) (by intro u hu; simp at hu; rcases hu with rfl | rfl | rfl <;> rfl) ?_
    simp only [Act.put, nA, nB, nC]
    refine Seq.store rfl rfl rfl rfl rfl (by repeat (first | exact rS | refine rN (by assumption) ?_)) (n := 3) rfl rfl (by kernel_rfl) (by intro u hu; simp at hu; rcases hu with rfl | rfl | rfl <;> rfl) ?_
    simp only [Act.put, nA, nB, nC]
    refine Seq.done fun ws2 hws => ?_
    have HS2 : St w [(bk2, 23, #[.bool true, .string a1, .string d1]), (bk3, 23, #[.bool true, .string a2, .string d2])] ws2 := hws.list2 (by repeat (first | exact rS | refine rN (by assumption) ?_)) (by repeat (first | exact rS | refine rN (by assumption) ?_)) (by assumption)
    clear HS1 hws HPbk3 HPbk2
    go_upto_region 2 with (fail)
    refine wp_seq_text [] (StR.no HS2) ?_
    refine Seq.pure rfl rfl (by intro w; go_simp; try rfl) ?_
    simp only [Act.put, nA, nB, nC]
    refine Seq.loadCell rfl rfl rfl rfl (by repeat (first | exact mC | apply mT)) (v := .bool true) rfl (by kernel_rfl) rfl ?_
    simp only [Act.put, nA, nB, nC]
    refine Seq.pure rfl rfl (by intro w; go_simp; try rfl) ?_
    simp only [Act.put, nA, nB, nC]
    refine Seq.loadCell rfl rfl rfl rfl (by repeat (first | exact mC | apply mT)) (v := .bool true) rfl (by kernel_rfl) rfl ?_
    simp only [Act.put, nA, nB, nC]
    refine Seq.pure rfl rfl (by intro w; go_simp; try rfl) ?_
    simp only [Act.put, nA, nB, nC]
    refine Seq.done fun ws3 hws => ?_
    have HS3 := hws.st
    clear HS2 hws
    go_upto_region 6 with (fail)
    refine wp_seq [] (by kernel_rfl) (by kernel_rfl) Reg.fin_no (StR.no HS3) ?_
    refine Seq.pure rfl rfl (by intro w; go_simp; try rfl) ?_
    simp only [Act.put, nA, nB, nC]
    refine Seq.loadCell rfl rfl rfl rfl (by repeat (first | exact mC | apply mT)) (v := .string a1) rfl (by kernel_rfl) rfl ?_
    simp only [Act.put, nA, nB, nC]
    refine Seq.pure rfl rfl (by intro w; go_simp; try rfl) ?_
    simp only [Act.put, nA, nB, nC]
    refine Seq.loadCell rfl rfl rfl rfl (by repeat (first | exact mC | apply mT)) (v := .string d2) rfl (by kernel_rfl) rfl ?_
    simp only [Act.put, nA, nB, nC]
    refine Seq.call rfl rfl rfl rfl (by kernel_rfl) (fun w h => mul_G x.num.natAbs y.den k w R1.out.a R2.out.d H1.out.rz.1 H2.out.rz.2 (by omega)) ?_
    simp only [Act.put, nA, nB, nC]
    refine Seq.pure rfl rfl (by intro w; go_simp; try rfl) ?_
    simp only [Act.put, nA, nB, nC]
    refine Seq.loadCell rfl rfl rfl rfl (by repeat (first | exact mC | apply mT)) (v := .string a2) rfl (by kernel_rfl) rfl ?_
    simp only [Act.put, nA, nB, nC]
    refine Seq.pure rfl rfl (by intro w; go_simp; try rfl) ?_
    simp only [Act.put, nA, nB, nC]
    refine Seq.loadCell rfl rfl rfl rfl (by repeat (first | exact mC | apply mT)) (v := .string d1) rfl (by kernel_rfl) rfl ?_
    simp only [Act.put, nA, nB, nC]
    refine Seq.call rfl rfl rfl rfl (by kernel_rfl) (fun w h => mul_G y.num.natAbs x.den k w R2.out.a R1.out.d H2.out.rz.1 H1.out.rz.2 (by omega)) ?_
    simp only [Act.put, nA, nB, nC]
    refine Seq.call rfl rfl rfl rfl (by kernel_rfl) (fun w h => (cmp_G _ _ k w (H1.out.rz.1.mul H2.out.rz.2) (H2.out.rz.1.mul H1.out.rz.2) (by omega)).mono (fun e w2 hh => ⟨hh.1.trans HCZ.out, hh.2 ▸ Below.refl _ _⟩)) ?_
    simp only [Act.put, nA, nB, nC]
    refine Seq.pure rfl rfl (by intro w; go_simp; try rfl) ?_
    simp only [Act.put, nA, nB, nC]
    refine Seq.done fun ws4 hws => ?_
    have HS4 := hws.st
    clear HS3 hws
    go_upto_region 7 with (fail)
    refine wp_seq_text [] (StR.no HS4) ?_
    refine Seq.pure rfl rfl (by intro w; go_simp; try rfl) ?_
    simp only [Act.put, nA, nB, nC]
    refine Seq.loadCell rfl rfl rfl rfl (by repeat (first | exact mC | apply mT)) (v := .bool true) rfl (by kernel_rfl) rfl ?_
    simp only [Act.put, nA, nB, nC]
    refine Seq.done fun ws5 hws => ?_
    have HS5 := hws.st
    clear HS4 hws
    go_upto_region 8 with (fail)
    refine wp_seq_text [] (StR.no HS5) ?_
    iterate 3 (refine Seq.pure rfl rfl (by intro w; go_simp; try rfl) ?_; simp only [Act.put, nA, nB, nC])
    refine Seq.done fun ws6 hws => ?_
    have HS6 := hws.st
    clear HS5 hws
    have hwr : IntKind.i64.wrap (-cz) = -cz := IntWalk.i64_in _ (by omega)
    go_wp2_with fail
    go_ret
    exact ⟨by rw [← HQ.out]; first | rfl | exact congrArg (fun z => Ending.returned (Value.int .i64 z)) hwr, HS6.below⟩
end

section
variable {W : World} {l : List Own} {k : Nat} {x y : Rat} {g1 g2 : Bool} {t1 t2 : RT}
end

section
variable {W : World} {l : List Own} {k : Nat} {x y : Rat} {g1 g2 : Bool} {t1 t2 : RT}
set_option maxHeartbeats 4000000 in
set_option maxRecDepth 20000 in
theorem neg_w {z : Rat} (hT : Tab W) (h1 : RawT k x g1 t1) (hz : -x = z) (hk : k ≤ 4398046511104) (w : World) (h : St W l w) :
    Calls Tryd.prog 43 #[.agg t1.c] w fun e w' => e = .returned (.agg (RC z)) ∧ Below w.heap.size w w' := by
  subst hz
  have HT := Lib.hid (tabS hT h); clear hT h
  have H1 := Lib.hid h1; clear h1
  obtain ⟨s1, a1, d1, r1⟩ := R_parts x
  have R1 := Lib.hid r1; clear r1
  unfold RT.c
  rcases neg_parts R1.out with ⟨hn, rfl, he, h3⟩ | ⟨hn, rfl, he, h3⟩ | ⟨hn, rfl, he, h3⟩
  · have HE2 := Lib.hid (show ¬ a1.toList = [] from fun e => by rw [e] at he; cases he); clear he hn
    have HQ := Lib.hid h3; clear h3
    go_enter Tryd.func43, Tryd.ntmps43
    have HS : St w [] w := St.start
    go_upto_region 0 with (fail)
    refine wp_seq_text [] (StR.no HS) ?_
    refine Seq.box rfl rfl rfl (v := .agg (#[.bool t1.s, .string t1.a, .string t1.d])) (cs := #[.bool t1.s, .string t1.a, .string t1.d]) rfl rfl ?_
    intro bk1 _ _ hbk1_r
    simp only [Act.put, nA, nB, nC]
    refine Seq.alloc rfl rfl rfl (z := .agg (#[.bool false, .string ⟨#[]⟩, .string ⟨#[]⟩])) (by kernel_rfl) rfl ?_
    intro bk2 _ _ hbk2_r
    obtain ⟨ne_bk2_bk1, hbk2_r⟩ := Reg.ne_of_put hbk2_r
    have ne_bk1_bk2 := Ne.symm ne_bk2_bk1
    simp only [Act.put, nA, nB, nC]
    refine Seq.done fun ws1 hws => ?_
    have HS1 : St w [(bk1, 23, #[.bool t1.s, .string t1.a, .string t1.d]), (bk2, 23, #[.bool false, .string ⟨#[]⟩, .string ⟨#[]⟩])] ws1 := hws.list2 (by repeat (first | exact rS | refine rN (by assumption) ?_)) (by repeat (first | exact rS | refine rN (by assumption) ?_)) (by assumption)
    clear HS hws
    go_upto_region 1 with (fail)
    refine wp_seq_text [0] (StR.move (StR.no HS1)) ?_
    refine Seq.get rfl rfl rfl rfl (by repeat (first | exact rS | refine rN (by assumption) ?_)) (n := 3) rfl (by kernel_rfl) ?_
    simp only [Act.put, nA, nB, nC]
    refine Seq.call rfl rfl rfl rfl (by kernel_rfl) (fit_c HT.out H1.out R1.out (by omega)) ?_
    simp only [Act.put, nA, nB, nC]
    refine Seq.store rfl rfl rfl rfl rfl (by repeat (first | exact rS | refine rN (by assumption) ?_)) (n := 3) rfl rfl (by kernel_rfl) (by intro u hu; simp at hu; rcases hu with rfl | rfl | rfl <;> rfl) ?_
    simp only [Act.put, nA, nB, nC]
    refine Seq.done fun ws2 hws => ?_
    have HS2 : St w [(bk1, 23, #[.bool true, .string a1, .string d1]), (bk2, 23, #[.bool false, .string ⟨#[]⟩, .string ⟨#[]⟩])] ws2 := hws.list1 (by repeat (first | exact rS | refine rN (by assumption) ?_))
    clear HS1 hws
    go_upto_region 2 with (fail)
    refine wp_seq_text [2, 10] (StR.move (StR.no HS2)) ?_
    refine Seq.pure rfl rfl (by intro w; go_simp; try rfl) ?_
    simp only [Act.put, nA, nB, nC]
    refine Seq.getCell rfl rfl rfl rfl (by repeat (first | exact rS | refine rN (by assumption) ?_)) (v := .bool true) rfl (by kernel_rfl) rfl ?_
    simp only [Act.put, nA, nB, nC]
    iterate 2 (refine Seq.pure rfl rfl (by intro w; go_simp; try rfl) ?_; simp only [Act.put, nA, nB, nC])
    iterate 3 (refine Seq.nw rfl ?_; simp only [Act.put, nA, nB, nC])
    refine Seq.pure (v := .bool false) rfl rfl (by intro w; go_simp <;> (first | (rw [HE2.out]; done) | exact HE2.out | (simp [HE2.out]; done) | (trace_state; done))) ?_
    simp only [Act.put, nA, nB, nC]
    refine Seq.pure rfl rfl (by intro w; go_simp; try rfl) ?_
    simp only [Act.put, nA, nB, nC]
    refine Seq.storeAt (v := .bool false) rfl rfl rfl rfl rfl (by repeat (first | exact rS | refine rN (by assumption) ?_)) (Nat.le_of_ble_eq_true rfl) (by kernel_rfl) (by intro u hu; simp [Value.cells] at hu; subst hu; rfl) (cs' := #[.bool false, .string a1, .string d1]) rfl ?_
    simp only [Act.put, nA, nB, nC]
    refine Seq.done fun ws3 hws => ?_
    have HS3 : St w [(bk1, 23, #[.bool false, .string a1, .string d1]), (bk2, 23, #[.bool false, .string ⟨#[]⟩, .string ⟨#[]⟩])] ws3 := hws.list1 (by repeat (first | exact rS | refine rN (by assumption) ?_))
    clear HS2 hws
    go_upto_region 3 with (fail)
    have HPbk2 : St w [(bk2, 23, #[.bool false, .string ⟨#[]⟩, .string ⟨#[]⟩]), (bk1, 23, #[.bool false, .string a1, .string d1])] _ := St.perm HS3 (List.perm_middle (l₁ := ([(bk1, 23, #[.bool false, .string a1, .string d1])] : List Own)))
    refine wp_seq_text [] (StR.move (StR.no HPbk2)) ?_
    refine Seq.load rfl rfl rfl rfl (by repeat (first | exact mC | apply mT)) (n := 3) rfl (by kernel_rfl) ?_
    simp only [Act.put, nA, nB, nC]
    refine Seq.store rfl rfl rfl rfl rfl (by repeat (first | exact rS | refine rN (by assumption) ?_)) (n := 3) rfl rfl (by kernel_rfl) (by intro u hu; simp at hu; rcases hu with rfl | rfl | rfl <;> rfl) ?_
    simp only [Act.put, nA, nB, nC]
    refine Seq.done fun ws4 hws => ?_
    have HS4 : St w [(bk2, 23, #[.bool false, .string a1, .string d1]), (bk1, 23, #[.bool false, .string a1, .string d1])] ws4 := hws.list1 (by repeat (first | exact rS | refine rN (by assumption) ?_))
    clear HS3 hws HPbk2
    go_wp2_with fail
    exact ret_own rfl rfl rfl HS4 (by repeat (first | exact mC | apply mT)) (n := 3) rfl (by kernel_rfl) ⟨congrArg (fun c => Ending.returned (.agg c)) HQ.out.rc, HS4.below⟩
  · have HE2 := Lib.hid (show a1.toList = [] from List.isEmpty_iff.1 he); clear he hn
    have HQ := Lib.hid h3; clear h3
    go_enter Tryd.func43, Tryd.ntmps43
    have HS : St w [] w := St.start
    go_upto_region 0 with (fail)
    refine wp_seq_text [] (StR.no HS) ?_
    refine Seq.box rfl rfl rfl (v := .agg (#[.bool t1.s, .string t1.a, .string t1.d])) (cs := #[.bool t1.s, .string t1.a, .string t1.d]) rfl rfl ?_
    intro bk1 _ _ hbk1_r
    simp only [Act.put, nA, nB, nC]
    refine Seq.alloc rfl rfl rfl (z := .agg (#[.bool false, .string ⟨#[]⟩, .string ⟨#[]⟩])) (by kernel_rfl) rfl ?_
    intro bk2 _ _ hbk2_r
    obtain ⟨ne_bk2_bk1, hbk2_r⟩ := Reg.ne_of_put hbk2_r
    have ne_bk1_bk2 := Ne.symm ne_bk2_bk1
    simp only [Act.put, nA, nB, nC]
    refine Seq.done fun ws1 hws => ?_
    have HS1 : St w [(bk1, 23, #[.bool t1.s, .string t1.a, .string t1.d]), (bk2, 23, #[.bool false, .string ⟨#[]⟩, .string ⟨#[]⟩])] ws1 := hws.list2 (by repeat (first | exact rS | refine rN (by assumption) ?_)) (by repeat (first | exact rS | refine rN (by assumption) ?_)) (by assumption)
    clear HS hws
    go_upto_region 1 with (fail)
    refine wp_seq_text [0] (StR.move (StR.no HS1)) ?_
    refine Seq.get rfl rfl rfl rfl (by repeat (first | exact rS | refine rN (by assumption) ?_)) (n := 3) rfl (by kernel_rfl) ?_
    simp only [Act.put, nA, nB, nC]
    refine Seq.call rfl rfl rfl rfl (by kernel_rfl) (fit_c HT.out H1.out R1.out (by omega)) ?_
    simp only [Act.put, nA, nB, nC]
    refine Seq.store rfl rfl rfl rfl rfl (by repeat (first | exact rS | refine rN (by assumption) ?_)) (n := 3) rfl rfl (by kernel_rfl) (by intro u hu; simp at hu; rcases hu with rfl | rfl | rfl <;> rfl) ?_
    simp only [Act.put, nA, nB, nC]
    refine Seq.done fun ws2 hws => ?_
    have HS2 : St w [(bk1, 23, #[.bool false, .string a1, .string d1]), (bk2, 23, #[.bool false, .string ⟨#[]⟩, .string ⟨#[]⟩])] ws2 := hws.list1 (by repeat (first | exact rS | refine rN (by assumption) ?_))
    clear HS1 hws
    go_upto_region 2 with (fail)
    refine wp_seq_text [2, 10] (StR.move (StR.no HS2)) ?_
    refine Seq.pure rfl rfl (by intro w; go_simp; try rfl) ?_
    simp only [Act.put, nA, nB, nC]
    refine Seq.getCell rfl rfl rfl rfl (by repeat (first | exact rS | refine rN (by assumption) ?_)) (v := .bool false) rfl (by kernel_rfl) rfl ?_
    simp only [Act.put, nA, nB, nC]
    iterate 3 (refine Seq.pure rfl rfl (by intro w; go_simp; try rfl) ?_; simp only [Act.put, nA, nB, nC])
    refine Seq.getCell rfl rfl rfl rfl (by repeat (first | exact rS | refine rN (by assumption) ?_)) (v := .string a1) rfl (by kernel_rfl) rfl ?_
    simp only [Act.put, nA, nB, nC]
    refine Seq.pure (v := .bool false) rfl rfl (by intro w; go_simp <;> (first | (rw [HE2.out]; done) | exact HE2.out | (simp [HE2.out]; done) | (trace_state; done))) ?_
    simp only [Act.put, nA, nB, nC]
    refine Seq.pure (v := .bool false) rfl rfl (by intro w; go_simp <;> (first | (rw [HE2.out]; done) | exact HE2.out | (simp [HE2.out]; done) | (trace_state; done))) ?_
    simp only [Act.put, nA, nB, nC]
    refine Seq.pure rfl rfl (by intro w; go_simp; try rfl) ?_
    simp only [Act.put, nA, nB, nC]
    refine Seq.storeAt (v := .bool false) rfl rfl rfl rfl rfl (by repeat (first | exact rS | refine rN (by assumption) ?_)) (Nat.le_of_ble_eq_true rfl) (by kernel_rfl) (by intro u hu; simp [Value.cells] at hu; subst hu; rfl) (cs' := #[.bool false, .string a1, .string d1]) rfl ?_
    simp only [Act.put, nA, nB, nC]
    refine Seq.done fun ws3 hws => ?_
    have HS3 : St w [(bk1, 23, #[.bool false, .string a1, .string d1]), (bk2, 23, #[.bool false, .string ⟨#[]⟩, .string ⟨#[]⟩])] ws3 := hws.list1 (by repeat (first | exact rS | refine rN (by assumption) ?_))
    clear HS2 hws
    go_upto_region 3 with (fail)
    have HPbk2 : St w [(bk2, 23, #[.bool false, .string ⟨#[]⟩, .string ⟨#[]⟩]), (bk1, 23, #[.bool false, .string a1, .string d1])] _ := St.perm HS3 (List.perm_middle (l₁ := ([(bk1, 23, #[.bool false, .string a1, .string d1])] : List Own)))
    refine wp_seq_text [] (StR.move (StR.no HPbk2)) ?_
    refine Seq.load rfl rfl rfl rfl (by repeat (first | exact mC | apply mT)) (n := 3) rfl (by kernel_rfl) ?_
    simp only [Act.put, nA, nB, nC]
    refine Seq.store rfl rfl rfl rfl rfl (by repeat (first | exact rS | refine rN (by assumption) ?_)) (n := 3) rfl rfl (by kernel_rfl) (by intro u hu; simp at hu; rcases hu with rfl | rfl | rfl <;> rfl) ?_
    simp only [Act.put, nA, nB, nC]
    refine Seq.done fun ws4 hws => ?_
    have HS4 : St w [(bk2, 23, #[.bool false, .string a1, .string d1]), (bk1, 23, #[.bool false, .string a1, .string d1])] ws4 := hws.list1 (by repeat (first | exact rS | refine rN (by assumption) ?_))
    clear HS3 hws HPbk2
    go_wp2_with fail
    exact ret_own rfl rfl rfl HS4 (by repeat (first | exact mC | apply mT)) (n := 3) rfl (by kernel_rfl) ⟨congrArg (fun c => Ending.returned (.agg c)) HQ.out.rc, HS4.below⟩
  · have HE2 := Lib.hid (show ¬ a1.toList = [] from fun e => by rw [e] at he; cases he); clear he hn
    have HQ := Lib.hid h3; clear h3
    go_enter Tryd.func43, Tryd.ntmps43
    have HS : St w [] w := St.start
    go_upto_region 0 with (fail)
    refine wp_seq_text [] (StR.no HS) ?_
    refine Seq.box rfl rfl rfl (v := .agg (#[.bool t1.s, .string t1.a, .string t1.d])) (cs := #[.bool t1.s, .string t1.a, .string t1.d]) rfl rfl ?_
    intro bk1 _ _ hbk1_r
    simp only [Act.put, nA, nB, nC]
    refine Seq.alloc rfl rfl rfl (z := .agg (#[.bool false, .string ⟨#[]⟩, .string ⟨#[]⟩])) (by kernel_rfl) rfl ?_
    intro bk2 _ _ hbk2_r
    obtain ⟨ne_bk2_bk1, hbk2_r⟩ := Reg.ne_of_put hbk2_r
    have ne_bk1_bk2 := Ne.symm ne_bk2_bk1
    simp only [Act.put, nA, nB, nC]
    refine Seq.done fun ws1 hws => ?_
    have HS1 : St w [(bk1, 23, #[.bool t1.s, .string t1.a, .string t1.d]), (bk2, 23, #[.bool false, .string ⟨#[]⟩, .string ⟨#[]⟩])] ws1 := hws.list2 (by repeat (first | exact rS | refine rN (by assumption) ?_)) (by repeat (first | exact rS | refine rN (by assumption) ?_)) (by assumption)
    clear HS hws
    go_upto_region 1 with (fail)
    refine wp_seq_text [0] (StR.move (StR.no HS1)) ?_
    refine Seq.get rfl rfl rfl rfl (by repeat (first | exact rS | refine rN (by assumption) ?_)) (n := 3) rfl (by kernel_rfl) ?_
    simp only [Act.put, nA, nB, nC]
    refine Seq.call rfl rfl rfl rfl (by kernel_rfl) (fit_c HT.out H1.out R1.out (by omega)) ?_
    simp only [Act.put, nA, nB, nC]
    refine Seq.store rfl rfl rfl rfl rfl (by repeat (first | exact rS | refine rN (by assumption) ?_)) (n := 3) rfl rfl (by kernel_rfl) (by intro u hu; simp at hu; rcases hu with rfl | rfl | rfl <;> rfl) ?_
    simp only [Act.put, nA, nB, nC]
    refine Seq.done fun ws2 hws => ?_
    have HS2 : St w [(bk1, 23, #[.bool false, .string a1, .string d1]), (bk2, 23, #[.bool false, .string ⟨#[]⟩, .string ⟨#[]⟩])] ws2 := hws.list1 (by repeat (first | exact rS | refine rN (by assumption) ?_))
    clear HS1 hws
    go_upto_region 2 with (fail)
    refine wp_seq_text [2, 10] (StR.move (StR.no HS2)) ?_
    refine Seq.pure rfl rfl (by intro w; go_simp; try rfl) ?_
    simp only [Act.put, nA, nB, nC]
    refine Seq.getCell rfl rfl rfl rfl (by repeat (first | exact rS | refine rN (by assumption) ?_)) (v := .bool false) rfl (by kernel_rfl) rfl ?_
    simp only [Act.put, nA, nB, nC]
    iterate 3 (refine Seq.pure rfl rfl (by intro w; go_simp; try rfl) ?_; simp only [Act.put, nA, nB, nC])
    refine Seq.getCell rfl rfl rfl rfl (by repeat (first | exact rS | refine rN (by assumption) ?_)) (v := .string a1) rfl (by kernel_rfl) rfl ?_
    simp only [Act.put, nA, nB, nC]
    refine Seq.pure (v := .bool true) rfl rfl (by intro w; go_simp <;> (first | (rw [HE2.out]; done) | exact HE2.out | (simp [HE2.out]; done) | (trace_state; done))) ?_
    simp only [Act.put, nA, nB, nC]
    refine Seq.pure (v := .bool true) rfl rfl (by intro w; go_simp <;> (first | (rw [HE2.out]; done) | exact HE2.out | (simp [HE2.out]; done) | (trace_state; done))) ?_
    simp only [Act.put, nA, nB, nC]
    refine Seq.pure rfl rfl (by intro w; go_simp; try rfl) ?_
    simp only [Act.put, nA, nB, nC]
    refine Seq.storeAt (v := .bool true) rfl rfl rfl rfl rfl (by repeat (first | exact rS | refine rN (by assumption) ?_)) (Nat.le_of_ble_eq_true rfl) (by kernel_rfl) (by intro u hu; simp [Value.cells] at hu; subst hu; rfl) (cs' := #[.bool true, .string a1, .string d1]) rfl ?_
    simp only [Act.put, nA, nB, nC]
    refine Seq.done fun ws3 hws => ?_
    have HS3 : St w [(bk1, 23, #[.bool true, .string a1, .string d1]), (bk2, 23, #[.bool false, .string ⟨#[]⟩, .string ⟨#[]⟩])] ws3 := hws.list1 (by repeat (first | exact rS | refine rN (by assumption) ?_))
    clear HS2 hws
    go_upto_region 3 with (fail)
    have HPbk2 : St w [(bk2, 23, #[.bool false, .string ⟨#[]⟩, .string ⟨#[]⟩]), (bk1, 23, #[.bool true, .string a1, .string d1])] _ := St.perm HS3 (List.perm_middle (l₁ := ([(bk1, 23, #[.bool true, .string a1, .string d1])] : List Own)))
    refine wp_seq_text [] (StR.move (StR.no HPbk2)) ?_
    refine Seq.load rfl rfl rfl rfl (by repeat (first | exact mC | apply mT)) (n := 3) rfl (by kernel_rfl) ?_
    simp only [Act.put, nA, nB, nC]
    refine Seq.store rfl rfl rfl rfl rfl (by repeat (first | exact rS | refine rN (by assumption) ?_)) (n := 3) rfl rfl (by kernel_rfl) (by intro u hu; simp at hu; rcases hu with rfl | rfl | rfl <;> rfl) ?_
    simp only [Act.put, nA, nB, nC]
    refine Seq.done fun ws4 hws => ?_
    have HS4 : St w [(bk2, 23, #[.bool true, .string a1, .string d1]), (bk1, 23, #[.bool true, .string a1, .string d1])] ws4 := hws.list1 (by repeat (first | exact rS | refine rN (by assumption) ?_))
    clear HS3 hws HPbk2
    go_wp2_with fail
    exact ret_own rfl rfl rfl HS4 (by repeat (first | exact mC | apply mT)) (n := 3) rfl (by kernel_rfl) ⟨congrArg (fun c => Ending.returned (.agg c)) HQ.out.rc, HS4.below⟩
end
end Go.Proofs.YtoejojfjiikogaaDoor
