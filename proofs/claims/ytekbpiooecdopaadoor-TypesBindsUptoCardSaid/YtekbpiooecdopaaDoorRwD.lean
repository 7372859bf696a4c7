/- Joined texts: RwA RwB RwC RwD. -/
import Derived.Test.YtekbpiooecdopaaDoorSpQ
import Derived.Test.YtekbpiooecdopaaDoorRatZ
namespace Go.Proofs.YtekbpiooecdopaaDoor
universe u
open Go.RowKit
set_option linter.unusedVariables false
set_option linter.unusedSimpArgs false

/-- three cells -/
structure RT where
  s : Bool
  a : ByteArray
  d : ByteArray
def RT.c (t : RT) : Array Value := #[.bool t.s, .string t.a, .string t.d]
def rt (q : Rat) : RT := ⟨decide (q.num < 0), S q.num.natAbs, S q.den⟩
/-- the three cells stand for the number q (0 where they are not good); g: whether they are good -/
def RawT (k : Nat) (q : Rat) (g : Bool) (t : RT) : Prop := RawQ k q g t.s t.a t.d
theorem RawT.rc {k : Nat} {q : Rat} (h : Rz k q) : RawT k q true (rt q) := RawQ.RC h
theorem RawT.rz {k : Nat} {q : Rat} {g : Bool} {t : RT} (h : RawT k q g t) : Rz k q := RawQ.rz h
theorem RawT.good {k : Nat} {q : Rat} {t : RT} (h : RawT k q true t) : t = rt q := by
  rcases RawQ.or h with ⟨_, h1⟩ | ⟨h1, _⟩
  · cases t
    obtain ⟨e1, e2, e3⟩ := h1
    dsimp only at e1 e2 e3
    unfold rt
    rw [e1, e2, e3]
  · cases h1
theorem RawT.any (t : RT) (k : Nat) (hk : 1 ≤ k) (ha : t.a.size ≤ k) (hd : t.d.size ≤ k) : ∃ q g, RawT k q g t := raw_any t.s t.a t.d k hk ha hd
theorem RawT.more {k l : Nat} {q : Rat} {g : Bool} {t : RT} (h : RawT k q g t) (hk : k ≤ l) : RawT l q g t := ⟨RawQ.or h, h.rz.more hk, Nat.le_trans (RawQ.sa h) hk, Nat.le_trans (RawQ.sd h) hk⟩
section
variable {W : World} {l : List Own} {k : Nat} {x y : Rat} {g1 g2 : Bool} {t1 t2 : RT}
theorem good_w (hT : Tab W) (h1 : RawT k x g1 t1) (hk : k ≤ 4398046511104) (w : World) (h : St W l w) :
    Calls Tryd.prog 23 #[.agg t1.c] w fun e w' => e = .returned (.bool g1) ∧ Below w.heap.size w w' := good_raw w h1 (by omega) (tabS hT h)
theorem fit_c {s : Bool} {a d : ByteArray} (hT : Tab W) (h1 : RawT k x g1 t1) (hr : RIs x s a d) (hk : k ≤ 4398046511104) (w : World) (h : St W l w) :
    Calls Tryd.prog 19 #[.agg #[.bool t1.s, .string t1.a, .string t1.d]] w fun e w' => e = .returned (.agg #[.bool s, .string a, .string d]) ∧ Below w.heap.size w w' := by
  have := fit_raw (k := k) (q := x) (g := g1) (s := t1.s) (a := t1.a) (d := t1.d) w h1 (by omega) (tabS hT h)
  rwa [hr.val] at this
end
section
variable {W : World} {l : List Own} {k : Nat} {x y : Rat} {g1 g2 : Bool} {t1 t2 : RT}
set_option maxHeartbeats 4000000 in
set_option maxRecDepth 20000 in
theorem cmp_w {v : Int} (hT : Tab W) (h1 : RawT k x g1 t1) (h2 : RawT k y g2 t2) (hv : cmpQ x y = v) (hk : k ≤ 4398046511104) (w : World) (h : St W l w) :
    Calls Tryd.prog 13 #[.agg t1.c, .agg t2.c] w fun e w' => e = .returned (.int .i64 v) ∧ Below w.heap.size w w' := by
  subst hv
  have HT := Lib.hid (tabS hT h); clear hT h
  have H1 := Lib.hid h1; clear h1
  have H2 := Lib.hid h2; clear h2
  obtain ⟨s1, a1, d1, r1⟩ := R_parts x
  have R1 := Lib.hid r1; clear r1
  obtain ⟨s2, a2, d2, r2⟩ := R_parts y
  have R2 := Lib.hid r2; clear r2
  have HS1 := Lib.hid R1.out.s
  have HS2 := Lib.hid R2.out.s
  unfold RT.c
  cases s1 <;> cases s2
  · have hn1 := of_decide_eq_false HS1.out.symm
    have hn2 := of_decide_eq_false HS2.out.symm
    obtain ⟨cz, hcz⟩ : ∃ cz, cz = cmpZ (x.num.natAbs * y.den) (y.num.natAbs * x.den) := ⟨_, rfl⟩
    have HQ := Lib.hid (show cz = cmpQ x y from by rw [hcz]; exact cmpZ_mul x y (by omega) (by omega)); clear hn1 hn2
    have hcl : -1 ≤ cz ∧ cz ≤ 1 := by rw [hcz]; unfold cmpZ; split <;> (try split) <;> omega
    obtain ⟨l1, l2⟩ := hcl
    have HCZ := Lib.hid (show Ending.returned (.int .i64 (cmpZ (x.num.natAbs * y.den) (y.num.natAbs * x.den))) = .returned (.int .i64 cz) from by rw [hcz]); clear hcz
    go_enter Tryd.func13, Tryd.ntmps13
    have HS : St w [] w := St.start
    go_upto_region 0 with (fail)
    refine wp_seq_text [] (StR.no HS) ?_
    refine Seq.box rfl rfl rfl (v := .agg (#[.bool t1.s, .string t1.a, .string t1.d])) (cs := #[.bool t1.s, .string t1.a, .string t1.d]) rfl rfl ?_
    intro bk2 _ _ hbk2_r
    simp only [Act.put, nA, nB, nC]
    refine Seq.box rfl rfl rfl (v := .agg (#[.bool t2.s, .string t2.a, .string t2.d])) (cs := #[.bool t2.s, .string t2.a, .string t2.d]) rfl rfl ?_
    intro bk3 _ _ hbk3_r
    obtain ⟨ne_bk3_bk2, hbk3_r⟩ := Reg.ne_of_put hbk3_r
    have ne_bk2_bk3 := Ne.symm ne_bk3_bk2
    simp only [Act.put, nA, nB, nC]
    refine Seq.pure rfl rfl (by intro w; go_simp; try rfl) ?_
    simp only [Act.put, nA, nB, nC]
    refine Seq.done fun ws1 hws => ?_
    have HS1 : St w [(bk2, 28, #[.bool t1.s, .string t1.a, .string t1.d]), (bk3, 28, #[.bool t2.s, .string t2.a, .string t2.d])] ws1 := hws.list2 (by repeat (first | exact rS | refine rN (by assumption) ?_)) (by repeat (first | exact rS | refine rN (by assumption) ?_)) (by assumption)
    clear HS hws
    go_upto_region 1 with (fail)
    have HPbk3 : St w [(bk3, 28, #[.bool t2.s, .string t2.a, .string t2.d]), (bk2, 28, #[.bool t1.s, .string t1.a, .string t1.d])] _ := St.perm HS1 (List.perm_middle (l₁ := ([(bk2, 28, #[.bool t1.s, .string t1.a, .string t1.d])] : List Own)))
    have HPbk2 : St w [(bk2, 28, #[.bool t1.s, .string t1.a, .string t1.d]), (bk3, 28, #[.bool t2.s, .string t2.a, .string t2.d])] _ := St.perm HPbk3 (List.perm_middle (l₁ := ([(bk3, 28, #[.bool t2.s, .string t2.a, .string t2.d])] : List Own)))
    refine wp_seq [0, 4] (by kernel_rfl) (by kernel_rfl) (Reg.fin.put (Reg.fin.put Reg.fin_no _ _) _ _) (StR.move (StR.move (StR.no HPbk2))) ?_
    refine Seq.get rfl rfl rfl rfl (by repeat (first | exact rS | refine rN (by assumption) ?_)) (n := 3) rfl (by kernel_rfl) ?_
    simp only [Act.put, nA, nB, nC]
    refine Seq.call rfl rfl rfl rfl (by kernel_rfl) (fit_c HT.out H1.out R1.out (by omega)) ?_
    simp only [Act.put, nA, nB, nC]
    refine Seq.get rfl rfl rfl rfl (by repeat (first | exact rS | refine rN (by assumption) ?_)) (n := 3) rfl (by kernel_rfl) ?_
    simp only [Act.put, nA, nB, nC]
    refine Seq.call rfl rfl rfl rfl (by kernel_rfl) (fit_c HT.out H2.out R2.out (by omega)) ?_
    simp only [Act.put, nA, nB, nC]
    refine Seq.store rfl rfl rfl rfl rfl (by repeat (first | exact rS | refine rN (by assumption) ?_)) (n := 3) rfl rfl (by kernel_rfl) (by intro u hu; simp at hu; rcases hu with rfl | rfl | rfl <;> rfl) ?_
    simp only [Act.put, nA, nB, nC]
    refine Seq.store rfl rfl rfl rfl rfl (by repeat (first | exact rS | refine rN (by assumption) ?_)) (n := 3) rfl rfl (by kernel_rfl) (by intro u hu; simp at hu; rcases hu with rfl | rfl | rfl <;> rfl) ?_
    simp only [Act.put, nA, nB, nC]
    refine Seq.done fun ws2 hws => ?_
    have HS2 : St w [(bk2, 28, #[.bool false, .string a1, .string d1]), (bk3, 28, #[.bool false, .string a2, .string d2])] ws2 := hws.list2 (by repeat (first | exact rS | refine rN (by assumption) ?_)) (by repeat (first | exact rS | refine rN (by assumption) ?_)) (by assumption)
    clear HS1 hws HPbk3 HPbk2
    go_upto_region 2 with (fail)
    refine wp_seq_text [] (StR.no HS2) ?_
    refine Seq.pure rfl rfl (by intro w; go_simp; try rfl) ?_
    simp only [Act.put, nA, nB, nC]
    refine Seq.loadCell rfl rfl rfl rfl (by repeat (first | exact mC | apply mT)) (v := .bool false) rfl (by kernel_rfl) rfl ?_
    simp only [Act.put, nA, nB, nC]
    refine Seq.pure rfl rfl (by intro w; go_simp; try rfl) ?_
    simp only [Act.put, nA, nB, nC]
    refine Seq.loadCell rfl rfl rfl rfl (by repeat (first | exact mC | apply mT)) (v := .bool false) rfl (by kernel_rfl) rfl ?_
    simp only [Act.put, nA, nB, nC]
    refine Seq.pure rfl rfl (by intro w; go_simp; try rfl) ?_
    simp only [Act.put, nA, nB, nC]
    refine Seq.done fun ws3 hws => ?_
    have HS3 := hws.st
    clear HS2 hws
    go_upto_region 6 with (fail)
    refine wp_seq [] (by kernel_rfl) (by kernel_rfl) Reg.fin_no (StR.no HS3) ?_
    refine Seq.pure rfl rfl (by intro w; go_simp; try rfl) ?_
    simp only [Act.put, nA, nB, nC]
    refine Seq.loadCell rfl rfl rfl rfl (by repeat (first | exact mC | apply mT)) (v := .string a1) rfl (by kernel_rfl) rfl ?_
    simp only [Act.put, nA, nB, nC]
    refine Seq.pure rfl rfl (by intro w; go_simp; try rfl) ?_
    simp only [Act.put, nA, nB, nC]
    refine Seq.loadCell rfl rfl rfl rfl (by repeat (first | exact mC | apply mT)) (v := .string d2) rfl (by kernel_rfl) rfl ?_
    simp only [Act.put, nA, nB, nC]
    refine Seq.call rfl rfl rfl rfl (by kernel_rfl) (fun w h => mul_G x.num.natAbs y.den k w R1.out.a R2.out.d H1.out.rz.1 H2.out.rz.2 (by omega)) ?_
    simp only [Act.put, nA, nB, nC]
    refine Seq.pure rfl rfl (by intro w; go_simp; try rfl) ?_
    simp only [Act.put, nA, nB, nC]
    refine Seq.loadCell rfl rfl rfl rfl (by repeat (first | exact mC | apply mT)) (v := .string a2) rfl (by kernel_rfl) rfl ?_
    simp only [Act.put, nA, nB, nC]
    refine Seq.pure rfl rfl (by intro w; go_simp; try rfl) ?_
    simp only [Act.put, nA, nB, nC]
    refine Seq.loadCell rfl rfl rfl rfl (by repeat (first | exact mC | apply mT)) (v := .string d1) rfl (by kernel_rfl) rfl ?_
    simp only [Act.put, nA, nB, nC]
    refine Seq.call rfl rfl rfl rfl (by kernel_rfl) (fun w h => mul_G y.num.natAbs x.den k w R2.out.a R1.out.d H2.out.rz.1 H1.out.rz.2 (by omega)) ?_
    simp only [Act.put, nA, nB, nC]
    refine Seq.call rfl rfl rfl rfl (by kernel_rfl) (fun w h => (cmp_G _ _ k w (H1.out.rz.1.mul H2.out.rz.2) (H2.out.rz.1.mul H1.out.rz.2) (by omega)).mono (fun e w2 hh => ⟨hh.1.trans HCZ.out, hh.2 ▸ Below.refl _ _⟩)) ?_
    simp only [Act.put, nA, nB, nC]
    refine Seq.pure rfl rfl (by intro w; go_simp; try rfl) ?_
    simp only [Act.put, nA, nB, nC]
    refine Seq.done fun ws4 hws => ?_
    have HS4 := hws.st
    clear HS3 hws
    go_upto_region 7 with (fail)
    refine wp_seq_text [] (StR.no HS4) ?_
    refine Seq.pure rfl rfl (by intro w; go_simp; try rfl) ?_
    simp only [Act.put, nA, nB, nC]
    refine Seq.loadCell rfl rfl rfl rfl (by repeat (first | exact mC | apply mT)) (v := .bool false) rfl (by kernel_rfl) rfl ?_
    simp only [Act.put, nA, nB, nC]
    refine Seq.done fun ws5 hws => ?_
    have HS5 := hws.st
    clear HS4 hws
    go_upto_region 9 with (fail)
    refine wp_seq_text [] (StR.no HS5) ?_
    iterate 2 (refine Seq.pure rfl rfl (by intro w; go_simp; try rfl) ?_; simp only [Act.put, nA, nB, nC])
    refine Seq.done fun ws6 hws => ?_
    have HS6 := hws.st
    clear HS5 hws
    go_wp2_with fail
    go_ret
    exact ⟨by rw [← HQ.out]; first | rfl | exact congrArg (fun z => Ending.returned (Value.int .i64 z)) hwr, HS6.below⟩
  · have hn1 := of_decide_eq_false HS1.out.symm
    have hn2 := of_decide_eq_true HS2.out.symm
    have HQ := Lib.hid (cmpQ_pn x y (by omega) hn2); clear hn1 hn2
    go_enter Tryd.func13, Tryd.ntmps13
    have HS : St w [] w := St.start
    go_upto_region 0 with (fail)
    refine wp_seq_text [] (StR.no HS) ?_
    refine Seq.box rfl rfl rfl (v := .agg (#[.bool t1.s, .string t1.a, .string t1.d])) (cs := #[.bool t1.s, .string t1.a, .string t1.d]) rfl rfl ?_
    intro bk2 _ _ hbk2_r
    simp only [Act.put, nA, nB, nC]
    refine Seq.box rfl rfl rfl (v := .agg (#[.bool t2.s, .string t2.a, .string t2.d])) (cs := #[.bool t2.s, .string t2.a, .string t2.d]) rfl rfl ?_
    intro bk3 _ _ hbk3_r
    obtain ⟨ne_bk3_bk2, hbk3_r⟩ := Reg.ne_of_put hbk3_r
    have ne_bk2_bk3 := Ne.symm ne_bk3_bk2
    simp only [Act.put, nA, nB, nC]
    refine Seq.pure rfl rfl (by intro w; go_simp; try rfl) ?_
    simp only [Act.put, nA, nB, nC]
    refine Seq.done fun ws1 hws => ?_
    have HS1 : St w [(bk2, 28, #[.bool t1.s, .string t1.a, .string t1.d]), (bk3, 28, #[.bool t2.s, .string t2.a, .string t2.d])] ws1 := hws.list2 (by repeat (first | exact rS | refine rN (by assumption) ?_)) (by repeat (first | exact rS | refine rN (by assumption) ?_)) (by assumption)
    clear HS hws
    go_upto_region 1 with (fail)
    have HPbk3 : St w [(bk3, 28, #[.bool t2.s, .string t2.a, .string t2.d]), (bk2, 28, #[.bool t1.s, .string t1.a, .string t1.d])] _ := St.perm HS1 (List.perm_middle (l₁ := ([(bk2, 28, #[.bool t1.s, .string t1.a, .string t1.d])] : List Own)))
    have HPbk2 : St w [(bk2, 28, #[.bool t1.s, .string t1.a, .string t1.d]), (bk3, 28, #[.bool t2.s, .string t2.a, .string t2.d])] _ := St.perm HPbk3 (List.perm_middle (l₁ := ([(bk3, 28, #[.bool t2.s, .string t2.a, .string t2.d])] : List Own)))
    refine wp_seq [0, 4] (by kernel_rfl) (by kernel_rfl) (Reg.fin.put (Reg.fin.put Reg.fin_no _ _) _ _) (StR.move (StR.move (StR.no HPbk2))) ?_
    refine Seq.get rfl rfl rfl rfl (by repeat (first | exact rS | refine rN (by assumption) ?_)) (n := 3) rfl (by kernel_rfl) ?_
    simp only [Act.put, nA, nB, nC]
    refine Seq.call rfl rfl rfl rfl (by kernel_rfl) (fit_c HT.out H1.out R1.out (by omega)) ?_
    simp only [Act.put, nA, nB, nC]
    refine Seq.get rfl rfl rfl rfl (by repeat (first | exact rS | refine rN (by assumption) ?_)) (n := 3) rfl (by kernel_rfl) ?_
    simp only [Act.put, nA, nB, nC]
    refine Seq.call rfl rfl rfl rfl (by kernel_rfl) (fit_c HT.out H2.out R2.out (by omega)) ?_
    simp only [Act.put, nA, nB, nC]
    refine Seq.store rfl rfl rfl rfl rfl (by repeat (first | exact rS | refine rN (by assumption) ?_)) (n := 3) rfl rfl (by kernel_rfl) (by intro u hu; simp at hu; rcases hu with rfl | rfl | rfl <;> rfl) ?_
    simp only [Act.put, nA, nB, nC]
    refine Seq.store rfl rfl rfl rfl rfl (by repeat (first | exact rS | refine rN (by assumption) ?_)) (n := 3) rfl rfl (by kernel_rfl) (by intro u hu; simp at hu; rcases hu with rfl | rfl | rfl <;> rfl) ?_
    simp only [Act.put, nA, nB, nC]
    refine Seq.done fun ws2 hws => ?_
    have HS2 : St w [(bk2, 28, #[.bool false, .string a1, .string d1]), (bk3, 28, #[.bool true, .string a2, .string d2])] ws2 := hws.list2 (by repeat (first | exact rS | refine rN (by assumption) ?_)) (by repeat (first | exact rS | refine rN (by assumption) ?_)) (by assumption)
    clear HS1 hws HPbk3 HPbk2
    go_upto_region 2 with (fail)
    refine wp_seq_text [] (StR.no HS2) ?_
    refine Seq.pure rfl rfl (by intro w; go_simp; try rfl) ?_
    simp only [Act.put, nA, nB, nC]
    refine Seq.loadCell rfl rfl rfl rfl (by repeat (first | exact mC | apply mT)) (v := .bool false) rfl (by kernel_rfl) rfl ?_
    simp only [Act.put, nA, nB, nC]
    refine Seq.pure rfl rfl (by intro w; go_simp; try rfl) ?_
    simp only [Act.put, nA, nB, nC]
    refine Seq.loadCell rfl rfl rfl rfl (by repeat (first | exact mC | apply mT)) (v := .bool true) rfl (by kernel_rfl) rfl ?_
    simp only [Act.put, nA, nB, nC]
    refine Seq.pure rfl rfl (by intro w; go_simp; try rfl) ?_
    simp only [Act.put, nA, nB, nC]
    refine Seq.done fun ws3 hws => ?_
    have HS3 := hws.st
    clear HS2 hws
    go_upto_region 3 with (fail)
    refine wp_seq_text [] (StR.no HS3) ?_
    refine Seq.pure rfl rfl (by intro w; go_simp; try rfl) ?_
    simp only [Act.put, nA, nB, nC]
    refine Seq.loadCell rfl rfl rfl rfl (by repeat (first | exact mC | apply mT)) (v := .bool false) rfl (by kernel_rfl) rfl ?_
    simp only [Act.put, nA, nB, nC]
    refine Seq.done fun ws4 hws => ?_
    have HS4 := hws.st
    clear HS3 hws
    go_upto_region 5 with (fail)
    refine wp_seq_text [] (StR.no HS4) ?_
    refine Seq.pure rfl rfl (by intro w; go_simp; try rfl) ?_
    simp only [Act.put, nA, nB, nC]
    refine Seq.done fun ws5 hws => ?_
    have HS5 := hws.st
    clear HS4 hws
    go_wp2_with fail
    go_ret
    exact ⟨by rw [← HQ.out]; first | rfl | exact congrArg (fun z => Ending.returned (Value.int .i64 z)) hwr, HS5.below⟩
  · have hn1 := of_decide_eq_true HS1.out.symm
    have hn2 := of_decide_eq_false HS2.out.symm
    have HQ := Lib.hid (cmpQ_np x y hn1 (by omega)); clear hn1 hn2
    go_enter Tryd.func13, Tryd.ntmps13
    have HS : St w [] w := St.start
    go_upto_region 0 with (fail)
    refine wp_seq_text [] (StR.no HS) ?_
    refine Seq.box rfl rfl rfl (v := .agg (#[.bool t1.s, .string t1.a, .string t1.d])) (cs := #[.bool t1.s, .string t1.a, .string t1.d]) rfl rfl ?_
    intro bk2 _ _ hbk2_r
    simp only [Act.put, nA, nB, nC]
    refine Seq.box rfl rfl rfl (v := .agg (#[.bool t2.s, .string t2.a, .string t2.d])) (cs := #[.bool t2.s, .string t2.a, .string t2.d]) rfl rfl ?_
    intro bk3 _ _ hbk3_r
    obtain ⟨ne_bk3_bk2, hbk3_r⟩ := Reg.ne_of_put hbk3_r
    have ne_bk2_bk3 := Ne.symm ne_bk3_bk2
    simp only [Act.put, nA, nB, nC]
    refine Seq.pure rfl rfl (by intro w; go_simp; try rfl) ?_
    simp only [Act.put, nA, nB, nC]
    refine Seq.done fun ws1 hws => ?_
    have HS1 : St w [(bk2, 28, #[.bool t1.s, .string t1.a, .string t1.d]), (bk3, 28, #[.bool t2.s, .string t2.a, .string t2.d])] ws1 := hws.list2 (by repeat (first | exact rS | refine rN (by assumption) ?_)) (by repeat (first | exact rS | refine rN (by assumption) ?_)) (by assumption)
    clear HS hws
    go_upto_region 1 with (fail)
    have HPbk3 : St w [(bk3, 28, #[.bool t2.s, .string t2.a, .string t2.d]), (bk2, 28, #[.bool t1.s, .string t1.a, .string t1.d])] _ := St.perm HS1 (List.perm_middle (l₁ := ([(bk2, 28, #[.bool t1.s, .string t1.a, .string t1.d])] : List Own)))
    have HPbk2 : St w [(bk2, 28, #[.bool t1.s, .string t1.a, .string t1.d]), (bk3, 28, #[.bool t2.s, .string t2.a, .string t2.d])] _ := St.perm HPbk3 (List.perm_middle (l₁ := ([(bk3, 28, #[.bool t2.s, .string t2.a, .string t2.d])] : List Own)))
    refine wp_seq [0, 4] (by kernel_rfl) (by kernel_rfl) (Reg.fin.put (Reg.fin.put Reg.fin_no _ _) _ _) (StR.move (StR.move (StR.no HPbk2))) ?_
    refine Seq.get rfl rfl rfl rfl (by repeat (first | exact rS | refine rN (by assumption) ?_)) (n := 3) rfl (by kernel_rfl) ?_
    simp only [Act.put, nA, nB, nC]
    refine Seq.call rfl rfl rfl rfl (by kernel_rfl) (fit_c HT.out H1.out R1.out (by omega)) ?_
    simp only [Act.put, nA, nB, nC]
    refine Seq.get rfl rfl rfl rfl (by repeat (first | exact rS | refine rN (by assumption) ?_)) (n := 3) rfl (by kernel_rfl) ?_
    simp only [Act.put, nA, nB, nC]
    refine Seq.call rfl rfl rfl rfl (by kernel_rfl) (fit_c HT.out H2.out R2.out (by omega)) ?_
    simp only [Act.put, nA, nB, nC]
    refine Seq.store rfl rfl rfl rfl rfl (by repeat (first | exact rS | refine rN (by assumption) ?_)) (n := 3) rfl rfl (by kernel_rfl) (by intro u hu; simp at hu; rcases hu with rfl | rfl | rfl <;> rfl) ?_
    simp only [Act.put, nA, nB, nC]
    refine Seq.store rfl rfl rfl rfl rfl (by repeat (first | exact rS | refine rN (by assumption) ?_)) (n := 3) rfl rfl (by kernel_rfl) (by intro u hu; simp at hu; rcases hu with rfl | rfl | rfl <;> rfl) ?_
    simp only [Act.put, nA, nB, nC]
    refine Seq.done fun ws2 hws => ?_
    have HS2 : St w [(bk2, 28, #[.bool true, .string a1, .string d1]), (bk3, 28, #[.bool false, .string a2, .string d2])] ws2 := hws.list2 (by repeat (first | exact rS | refine rN (by assumption) ?_)) (by repeat (first | exact rS | refine rN (by assumption) ?_)) (by assumption)
    clear HS1 hws HPbk3 HPbk2
    go_upto_region 2 with (fail)
    refine wp_seq_text [] (StR.no HS2) ?_
    refine Seq.pure rfl rfl (by intro w; go_simp; try rfl) ?_
    simp only [Act.put, nA, nB, nC]
    refine Seq.loadCell rfl rfl rfl rfl (by repeat (first | exact mC | apply mT)) (v := .bool true) rfl (by kernel_rfl) rfl ?_
    simp only [Act.put, nA, nB, nC]
    refine Seq.pure rfl rfl (by intro w; go_simp; try rfl) ?_
    simp only [Act.put, nA, nB, nC]
    refine Seq.loadCell rfl rfl rfl rfl (by repeat (first | exact mC | apply mT)) (v := .bool false) rfl (by kernel_rfl) rfl ?_
    simp only [Act.put, nA, nB, nC]
    refine Seq.pure rfl rfl (by intro w; go_simp; try rfl) ?_
    simp only [Act.put, nA, nB, nC]
    refine Seq.done fun ws3 hws => ?_
    have HS3 := hws.st
    clear HS2 hws
    go_upto_region 3 with (fail)
    refine wp_seq_text [] (StR.no HS3) ?_
    refine Seq.pure rfl rfl (by intro w; go_simp; try rfl) ?_
    simp only [Act.put, nA, nB, nC]
    refine Seq.loadCell rfl rfl rfl rfl (by repeat (first | exact mC | apply mT)) (v := .bool true) rfl (by kernel_rfl) rfl ?_
    simp only [Act.put, nA, nB, nC]
    refine Seq.done fun ws4 hws => ?_
    have HS4 := hws.st
    clear HS3 hws
    go_upto_region 4 with (fail)
    refine wp_seq_text [] (StR.no HS4) ?_
    refine Seq.pure rfl rfl (by intro w; go_simp; try rfl) ?_
    simp only [Act.put, nA, nB, nC]
    refine Seq.done fun ws5 hws => ?_
    have HS5 := hws.st
    clear HS4 hws
    go_wp2_with fail
    go_ret
    exact ⟨by rw [← HQ.out]; first | rfl | exact congrArg (fun z => Ending.returned (Value.int .i64 z)) hwr, HS5.below⟩
  · have hn1 := of_decide_eq_true HS1.out.symm
    have hn2 := of_decide_eq_true HS2.out.symm
    obtain ⟨cz, hcz⟩ : ∃ cz, cz = cmpZ (x.num.natAbs * y.den) (y.num.natAbs * x.den) := ⟨_, rfl⟩
    have HQ := Lib.hid (show -cz = cmpQ x y from by rw [hcz]; exact cmpZ_neg x y hn1 hn2); clear hn1 hn2
    have hcl : -1 ≤ cz ∧ cz ≤ 1 := by rw [hcz]; unfold cmpZ; split <;> (try split) <;> omega
    obtain ⟨l1, l2⟩ := hcl
    have HCZ := Lib.hid (show Ending.returned (.int .i64 (cmpZ (x.num.natAbs * y.den) (y.num.natAbs * x.den))) = .returned (.int .i64 cz) from by rw [hcz]); clear hcz
    go_enter Tryd.func13, Tryd.ntmps13
    have HS : St w [] w := St.start
    go_upto_region 0 with (fail)
    refine wp_seq_text [] (StR.no HS) ?_
    refine Seq.box rfl rfl rfl (v := .agg (#[.bool t1.s, .string t1.a, .string t1.d])) (cs := #[.bool t1.s, .string t1.a, .string t1.d]) rfl rfl ?_
    intro bk2 _ _ hbk2_r
    simp only [Act.put, nA, nB, nC]
    refine Seq.box rfl rfl rfl (v := .agg (#[.bool t2.s, .string t2.a, .string t2.d])) (cs := #[.bool t2.s, .string t2.a, .string t2.d]) rfl rfl ?_
    intro bk3 _ _ hbk3_r
    obtain ⟨ne_bk3_bk2, hbk3_r⟩ := Reg.ne_of_put hbk3_r
    have ne_bk2_bk3 := Ne.symm ne_bk3_bk2
    simp only [Act.put, nA, nB, nC]
    refine Seq.pure rfl rfl (by intro w; go_simp; try rfl) ?_
    simp only [Act.put, nA, nB, nC]
    refine Seq.done fun ws1 hws => ?_
    have HS1 : St w [(bk2, 28, #[.bool t1.s, .string t1.a, .string t1.d]), (bk3, 28, #[.bool t2.s, .string t2.a, .string t2.d])] ws1 := hws.list2 (by repeat (first | exact rS | refine rN (by assumption) ?_)) (by repeat (first | exact rS | refine rN (by assumption) ?_)) (by assumption)
    clear HS hws
    go_upto_region 1 with (fail)
    have HPbk3 : St w [(bk3, 28, #[.bool t2.s, .string t2.a, .string t2.d]), (bk2, 28, #[.bool t1.s, .string t1.a, .string t1.d])] _ := St.perm HS1 (List.perm_middle (l₁ := ([(bk2, 28, #[.bool t1.s, .string t1.a, .string t1.d])] : List Own)))
    have HPbk2 : St w [(bk2, 28, #[.bool t1.s, .string t1.a, .string t1.d]), (bk3, 28, #[.bool t2.s, .string t2.a, .string t2.d])] _ := St.perm HPbk3 (List.perm_middle (l₁ := ([(bk3, 28, #[.bool t2.s, .string t2.a, .string t2.d])] : List Own)))
    refine wp_seq [0, 4] (by kernel_rfl) (by kernel_rfl) (Reg.fin.put (Reg.fin.put Reg.fin_no _ _) _ _) (StR.move (StR.move (StR.no HPbk2))) ?_
    refine Seq.get rfl rfl rfl rfl (by repeat (first | exact rS | refine rN (by assumption) ?_)) (n := 3) rfl (by kernel_rfl) ?_
    simp only [Act.put, nA, nB, nC]
    refine Seq.call rfl rfl rfl rfl (by kernel_rfl) (fit_c HT.out H1.out R1.out (by omega)) ?_
    simp only [Act.put, nA, nB, nC]
    refine Seq.get rfl rfl rfl rfl (by repeat (first | exact rS | refine rN (by assumption) ?_)) (n := 3) rfl (by kernel_rfl) ?_
    simp only [Act.put, nA, nB, nC]
    refine Seq.call rfl rfl rfl rfl (by kernel_rfl) (fit_c HT.out H2.out R2.out (by omega)) ?_
    simp only [Act.put, nA, nB, nC]
    refine Seq.store rfl rfl rfl rfl rfl (by repeat (first | exact rS | refine rN (by assumption) ?_)) (n := 3) rfl rfl (by kernel_rfl) (by intro u hu; simp at hu; rcases hu with rfl | rfl | rfl <;> rfl) ?_
    simp only [Act.put, nA, nB, nC]
    refine Seq.store rfl rfl rfl rfl rfl (by repeat (first | exact rS | refine rN (by assumption) ?_)) (n := 3) rfl rfl (by kernel_rfl) (by intro u hu; simp at hu; rcases hu with rfl | rfl | rfl <;> rfl) ?_
    simp only [Act.put, nA, nB, nC]
    refine Seq.done fun ws2 hws => ?_
    have HS2 : St w [(bk2, 28, #[.bool true, .string a1, .string d1]), (bk3, 28, #[.bool true, .string a2, .string d2])] ws2 := hws.list2 (by repeat (first | exact rS | refine rN (by assumption) ?_)) (by repeat (first | exact rS | refine rN (by assumption) ?_)) (by assumption)
    clear HS1 hws HPbk3 HPbk2
    go_upto_region 2 with (fail)
    refine wp_seq_text [] (StR.no HS2) ?_
    refine Seq.pure rfl rfl (by intro w; go_simp; try rfl) ?_
    simp only [Act.put, nA, nB, nC]
    refine Seq.loadCell rfl rfl rfl rfl (by repeat (first | exact mC | apply mT)) (v := .bool true) rfl (by kernel_rfl) rfl ?_
    simp only [Act.put, nA, nB, nC]
    refine Seq.pure rfl rfl (by intro w; go_simp; try rfl) ?_
    simp only [Act.put, nA, nB, nC]
    refine Seq.loadCell rfl rfl rfl rfl (by repeat (first | exact mC | apply mT)) (v := .bool true) rfl (by kernel_rfl) rfl ?_
    simp only [Act.put, nA, nB, nC]
    refine Seq.pure rfl rfl (by intro w; go_simp; try rfl) ?_
    simp only [Act.put, nA, nB, nC]
    refine Seq.done fun ws3 hws => ?_
    have HS3 := hws.st
    clear HS2 hws
    go_upto_region 6 with (fail)
    refine wp_seq [] (by kernel_rfl) (by kernel_rfl) Reg.fin_no (StR.no HS3) ?_
    refine Seq.pure rfl rfl (by intro w; go_simp; try rfl) ?_
    simp only [Act.put, nA, nB, nC]
    refine Seq.loadCell rfl rfl rfl rfl (by repeat (first | exact mC | apply mT)) (v := .string a1) rfl (by kernel_rfl) rfl ?_
    simp only [Act.put, nA, nB, nC]
    refine Seq.pure rfl rfl (by intro w; go_simp; try rfl) ?_
    simp only [Act.put, nA, nB, nC]
    refine Seq.loadCell rfl rfl rfl rfl (by repeat (first | exact mC | apply mT)) (v := .string d2) rfl (by kernel_rfl) rfl ?_
    simp only [Act.put, nA, nB, nC]
    refine Seq.call rfl rfl rfl rfl (by kernel_rfl) (fun w h => mul_G x.num.natAbs y.den k w R1.out.a R2.out.d H1.out.rz.1 H2.out.rz.2 (by omega)) ?_
    simp only [Act.put, nA, nB, nC]
    refine Seq.pure rfl rfl (by intro w; go_simp; try rfl) ?_
    simp only [Act.put, nA, nB, nC]
    refine Seq.loadCell rfl rfl rfl rfl (by repeat (first | exact mC | apply mT)) (v := .string a2) rfl (by kernel_rfl) rfl ?_
    simp only [Act.put, nA, nB, nC]
    refine Seq.pure rfl rfl (by intro w; go_simp; try rfl) ?_
    simp only [Act.put, nA, nB, nC]
    refine Seq.loadCell rfl rfl rfl rfl (by repeat (first | exact mC | apply mT)) (v := .string d1) rfl (by kernel_rfl) rfl ?_
    simp only [Act.put, nA, nB, nC]
    refine Seq.call rfl rfl rfl rfl (by kernel_rfl) (fun w h => mul_G y.num.natAbs x.den k w R2.out.a R1.out.d H2.out.rz.1 H1.out.rz.2 (by omega)) ?_
    simp only [Act.put, nA, nB, nC]
    refine Seq.call rfl rfl rfl rfl (by kernel_rfl) (fun w h => (cmp_G _ _ k w (H1.out.rz.1.mul H2.out.rz.2) (H2.out.rz.1.mul H1.out.rz.2) (by omega)).mono (fun e w2 hh => ⟨hh.1.trans HCZ.out, hh.2 ▸ Below.refl _ _⟩)) ?_
    simp only [Act.put, nA, nB, nC]
    refine Seq.pure rfl rfl (by intro w; go_simp; try rfl) ?_
    simp only [Act.put, nA, nB, nC]
    refine Seq.done fun ws4 hws => ?_
    have HS4 := hws.st
    clear HS3 hws
    go_upto_region 7 with (fail)
    refine wp_seq_text [] (StR.no HS4) ?_
    refine Seq.pure rfl rfl (by intro w; go_simp; try rfl) ?_
    simp only [Act.put, nA, nB, nC]
    refine Seq.loadCell rfl rfl rfl rfl (by repeat (first | exact mC | apply mT)) (v := .bool true) rfl (by kernel_rfl) rfl ?_
    simp only [Act.put, nA, nB, nC]
    refine Seq.done fun ws5 hws => ?_
    have HS5 := hws.st
    clear HS4 hws
    go_upto_region 8 with (fail)
    refine wp_seq_text [] (StR.no HS5) ?_
    iterate 3 (refine Seq.pure rfl rfl (by intro w; go_simp; try rfl) ?_; simp only [Act.put, nA, nB, nC])
    refine Seq.done fun ws6 hws => ?_
    have HS6 := hws.st
    clear HS5 hws
    have hwr : IntKind.i64.wrap (-cz) = -cz := IntWalk.i64_in _ (by omega)
    go_wp2_with fail
    go_ret
    exact ⟨by rw [← HQ.out]; first | rfl | exact congrArg (fun z => Ending.returned (Value.int .i64 z)) hwr, HS6.below⟩
end

section
variable {W : World} {l : List Own} {k : Nat} {x y : Rat} {g1 g2 : Bool} {t1 t2 : RT}
set_option maxHeartbeats 4000000 in
set_option maxRecDepth 20000 in
theorem sign_w {v : Int} (hT : Tab W) (h1 : RawT k x g1 t1) (hv : sgnQ x = v) (hk : k ≤ 4398046511104) (w : World) (h : St W l w) :
    Calls Tryd.prog 15 #[.agg t1.c] w fun e w' => e = .returned (.int .i64 v) ∧ Below w.heap.size w w' := by
  subst hv
  have HT := Lib.hid (tabS hT h); clear hT h
  have H1 := Lib.hid h1; clear h1
  obtain ⟨s1, a1, d1, r1⟩ := R_parts x
  have R1 := Lib.hid r1; clear r1
  unfold RT.c
  rcases sgn_parts R1.out with ⟨hn, rfl, he, h3⟩ | ⟨hn, rfl, he, h3⟩ | ⟨hn, rfl, he, h3⟩
  · have HE2 := Lib.hid (show ¬ a1.toList = [] from fun e => by rw [e] at he; cases he); clear he hn
    have HQ := Lib.hid h3; clear h3
    go_enter Tryd.func15, Tryd.ntmps15
    have HS : St w [] w := St.start
    go_upto_region 0 with (fail)
    refine wp_seq_text [] (StR.no HS) ?_
    refine Seq.box rfl rfl rfl (v := .agg (#[.bool t1.s, .string t1.a, .string t1.d])) (cs := #[.bool t1.s, .string t1.a, .string t1.d]) rfl rfl ?_
    intro bk1 _ _ hbk1_r
    simp only [Act.put, nA, nB, nC]
    refine Seq.pure rfl rfl (by intro w; go_simp; try rfl) ?_
    simp only [Act.put, nA, nB, nC]
    refine Seq.done fun ws1 hws => ?_
    have HS1 : St w [(bk1, 28, #[.bool t1.s, .string t1.a, .string t1.d])] ws1 := hws.list1 (by repeat (first | exact rS | refine rN (by assumption) ?_))
    clear HS hws
    go_upto_region 1 with (fail)
    refine wp_seq_text [0] (StR.move (StR.no HS1)) ?_
    refine Seq.get rfl rfl rfl rfl (by repeat (first | exact rS | refine rN (by assumption) ?_)) (n := 3) rfl (by kernel_rfl) ?_
    simp only [Act.put, nA, nB, nC]
    refine Seq.call rfl rfl rfl rfl (by kernel_rfl) (fit_c HT.out H1.out R1.out (by omega)) ?_
    simp only [Act.put, nA, nB, nC]
    refine Seq.store rfl rfl rfl rfl rfl (by repeat (first | exact rS | refine rN (by assumption) ?_)) (n := 3) rfl rfl (by kernel_rfl) (by intro u hu; simp at hu; rcases hu with rfl | rfl | rfl <;> rfl) ?_
    simp only [Act.put, nA, nB, nC]
    refine Seq.done fun ws2 hws => ?_
    have HS2 : St w [(bk1, 28, #[.bool true, .string a1, .string d1])] ws2 := hws.list1 (by repeat (first | exact rS | refine rN (by assumption) ?_))
    clear HS1 hws
    go_upto_region 2 with (fail)
    refine wp_seq_text [] (StR.no HS2) ?_
    refine Seq.pure rfl rfl (by intro w; go_simp; try rfl) ?_
    simp only [Act.put, nA, nB, nC]
    refine Seq.loadCell rfl rfl rfl rfl (by repeat (first | exact mC | apply mT)) (v := .string a1) rfl (by kernel_rfl) rfl ?_
    simp only [Act.put, nA, nB, nC]
    refine Seq.pure (v := .bool false) rfl rfl (by intro w; go_simp <;> (first | (rw [HE2.out]; done) | exact HE2.out | (simp [HE2.out]; done) | (trace_state; done))) ?_
    simp only [Act.put, nA, nB, nC]
    refine Seq.pure rfl rfl (by intro w; go_simp; try rfl) ?_
    simp only [Act.put, nA, nB, nC]
    refine Seq.done fun ws3 hws => ?_
    have HS3 := hws.st
    clear HS2 hws
    go_upto_region 4 with (fail)
    refine wp_seq_text [] (StR.no HS3) ?_
    refine Seq.pure rfl rfl (by intro w; go_simp; try rfl) ?_
    simp only [Act.put, nA, nB, nC]
    refine Seq.loadCell rfl rfl rfl rfl (by repeat (first | exact mC | apply mT)) (v := .bool true) rfl (by kernel_rfl) rfl ?_
    simp only [Act.put, nA, nB, nC]
    refine Seq.pure rfl rfl (by intro w; go_simp; try rfl) ?_
    simp only [Act.put, nA, nB, nC]
    refine Seq.done fun ws4 hws => ?_
    have HS4 := hws.st
    clear HS3 hws
    go_upto_region 5 with (fail)
    refine wp_seq_text [] (StR.no HS4) ?_
    refine Seq.pure rfl rfl (by intro w; go_simp; try rfl) ?_
    simp only [Act.put, nA, nB, nC]
    refine Seq.done fun ws5 hws => ?_
    have HS5 := hws.st
    clear HS4 hws
    go_wp2_with fail
    go_ret
    exact ⟨by rw [HQ.out]; rfl, HS5.below⟩
  · have HE2 := Lib.hid (show a1.toList = [] from List.isEmpty_iff.1 he); clear he hn
    have HQ := Lib.hid h3; clear h3
    go_enter Tryd.func15, Tryd.ntmps15
    have HS : St w [] w := St.start
    go_upto_region 0 with (fail)
    refine wp_seq_text [] (StR.no HS) ?_
    refine Seq.box rfl rfl rfl (v := .agg (#[.bool t1.s, .string t1.a, .string t1.d])) (cs := #[.bool t1.s, .string t1.a, .string t1.d]) rfl rfl ?_
    intro bk1 _ _ hbk1_r
    simp only [Act.put, nA, nB, nC]
    refine Seq.pure rfl rfl (by intro w; go_simp; try rfl) ?_
    simp only [Act.put, nA, nB, nC]
    refine Seq.done fun ws1 hws => ?_
    have HS1 : St w [(bk1, 28, #[.bool t1.s, .string t1.a, .string t1.d])] ws1 := hws.list1 (by repeat (first | exact rS | refine rN (by assumption) ?_))
    clear HS hws
    go_upto_region 1 with (fail)
    refine wp_seq_text [0] (StR.move (StR.no HS1)) ?_
    refine Seq.get rfl rfl rfl rfl (by repeat (first | exact rS | refine rN (by assumption) ?_)) (n := 3) rfl (by kernel_rfl) ?_
    simp only [Act.put, nA, nB, nC]
    refine Seq.call rfl rfl rfl rfl (by kernel_rfl) (fit_c HT.out H1.out R1.out (by omega)) ?_
    simp only [Act.put, nA, nB, nC]
    refine Seq.store rfl rfl rfl rfl rfl (by repeat (first | exact rS | refine rN (by assumption) ?_)) (n := 3) rfl rfl (by kernel_rfl) (by intro u hu; simp at hu; rcases hu with rfl | rfl | rfl <;> rfl) ?_
    simp only [Act.put, nA, nB, nC]
    refine Seq.done fun ws2 hws => ?_
    have HS2 : St w [(bk1, 28, #[.bool false, .string a1, .string d1])] ws2 := hws.list1 (by repeat (first | exact rS | refine rN (by assumption) ?_))
    clear HS1 hws
    go_upto_region 2 with (fail)
    refine wp_seq_text [] (StR.no HS2) ?_
    refine Seq.pure rfl rfl (by intro w; go_simp; try rfl) ?_
    simp only [Act.put, nA, nB, nC]
    refine Seq.loadCell rfl rfl rfl rfl (by repeat (first | exact mC | apply mT)) (v := .string a1) rfl (by kernel_rfl) rfl ?_
    simp only [Act.put, nA, nB, nC]
    refine Seq.pure (v := .bool true) rfl rfl (by intro w; go_simp <;> (first | (rw [HE2.out]; done) | exact HE2.out | (simp [HE2.out]; done) | (trace_state; done))) ?_
    simp only [Act.put, nA, nB, nC]
    refine Seq.pure rfl rfl (by intro w; go_simp; try rfl) ?_
    simp only [Act.put, nA, nB, nC]
    refine Seq.done fun ws3 hws => ?_
    have HS3 := hws.st
    clear HS2 hws
    go_upto_region 3 with (fail)
    refine wp_seq_text [] (StR.no HS3) ?_
    refine Seq.pure rfl rfl (by intro w; go_simp; try rfl) ?_
    simp only [Act.put, nA, nB, nC]
    refine Seq.done fun ws4 hws => ?_
    have HS4 := hws.st
    clear HS3 hws
    go_wp2_with fail
    go_ret
    exact ⟨by rw [HQ.out]; rfl, HS4.below⟩
  · have HE2 := Lib.hid (show ¬ a1.toList = [] from fun e => by rw [e] at he; cases he); clear he hn
    have HQ := Lib.hid h3; clear h3
    go_enter Tryd.func15, Tryd.ntmps15
    have HS : St w [] w := St.start
    go_upto_region 0 with (fail)
    refine wp_seq_text [] (StR.no HS) ?_
    refine Seq.box rfl rfl rfl (v := .agg (#[.bool t1.s, .string t1.a, .string t1.d])) (cs := #[.bool t1.s, .string t1.a, .string t1.d]) rfl rfl ?_
    intro bk1 _ _ hbk1_r
    simp only [Act.put, nA, nB, nC]
    refine Seq.pure rfl rfl (by intro w; go_simp; try rfl) ?_
    simp only [Act.put, nA, nB, nC]
    refine Seq.done fun ws1 hws => ?_
    have HS1 : St w [(bk1, 28, #[.bool t1.s, .string t1.a, .string t1.d])] ws1 := hws.list1 (by repeat (first | exact rS | refine rN (by assumption) ?_))
    clear HS hws
    go_upto_region 1 with (fail)
    refine wp_seq_text [0] (StR.move (StR.no HS1)) ?_
    refine Seq.get rfl rfl rfl rfl (by repeat (first | exact rS | refine rN (by assumption) ?_)) (n := 3) rfl (by kernel_rfl) ?_
    simp only [Act.put, nA, nB, nC]
    refine Seq.call rfl rfl rfl rfl (by kernel_rfl) (fit_c HT.out H1.out R1.out (by omega)) ?_
    simp only [Act.put, nA, nB, nC]
    refine Seq.store rfl rfl rfl rfl rfl (by repeat (first | exact rS | refine rN (by assumption) ?_)) (n := 3) rfl rfl (by kernel_rfl) (by intro u hu; simp at hu; rcases hu with rfl | rfl | rfl <;> rfl) ?_
    simp only [Act.put, nA, nB, nC]
    refine Seq.done fun ws2 hws => ?_
    have HS2 : St w [(bk1, 28, #[.bool false, .string a1, .string d1])] ws2 := hws.list1 (by repeat (first | exact rS | refine rN (by assumption) ?_))
    clear HS1 hws
    go_upto_region 2 with (fail)
    refine wp_seq_text [] (StR.no HS2) ?_
    refine Seq.pure rfl rfl (by intro w; go_simp; try rfl) ?_
    simp only [Act.put, nA, nB, nC]
    refine Seq.loadCell rfl rfl rfl rfl (by repeat (first | exact mC | apply mT)) (v := .string a1) rfl (by kernel_rfl) rfl ?_
    simp only [Act.put, nA, nB, nC]
    refine Seq.pure (v := .bool false) rfl rfl (by intro w; go_simp <;> (first | (rw [HE2.out]; done) | exact HE2.out | (simp [HE2.out]; done) | (trace_state; done))) ?_
    simp only [Act.put, nA, nB, nC]
    refine Seq.pure rfl rfl (by intro w; go_simp; try rfl) ?_
    simp only [Act.put, nA, nB, nC]
    refine Seq.done fun ws3 hws => ?_
    have HS3 := hws.st
    clear HS2 hws
    go_upto_region 4 with (fail)
    refine wp_seq_text [] (StR.no HS3) ?_
    refine Seq.pure rfl rfl (by intro w; go_simp; try rfl) ?_
    simp only [Act.put, nA, nB, nC]
    refine Seq.loadCell rfl rfl rfl rfl (by repeat (first | exact mC | apply mT)) (v := .bool false) rfl (by kernel_rfl) rfl ?_
    simp only [Act.put, nA, nB, nC]
    refine Seq.pure rfl rfl (by intro w; go_simp; try rfl) ?_
    simp only [Act.put, nA, nB, nC]
    refine Seq.done fun ws4 hws => ?_
    have HS4 := hws.st
    clear HS3 hws
    go_upto_region 6 with (fail)
    refine wp_seq_text [] (StR.no HS4) ?_
    refine Seq.pure rfl rfl (by intro w; go_simp; try rfl) ?_
    simp only [Act.put, nA, nB, nC]
    refine Seq.done fun ws5 hws => ?_
    have HS5 := hws.st
    clear HS4 hws
    go_wp2_with fail
    go_ret
    exact ⟨by rw [HQ.out]; rfl, HS5.below⟩
end

section
variable {W : World} {l : List Own} {k : Nat} {x y : Rat} {g1 g2 : Bool} {t1 t2 : RT}
set_option maxHeartbeats 4000000 in
set_option maxRecDepth 20000 in
theorem neg_w {z : Rat} (hT : Tab W) (h1 : RawT k x g1 t1) (hz : -x = z) (hk : k ≤ 4398046511104) (w : World) (h : St W l w) :
    Calls Tryd.prog 26 #[.agg t1.c] w fun e w' => e = .returned (.agg (RC z)) ∧ Below w.heap.size w w' := by
  subst hz
  have HT := Lib.hid (tabS hT h); clear hT h
  have H1 := Lib.hid h1; clear h1
  obtain ⟨s1, a1, d1, r1⟩ := R_parts x
  have R1 := Lib.hid r1; clear r1
  unfold RT.c
  rcases neg_parts R1.out with ⟨hn, rfl, he, h3⟩ | ⟨hn, rfl, he, h3⟩ | ⟨hn, rfl, he, h3⟩
  · have HE2 := Lib.hid (show ¬ a1.toList = [] from fun e => by rw [e] at he; cases he); clear he hn
    have HQ := Lib.hid h3; clear h3
    go_enter Tryd.func26, Tryd.ntmps26
    have HS : St w [] w := St.start
    go_upto_region 0 with (fail)
    refine wp_seq_text [] (StR.no HS) ?_
    refine Seq.box rfl rfl rfl (v := .agg (#[.bool t1.s, .string t1.a, .string t1.d])) (cs := #[.bool t1.s, .string t1.a, .string t1.d]) rfl rfl ?_
    intro bk1 _ _ hbk1_r
    simp only [Act.put, nA, nB, nC]
    refine Seq.alloc rfl rfl rfl (z := .agg (#[.bool false, .string ⟨#[]⟩, .string ⟨#[]⟩])) (by kernel_rfl) rfl ?_
    intro bk2 _ _ hbk2_r
    obtain ⟨ne_bk2_bk1, hbk2_r⟩ := Reg.ne_of_put hbk2_r
    have ne_bk1_bk2 := Ne.symm ne_bk2_bk1
    simp only [Act.put, nA, nB, nC]
    refine Seq.done fun ws1 hws => ?_
    have HS1 : St w [(bk1, 28, #[.bool t1.s, .string t1.a, .string t1.d]), (bk2, 28, #[.bool false, .string ⟨#[]⟩, .string ⟨#[]⟩])] ws1 := hws.list2 (by repeat (first | exact rS | refine rN (by assumption) ?_)) (by repeat (first | exact rS | refine rN (by assumption) ?_)) (by assumption)
    clear HS hws
    go_upto_region 1 with (fail)
    refine wp_seq_text [0] (StR.move (StR.no HS1)) ?_
    refine Seq.get rfl rfl rfl rfl (by repeat (first | exact rS | refine rN (by assumption) ?_)) (n := 3) rfl (by kernel_rfl) ?_
    simp only [Act.put, nA, nB, nC]
    refine Seq.call rfl rfl rfl rfl (by kernel_rfl) (fit_c HT.out H1.out R1.out (by omega)) ?_
    simp only [Act.put, nA, nB, nC]
    refine Seq.store rfl rfl rfl rfl rfl (by repeat (first | exact rS | refine rN (by assumption) ?_)) (n := 3) rfl rfl (by kernel_rfl) (by intro u hu; simp at hu; rcases hu with rfl | rfl | rfl <;> rfl) ?_
    simp only [Act.put, nA, nB, nC]
    refine Seq.done fun ws2 hws => ?_
    have HS2 : St w [(bk1, 28, #[.bool true, .string a1, .string d1]), (bk2, 28, #[.bool false, .string ⟨#[]⟩, .string ⟨#[]⟩])] ws2 := hws.list1 (by repeat (first | exact rS | refine rN (by assumption) ?_))
    clear HS1 hws
    go_upto_region 2 with (fail)
    refine wp_seq_text [2, 10] (StR.move (StR.no HS2)) ?_
    refine Seq.pure rfl rfl (by intro w; go_simp; try rfl) ?_
    simp only [Act.put, nA, nB, nC]
    refine Seq.getCell rfl rfl rfl rfl (by repeat (first | exact rS | refine rN (by assumption) ?_)) (v := .bool true) rfl (by kernel_rfl) rfl ?_
    simp only [Act.put, nA, nB, nC]
    iterate 2 (refine Seq.pure rfl rfl (by intro w; go_simp; try rfl) ?_; simp only [Act.put, nA, nB, nC])
    iterate 3 (refine Seq.nw rfl ?_; simp only [Act.put, nA, nB, nC])
    refine Seq.pure (v := .bool false) rfl rfl (by intro w; go_simp <;> (first | (rw [HE2.out]; done) | exact HE2.out | (simp [HE2.out]; done) | (trace_state; done))) ?_
    simp only [Act.put, nA, nB, nC]
    refine Seq.pure rfl rfl (by intro w; go_simp; try rfl) ?_
    simp only [Act.put, nA, nB, nC]
    refine Seq.storeAt (v := .bool false) rfl rfl rfl rfl rfl (by repeat (first | exact rS | refine rN (by assumption) ?_)) (Nat.le_of_ble_eq_true rfl) (by kernel_rfl) (by intro u hu; simp [Value.cells] at hu; subst hu; rfl) (cs' := #[.bool false, .string a1, .string d1]) rfl ?_
    simp only [Act.put, nA, nB, nC]
    refine Seq.done fun ws3 hws => ?_
    have HS3 : St w [(bk1, 28, #[.bool false, .string a1, .string d1]), (bk2, 28, #[.bool false, .string ⟨#[]⟩, .string ⟨#[]⟩])] ws3 := hws.list1 (by repeat (first | exact rS | refine rN (by assumption) ?_))
    clear HS2 hws
    go_upto_region 3 with (fail)
    have HPbk2 : St w [(bk2, 28, #[.bool false, .string ⟨#[]⟩, .string ⟨#[]⟩]), (bk1, 28, #[.bool false, .string a1, .string d1])] _ := St.perm HS3 (List.perm_middle (l₁ := ([(bk1, 28, #[.bool false, .string a1, .string d1])] : List Own)))
    refine wp_seq_text [] (StR.move (StR.no HPbk2)) ?_
    refine Seq.load rfl rfl rfl rfl (by repeat (first | exact mC | apply mT)) (n := 3) rfl (by kernel_rfl) ?_
    simp only [Act.put, nA, nB, nC]
    refine Seq.store rfl rfl rfl rfl rfl (by repeat (first | exact rS | refine rN (by assumption) ?_)) (n := 3) rfl rfl (by kernel_rfl) (by intro u hu; simp at hu; rcases hu with rfl | rfl | rfl <;> rfl) ?_
    simp only [Act.put, nA, nB, nC]
    refine Seq.done fun ws4 hws => ?_
    have HS4 : St w [(bk2, 28, #[.bool false, .string a1, .string d1]), (bk1, 28, #[.bool false, .string a1, .string d1])] ws4 := hws.list1 (by repeat (first | exact rS | refine rN (by assumption) ?_))
    clear HS3 hws HPbk2
    go_wp2_with fail
    exact ret_own rfl rfl rfl HS4 (by repeat (first | exact mC | apply mT)) (n := 3) rfl (by kernel_rfl) ⟨congrArg (fun c => Ending.returned (.agg c)) HQ.out.rc, HS4.below⟩
  · have HE2 := Lib.hid (show a1.toList = [] from List.isEmpty_iff.1 he); clear he hn
    have HQ := Lib.hid h3; clear h3
    go_enter Tryd.func26, Tryd.ntmps26
    have HS : St w [] w := St.start
    go_upto_region 0 with (fail)
    refine wp_seq_text [] (StR.no HS) ?_
    refine Seq.box rfl rfl rfl (v := .agg (#[.bool t1.s, .string t1.a, .string t1.d])) (cs := #[.bool t1.s, .string t1.a, .string t1.d]) rfl rfl ?_
    intro bk1 _ _ hbk1_r
    simp only [Act.put, nA, nB, nC]
    refine Seq.alloc rfl rfl rfl (z := .agg (#[.bool false, .string ⟨#[]⟩, .string ⟨#[]⟩])) (by kernel_rfl) rfl ?_
    intro bk2 _ _ hbk2_r
    obtain ⟨ne_bk2_bk1, hbk2_r⟩ := Reg.ne_of_put hbk2_r
    have ne_bk1_bk2 := Ne.symm ne_bk2_bk1
    simp only [Act.put, nA, nB, nC]
    refine Seq.done fun ws1 hws => ?_
    have HS1 : St w [(bk1, 28, #[.bool t1.s, .string t1.a, .string t1.d]), (bk2, 28, #[.bool false, .string ⟨#[]⟩, .string ⟨#[]⟩])] ws1 := hws.list2 (by repeat (first | exact rS | refine rN (by assumption) ?_)) (by repeat (first | exact rS | refine rN (by assumption) ?_)) (by assumption)
    clear HS hws
    go_upto_region 1 with (fail)
    refine wp_seq_text [0] (StR.move (StR.no HS1)) ?_
    refine Seq.get rfl rfl rfl rfl (by repeat (first | exact rS | refine rN (by assumption) ?_)) (n := 3) rfl (by kernel_rfl) ?_
    simp only [Act.put, nA, nB, nC]
    refine Seq.call rfl rfl rfl rfl (by kernel_rfl) (fit_c HT.out H1.out R1.out (by omega)) ?_
    simp only [Act.put, nA, nB, nC]
    refine Seq.store rfl rfl rfl rfl rfl (by repeat (first | exact rS | refine rN (by assumption) ?_)) (n := 3) rfl rfl (by kernel_rfl) (by intro u hu; simp at hu; rcases hu with rfl | rfl | rfl <;> rfl) ?_
    simp only [Act.put, nA, nB, nC]
    refine Seq.done fun ws2 hws => ?_
    have HS2 : St w [(bk1, 28, #[.bool false, .string a1, .string d1]), (bk2, 28, #[.bool false, .string ⟨#[]⟩, .string ⟨#[]⟩])] ws2 := hws.list1 (by repeat (first | exact rS | refine rN (by assumption) ?_))
    clear HS1 hws
    go_upto_region 2 with (fail)
    refine wp_seq_text [2, 10] (StR.move (StR.no HS2)) ?_
    refine Seq.pure rfl rfl (by intro w; go_simp; try rfl) ?_
    simp only [Act.put, nA, nB, nC]
    refine Seq.getCell rfl rfl rfl rfl (by repeat (first | exact rS | refine rN (by assumption) ?_)) (v := .bool false) rfl (by kernel_rfl) rfl ?_
    simp only [Act.put, nA, nB, nC]
    iterate 3 (refine Seq.pure rfl rfl (by intro w; go_simp; try rfl) ?_; simp only [Act.put, nA, nB, nC])
    refine Seq.getCell rfl rfl rfl rfl (by repeat (first | exact rS | refine rN (by assumption) ?_)) (v := .string a1) rfl (by kernel_rfl) rfl ?_
    simp only [Act.put, nA, nB, nC]
    refine Seq.pure (v := .bool false) rfl rfl (by intro w; go_simp <;> (first | (rw [HE2.out]; done) | exact HE2.out | (simp [HE2.out]; done) | (trace_state; done))) ?_
    simp only [Act.put, nA, nB, nC]
    refine Seq.pure (v := .bool false) rfl rfl (by intro w; go_simp <;> (first | (rw [HE2.out]; done) | exact HE2.out | (simp [HE2.out]; done) | (trace_state; done))) ?_
    simp only [Act.put, nA, nB, nC]
    refine Seq.pure rfl rfl (by intro w; go_simp; try rfl) ?_
    simp only [Act.put, nA, nB, nC]
    refine Seq.storeAt (v := .bool false) rfl rfl rfl rfl rfl (by repeat (first | exact rS | refine rN (by assumption) ?_)) (Nat.le_of_ble_eq_true rfl) (by kernel_rfl) (by intro u hu; simp [Value.cells] at hu; subst hu; rfl) (cs' := #[.bool false, .string a1, .string d1]) rfl ?_
    simp only [Act.put, nA, nB, nC]
    refine Seq.done fun ws3 hws => ?_
    have HS3 : St w [(bk1, 28, #[.bool false, .string a1, .string d1]), (bk2, 28, #[.bool false, .string ⟨#[]⟩, .string ⟨#[]⟩])] ws3 := hws.list1 (by repeat (first | exact rS | refine rN (by assumption) ?_))
    clear HS2 hws
    go_upto_region 3 with (fail)
    have HPbk2 : St w [(bk2, 28, #[.bool false, .string ⟨#[]⟩, .string ⟨#[]⟩]), (bk1, 28, #[.bool false, .string a1, .string d1])] _ := St.perm HS3 (List.perm_middle (l₁ := ([(bk1, 28, #[.bool false, .string a1, .string d1])] : List Own)))
    refine wp_seq_text [] (StR.move (StR.no HPbk2)) ?_
    refine Seq.load rfl rfl rfl rfl (by repeat (first | exact mC | apply mT)) (n := 3) rfl (by kernel_rfl) ?_
    simp only [Act.put, nA, nB, nC]
    refine Seq.store rfl rfl rfl rfl rfl (by repeat (first | exact rS | refine rN (by assumption) ?_)) (n := 3) rfl rfl (by kernel_rfl) (by intro u hu; simp at hu; rcases hu with rfl | rfl | rfl <;> rfl) ?_
    simp only [Act.put, nA, nB, nC]
    refine Seq.done fun ws4 hws => ?_
    have HS4 : St w [(bk2, 28, #[.bool false, .string a1, .string d1]), (bk1, 28, #[.bool false, .string a1, .string d1])] ws4 := hws.list1 (by repeat (first | exact rS | refine rN (by assumption) ?_))
    clear HS3 hws HPbk2
    go_wp2_with fail
    exact ret_own rfl rfl rfl HS4 (by repeat (first | exact mC | apply mT)) (n := 3) rfl (by kernel_rfl) ⟨congrArg (fun c => Ending.returned (.agg c)) HQ.out.rc, HS4.below⟩
  · have HE2 := Lib.hid (show ¬ a1.toList = [] from fun e => by rw [e] at he; cases he); clear he hn
    have HQ := Lib.hid h3; clear h3
    go_enter Tryd.func26, Tryd.ntmps26
    have HS : St w [] w := St.start
    go_upto_region 0 with (fail)
    refine wp_seq_text [] (StR.no HS) ?_
    refine Seq.box rfl rfl rfl (v := .agg (#[.bool t1.s, .string t1.a, .string t1.d])) (cs := #[.bool t1.s, .string t1.a, .string t1.d]) rfl rfl ?_
    intro bk1 _ _ hbk1_r
    simp only [Act.put, nA, nB, nC]
    refine Seq.alloc rfl rfl rfl (z := .agg (#[.bool false, .string ⟨#[]⟩, .string ⟨#[]⟩])) (by kernel_rfl) rfl ?_
    intro bk2 _ _ hbk2_r
    obtain ⟨ne_bk2_bk1, hbk2_r⟩ := Reg.ne_of_put hbk2_r
    have ne_bk1_bk2 := Ne.symm ne_bk2_bk1
    simp only [Act.put, nA, nB, nC]
    refine Seq.done fun ws1 hws => ?_
    have HS1 : St w [(bk1, 28, #[.bool t1.s, .string t1.a, .string t1.d]), (bk2, 28, #[.bool false, .string ⟨#[]⟩, .string ⟨#[]⟩])] ws1 := hws.list2 (by repeat (first | exact rS | refine rN (by assumption) ?_)) (by repeat (first | exact rS | refine rN (by assumption) ?_)) (by assumption)
    clear HS hws
    go_upto_region 1 with (fail)
    refine wp_seq_text [0] (StR.move (StR.no HS1)) ?_
    refine Seq.get rfl rfl rfl rfl (by repeat (first | exact rS | refine rN (by assumption) ?_)) (n := 3) rfl (by kernel_rfl) ?_
    simp only [Act.put, nA, nB, nC]
    refine Seq.call rfl rfl rfl rfl (by kernel_rfl) (fit_c HT.out H1.out R1.out (by omega)) ?_
    simp only [Act.put, nA, nB, nC]
    refine Seq.store rfl rfl rfl rfl rfl (by repeat (first | exact rS | refine rN (by assumption) ?_)) (n := 3) rfl rfl (by kernel_rfl) (by intro u hu; simp at hu; rcases hu with rfl | rfl | rfl <;> rfl) ?_
    simp only [Act.put, nA, nB, nC]
    refine Seq.done fun ws2 hws => ?_
    have HS2 : St w [(bk1, 28, #[.bool false, .string a1, .string d1]), (bk2, 28, #[.bool false, .string ⟨#[]⟩, .string ⟨#[]⟩])] ws2 := hws.list1 (by repeat (first | exact rS | refine rN (by assumption) ?_))
    clear HS1 hws
    go_upto_region 2 with (fail)
    refine wp_seq_text [2, 10] (StR.move (StR.no HS2)) ?_
    refine Seq.pure rfl rfl (by intro w; go_simp; try rfl) ?_
    simp only [Act.put, nA, nB, nC]
    refine Seq.getCell rfl rfl rfl rfl (by repeat (first | exact rS | refine rN (by assumption) ?_)) (v := .bool false) rfl (by kernel_rfl) rfl ?_
    simp only [Act.put, nA, nB, nC]
    iterate 3 (refine Seq.pure rfl rfl (by intro w; go_simp; try rfl) ?_; simp only [Act.put, nA, nB, nC])
    refine Seq.getCell rfl rfl rfl rfl (by repeat (first | exact rS | refine rN (by assumption) ?_)) (v := .string a1) rfl (by kernel_rfl) rfl ?_
    simp only [Act.put, nA, nB, nC]
    refine Seq.pure (v := .bool true) rfl rfl (by intro w; go_simp <;> (first | (rw [HE2.out]; done) | exact HE2.out | (simp [HE2.out]; done) | (trace_state; done))) ?_
    simp only [Act.put, nA, nB, nC]
    refine Seq.pure (v := .bool true) rfl rfl (by intro w; go_simp <;> (first | (rw [HE2.out]; done) | exact HE2.out | (simp [HE2.out]; done) | (trace_state; done))) ?_
    simp only [Act.put, nA, nB, nC]
    refine Seq.pure rfl rfl (by intro w; go_simp; try rfl) ?_
    simp only [Act.put, nA, nB, nC]
    refine Seq.storeAt (v := .bool true) rfl rfl rfl rfl rfl (by repeat (first | exact rS | refine rN (by assumption) ?_)) (Nat.le_of_ble_eq_true rfl) (by kernel_rfl) (by intro u hu; simp [Value.cells] at hu; subst hu; rfl) (cs' := #[.bool true, .string a1, .string d1]) rfl ?_
    simp only [Act.put, nA, nB, nC]
    refine Seq.done fun ws3 hws => ?_
    have HS3 : St w [(bk1, 28, #[.bool true, .string a1, .string d1]), (bk2, 28, #[.bool false, .string ⟨#[]⟩, .string ⟨#[]⟩])] ws3 := hws.list1 (by repeat (first | exact rS | refine rN (by assumption) ?_))
    clear HS2 hws
    go_upto_region 3 with (fail)
    have HPbk2 : St w [(bk2, 28, #[.bool false, .string ⟨#[]⟩, .string ⟨#[]⟩]), (bk1, 28, #[.bool true, .string a1, .string d1])] _ := St.perm HS3 (List.perm_middle (l₁ := ([(bk1, 28, #[.bool true, .string a1, .string d1])] : List Own)))
    refine wp_seq_text [] (StR.move (StR.no HPbk2)) ?_
    refine Seq.load rfl rfl rfl rfl (by repeat (first | exact mC | apply mT)) (n := 3) rfl (by kernel_rfl) ?_
    simp only [Act.put, nA, nB, nC]
    refine Seq.store rfl rfl rfl rfl rfl (by repeat (first | exact rS | refine rN (by assumption) ?_)) (n := 3) rfl rfl (by kernel_rfl) (by intro u hu; simp at hu; rcases hu with rfl | rfl | rfl <;> rfl) ?_
    simp only [Act.put, nA, nB, nC]
    refine Seq.done fun ws4 hws => ?_
    have HS4 : St w [(bk2, 28, #[.bool true, .string a1, .string d1]), (bk1, 28, #[.bool true, .string a1, .string d1])] ws4 := hws.list1 (by repeat (first | exact rS | refine rN (by assumption) ?_))
    clear HS3 hws HPbk2
    go_wp2_with fail
    exact ret_own rfl rfl rfl HS4 (by repeat (first | exact mC | apply mT)) (n := 3) rfl (by kernel_rfl) ⟨congrArg (fun c => Ending.returned (.agg c)) HQ.out.rc, HS4.below⟩
end
section
variable {W : World} {l : List Own} {k : Nat} {x y : Rat} {g1 g2 : Bool} {t1 t2 : RT}
end

section
variable {W : World} {l : List Own} {k : Nat} {x y : Rat} {g1 g2 : Bool} {t1 t2 : RT}
end

section
variable {W : World} {l : List Own} {k : Nat} {x y : Rat} {g1 g2 : Bool} {t1 t2 : RT}
end
/-- what signed returns, said -/
def sgU (s : Bool) (a : Nat) (t : Bool) (b : Nat) : Bool := if s = t then s else if b ≤ a then s else t
def sgN (s : Bool) (a : Nat) (t : Bool) (b : Nat) : Nat := if s = t then a + b else if b ≤ a then a - b else b - a
theorem sg_V (s t : Bool) (a b : Nat) : sg (sgU s a t b) (sgN s a t b) = sg s a + sg t b := by
  unfold sgU sgN
  by_cases h : s = t
  · subst h; rw [if_pos rfl, if_pos rfl]; unfold sg; cases s <;> simp <;> omega
  · rw [if_neg h, if_neg h]
    by_cases h2 : b ≤ a
    · rw [if_pos h2, if_pos h2]; unfold sg; cases s <;> cases t <;> simp_all <;> omega
    · rw [if_neg h2, if_neg h2]; unfold sg; cases s <;> cases t <;> simp_all <;> omega
theorem signed_V0 (s t : Bool) (a b k : Nat) (w : World) (ha : Sz k a) (hb : Sz k b) (hk : k ≤ 35184372088832) :
    Calls Tryd.prog 41 #[.bool s, .string (S a), .bool t, .string (S b)] w fun e w' => e = .returned (.tuple #[.bool (sgU s a t b), .string (S (sgN s a t b))]) ∧ Below w.heap.size w w' := by
  have HH := Lib.hid (And.intro (Nat.le_trans ha hk) (Nat.le_trans hb hk)); clear ha hb hk
  by_cases hst : s = t
  · subst hst
    rw [show sgU s a s b = s by unfold sgU; rw [if_pos rfl], show sgN s a s b = a + b by unfold sgN; rw [if_pos rfl]]
    go_enter Tryd.func41, Tryd.ntmps41
    go_wp2_with fail
    refine (add_S a b _ HH.out.1 HH.out.2).mono ?_
    rintro e w1 ⟨rfl, hb1⟩
    have HB1 := Lib.hid hb1; clear hb1
    go_wp2_with fail
    go_ret2
    exact ⟨rfl, HB1.out⟩
  · have h1 : (s == t) = false := by rw [beq_eq_false_iff_ne]; exact hst
    by_cases hle : b ≤ a
    · have hsub := sub_S a b w HH.out.1 HH.out.2
      have e1 : subS a b = S (a - b) := by unfold subS; rw [if_neg (by omega)]
      have e2 : subE a b = 0 := by unfold subE; rw [if_neg (by omega)]
      rw [show sgU s a t b = s by unfold sgU; rw [if_neg hst, if_pos hle], show sgN s a t b = a - b by unfold sgN; rw [if_neg hst, if_pos hle]]
      rw [e1, e2] at hsub
      have HS := hide' hsub; clear hsub e1 e2 hst
      go_enter Tryd.func41, Tryd.ntmps41
      go_wp2_with fail
      refine (HS.out).mono ?_
      rintro e w1 ⟨rfl, hb1⟩
      have HB1 := Lib.hid hb1; clear hb1
      go_wp2_with fail
      go_ret2
      exact ⟨rfl, HB1.out⟩
    · have hsub := sub_S a b w HH.out.1 HH.out.2
      have e2 : subE a b = 1 := by unfold subE; rw [if_pos (by omega)]
      rw [e2] at hsub
      have hsub2 : ∀ w1, Calls Tryd.prog 54 #[.string (S b), .string (S a)] w1 fun e w' => e = .returned (.tuple #[.string (S (b - a)), .int .i64 0]) ∧ Below w1.heap.size w1 w' := fun w1 => by
        have h := sub_S b a w1 HH.out.2 HH.out.1
        have e3 : subS b a = S (b - a) := by unfold subS; rw [if_neg (by omega)]
        have e4 : subE b a = 0 := by unfold subE; rw [if_neg (by omega)]
        rw [e3, e4] at h; exact h
      rw [show sgU s a t b = t by unfold sgU; rw [if_neg hst, if_neg hle], show sgN s a t b = b - a by unfold sgN; rw [if_neg hst, if_neg hle]]
      have HS := hide' hsub; have HS2 := hide' hsub2; clear hsub hsub2 e2 hst
      go_enter Tryd.func41, Tryd.ntmps41
      go_wp2_with fail
      refine (HS.out).mono ?_
      rintro e w1 ⟨rfl, hb1⟩
      have HB1 := Lib.hid hb1; clear hb1
      go_wp2_with fail
      refine (HS2.out _).mono ?_
      rintro e w2 ⟨rfl, hb2⟩
      have HB2 := Lib.hid hb2; clear hb2
      go_wp2_with fail
      go_ret2
      exact ⟨rfl, below_next HB1.out HB2.out⟩
theorem signed_V (s t : Bool) (m n k : Nat) {a b : ByteArray} (w : World) (ha : a = S m) (hb : b = S n) (h : Sz k m) (h' : Sz k n) (hk : k ≤ 35184372088832) {u : Bool} {q : Nat} (hu : sgU s m t n = u) (hq : sgN s m t n = q) :
    Calls Tryd.prog 41 #[.bool s, .string a, .bool t, .string b] w fun e w' => e = .returned (.tuple #[.bool u, .string (S q)]) ∧ Below w.heap.size w w' := by
  subst hu hq ha hb
  exact signed_V0 s t m n k w h h' hk

section
variable {W : World} {l : List Own} {k : Nat} {x y : Rat} {g1 g2 : Bool} {t1 t2 : RT}
set_option maxHeartbeats 4000000 in
set_option maxRecDepth 20000 in
theorem add_w {z : Rat} (hT : Tab W) (h1 : RawT k x g1 t1) (h2 : RawT k y g2 t2) (hz : x + y = z) (hk : k ≤ 1099511627776) (w : World) (h : St W l w) :
    Calls Tryd.prog 25 #[.agg t1.c, .agg t2.c] w fun e w' => e = .returned (.agg (RC z)) ∧ Below w.heap.size w w' := by
  subst hz
  have HT := Lib.hid (tabS hT h); clear hT h
  have H1 := Lib.hid h1; clear h1
  have H2 := Lib.hid h2; clear h2
  obtain ⟨s1, a1, d1, r1⟩ := R_parts x
  have R1 := Lib.hid r1; clear r1
  obtain ⟨s2, a2, d2, r2⟩ := R_parts y
  have R2 := Lib.hid r2; clear r2
  obtain ⟨s3, a3, d3, r3⟩ := R_parts (x + y)
  have R3 := Lib.hid r3; clear r3
  unfold RT.c
  by_cases hde : x.den = y.den
  · have HD : Hid ((d1.toList == d2.toList) = true) := Lib.hid (by rw [R1.out.d, R2.out.d, S_eq_iff]; exact decide_eq_true hde)
    have HD2 := Lib.hid (show d1.toList = d2.toList from by simpa using HD.out)
    obtain ⟨u, hu⟩ : ∃ u, sgU s1 (x.num.natAbs) s2 (y.num.natAbs) = u := ⟨_, rfl⟩
    obtain ⟨n, hn⟩ : ∃ n, sgN s1 (x.num.natAbs) s2 (y.num.natAbs) = n := ⟨_, rfl⟩
    have hv := sg_V s1 s2 (x.num.natAbs) (y.num.natAbs)
    rw [hu, hn, R1.out.sg, R2.out.sg] at hv
    have HUN := Lib.hid (And.intro (show Sz (k + k + 1) n from sz_abs hv H1.out.rz.1 H2.out.rz.1) (show mkRat (sg u n) x.den = x + y from by rw [hv]; exact add_same hde))
    have SV := Lib.hid (And.intro hu hn); clear hu hn hv hde
    go_enter Tryd.func25, Tryd.ntmps25
    have HS : St w [] w := St.start
    go_upto_region 0 with (fail)
    refine wp_seq_text [] (StR.no HS) ?_
    refine Seq.box rfl rfl rfl (v := .agg (#[.bool t1.s, .string t1.a, .string t1.d])) (cs := #[.bool t1.s, .string t1.a, .string t1.d]) rfl rfl ?_
    intro bk2 _ _ hbk2_r
    simp only [Act.put, nA, nB, nC]
    refine Seq.box rfl rfl rfl (v := .agg (#[.bool t2.s, .string t2.a, .string t2.d])) (cs := #[.bool t2.s, .string t2.a, .string t2.d]) rfl rfl ?_
    intro bk3 _ _ hbk3_r
    obtain ⟨ne_bk3_bk2, hbk3_r⟩ := Reg.ne_of_put hbk3_r
    have ne_bk2_bk3 := Ne.symm ne_bk3_bk2
    simp only [Act.put, nA, nB, nC]
    refine Seq.alloc rfl rfl rfl (z := .agg (#[.bool false, .string ⟨#[]⟩, .string ⟨#[]⟩])) (by kernel_rfl) rfl ?_
    intro bk4 _ _ hbk4_r
    obtain ⟨ne_bk4_bk3, hbk4_r⟩ := Reg.ne_of_put hbk4_r
    have ne_bk3_bk4 := Ne.symm ne_bk4_bk3
    obtain ⟨ne_bk4_bk2, hbk4_r⟩ := Reg.ne_of_put hbk4_r
    have ne_bk2_bk4 := Ne.symm ne_bk4_bk2
    simp only [Act.put, nA, nB, nC]
    refine Seq.done fun ws1 hws => ?_
    have HS1 : St w [(bk2, 28, #[.bool t1.s, .string t1.a, .string t1.d]), (bk3, 28, #[.bool t2.s, .string t2.a, .string t2.d]), (bk4, 28, #[.bool false, .string ⟨#[]⟩, .string ⟨#[]⟩])] ws1 := hws.list3 (by repeat (first | exact rS | refine rN (by assumption) ?_)) (by repeat (first | exact rS | refine rN (by assumption) ?_)) (by repeat (first | exact rS | refine rN (by assumption) ?_)) (by assumption) (by assumption) (by assumption)
    clear HS hws
    go_upto_region 1 with (fail)
    have HPbk3 : St w [(bk3, 28, #[.bool t2.s, .string t2.a, .string t2.d]), (bk2, 28, #[.bool t1.s, .string t1.a, .string t1.d]), (bk4, 28, #[.bool false, .string ⟨#[]⟩, .string ⟨#[]⟩])] _ := St.perm HS1 (List.perm_middle (l₁ := ([(bk2, 28, #[.bool t1.s, .string t1.a, .string t1.d])] : List Own)))
    have HPbk2 : St w [(bk2, 28, #[.bool t1.s, .string t1.a, .string t1.d]), (bk3, 28, #[.bool t2.s, .string t2.a, .string t2.d]), (bk4, 28, #[.bool false, .string ⟨#[]⟩, .string ⟨#[]⟩])] _ := St.perm HPbk3 (List.perm_middle (l₁ := ([(bk3, 28, #[.bool t2.s, .string t2.a, .string t2.d])] : List Own)))
    refine wp_seq [0, 4] (by kernel_rfl) (by kernel_rfl) (Reg.fin.put (Reg.fin.put Reg.fin_no _ _) _ _) (StR.move (StR.move (StR.no HPbk2))) ?_
    refine Seq.get rfl rfl rfl rfl (by repeat (first | exact rS | refine rN (by assumption) ?_)) (n := 3) rfl (by kernel_rfl) ?_
    simp only [Act.put, nA, nB, nC]
    refine Seq.call rfl rfl rfl rfl (by kernel_rfl) (fit_c HT.out H1.out R1.out (by omega)) ?_
    simp only [Act.put, nA, nB, nC]
    refine Seq.get rfl rfl rfl rfl (by repeat (first | exact rS | refine rN (by assumption) ?_)) (n := 3) rfl (by kernel_rfl) ?_
    simp only [Act.put, nA, nB, nC]
    refine Seq.call rfl rfl rfl rfl (by kernel_rfl) (fit_c HT.out H2.out R2.out (by omega)) ?_
    simp only [Act.put, nA, nB, nC]
    refine Seq.store rfl rfl rfl rfl rfl (by repeat (first | exact rS | refine rN (by assumption) ?_)) (n := 3) rfl rfl (by kernel_rfl) (by intro u hu; simp at hu; rcases hu with rfl | rfl | rfl <;> rfl) ?_
    simp only [Act.put, nA, nB, nC]
    refine Seq.store rfl rfl rfl rfl rfl (by repeat (first | exact rS | refine rN (by assumption) ?_)) (n := 3) rfl rfl (by kernel_rfl) (by intro u hu; simp at hu; rcases hu with rfl | rfl | rfl <;> rfl) ?_
    simp only [Act.put, nA, nB, nC]
    refine Seq.done fun ws2 hws => ?_
    have HS2 : St w [(bk2, 28, #[.bool s1, .string a1, .string d1]), (bk3, 28, #[.bool s2, .string a2, .string d2]), (bk4, 28, #[.bool false, .string ⟨#[]⟩, .string ⟨#[]⟩])] ws2 := hws.list2 (by repeat (first | exact rS | refine rN (by assumption) ?_)) (by repeat (first | exact rS | refine rN (by assumption) ?_)) (by assumption)
    clear HS1 hws HPbk3 HPbk2
    go_upto_region 2 with (fail)
    refine wp_seq_text [] (StR.no HS2) ?_
    refine Seq.pure rfl rfl (by intro w; go_simp; try rfl) ?_
    simp only [Act.put, nA, nB, nC]
    refine Seq.loadCell rfl rfl rfl rfl (by repeat (first | exact mC | apply mT)) (v := .string d1) rfl (by kernel_rfl) rfl ?_
    simp only [Act.put, nA, nB, nC]
    refine Seq.pure rfl rfl (by intro w; go_simp; try rfl) ?_
    simp only [Act.put, nA, nB, nC]
    refine Seq.loadCell rfl rfl rfl rfl (by repeat (first | exact mC | apply mT)) (v := .string d2) rfl (by kernel_rfl) rfl ?_
    simp only [Act.put, nA, nB, nC]
    refine Seq.pure (v := .bool true) rfl rfl (by intro w; go_simp <;> (first | (rw [HD2.out]; done) | exact HD2.out | (simp [HD2.out]; done) | (trace_state; done))) ?_
    simp only [Act.put, nA, nB, nC]
    refine Seq.done fun ws3 hws => ?_
    have HS3 := hws.st
    clear HS2 hws
    go_upto_region 3 with (fail)
    refine wp_seq_text [] (StR.no HS3) ?_
    refine Seq.pure rfl rfl (by intro w; go_simp; try rfl) ?_
    simp only [Act.put, nA, nB, nC]
    refine Seq.loadCell rfl rfl rfl rfl (by repeat (first | exact mC | apply mT)) (v := .bool s1) rfl (by kernel_rfl) rfl ?_
    simp only [Act.put, nA, nB, nC]
    refine Seq.pure rfl rfl (by intro w; go_simp; try rfl) ?_
    simp only [Act.put, nA, nB, nC]
    refine Seq.loadCell rfl rfl rfl rfl (by repeat (first | exact mC | apply mT)) (v := .string a1) rfl (by kernel_rfl) rfl ?_
    simp only [Act.put, nA, nB, nC]
    refine Seq.pure rfl rfl (by intro w; go_simp; try rfl) ?_
    simp only [Act.put, nA, nB, nC]
    refine Seq.loadCell rfl rfl rfl rfl (by repeat (first | exact mC | apply mT)) (v := .bool s2) rfl (by kernel_rfl) rfl ?_
    simp only [Act.put, nA, nB, nC]
    refine Seq.pure rfl rfl (by intro w; go_simp; try rfl) ?_
    simp only [Act.put, nA, nB, nC]
    refine Seq.loadCell rfl rfl rfl rfl (by repeat (first | exact mC | apply mT)) (v := .string a2) rfl (by kernel_rfl) rfl ?_
    simp only [Act.put, nA, nB, nC]
    refine Seq.call rfl rfl rfl rfl (by kernel_rfl) (fun w h => signed_V s1 s2 x.num.natAbs y.num.natAbs k w R1.out.a R2.out.a H1.out.rz.1 H2.out.rz.1 (by omega) SV.out.1 SV.out.2) ?_
    simp only [Act.put, nA, nB, nC]
    refine Seq.pure rfl rfl (by intro w; go_simp; try rfl) ?_
    simp only [Act.put, nA, nB, nC]
    refine Seq.pure (v := .bool u) rfl rfl (fun w => rfl) ?_
    simp only [Act.put, nA, nB, nC]
    refine Seq.pure (v := .string (S n)) rfl rfl (fun w => rfl) ?_
    simp only [Act.put, nA, nB, nC]
    iterate 2 (refine Seq.pure rfl rfl (by intro w; go_simp; try rfl) ?_; simp only [Act.put, nA, nB, nC])
    refine Seq.done fun ws4 hws => ?_
    have HS4 := hws.st
    clear HS3 hws
    go_upto_region 4 with (fail)
    have HPbk4 : St w [(bk4, 28, #[.bool false, .string ⟨#[]⟩, .string ⟨#[]⟩]), (bk2, 28, #[.bool s1, .string a1, .string d1]), (bk3, 28, #[.bool s2, .string a2, .string d2])] _ := St.perm HS4 (List.perm_middle (l₁ := ([(bk2, 28, #[.bool s1, .string a1, .string d1]), (bk3, 28, #[.bool s2, .string a2, .string d2])] : List Own)))
    refine wp_seq_text [] (StR.move (StR.no HPbk4)) ?_
    iterate 3 (refine Seq.pure rfl rfl (by intro w; go_simp; try rfl) ?_; simp only [Act.put, nA, nB, nC])
    refine Seq.loadCell rfl rfl rfl rfl (by repeat (first | exact mC | apply mT)) (v := .string d1) rfl (by kernel_rfl) rfl ?_
    simp only [Act.put, nA, nB, nC]
    refine Seq.call rfl rfl rfl rfl (by kernel_rfl) (fun w h => made_G u n (k + k + 1) x.den (x + y) w R3.out R1.out.d x.den_nz HUN.out.2 HUN.out.1 (H1.out.rz.2.more (by omega)) (by omega) (tabS HT.out h)) ?_
    simp only [Act.put, nA, nB, nC]
    refine Seq.store rfl rfl rfl rfl rfl (by repeat (first | exact rS | refine rN (by assumption) ?_)) (n := 3) rfl rfl (by kernel_rfl) (by intro u hu; simp at hu; rcases hu with rfl | rfl | rfl <;> rfl) ?_
    simp only [Act.put, nA, nB, nC]
    refine Seq.done fun ws5 hws => ?_
    have HS5 : St w [(bk4, 28, #[.bool s3, .string a3, .string d3]), (bk2, 28, #[.bool s1, .string a1, .string d1]), (bk3, 28, #[.bool s2, .string a2, .string d2])] ws5 := hws.list1 (by repeat (first | exact rS | refine rN (by assumption) ?_))
    clear HS4 hws HPbk4
    go_wp2_with fail
    exact ret_own rfl rfl rfl HS5 (by repeat (first | exact mC | apply mT)) (n := 3) rfl (by kernel_rfl) ⟨congrArg (fun c => Ending.returned (.agg c)) R3.out.rc, HS5.below⟩
  · have HD : Hid ((d1.toList == d2.toList) = false) := Lib.hid (by rw [R1.out.d, R2.out.d, S_eq_iff]; exact decide_eq_false hde)
    have HD2 := Lib.hid (show ¬ d1.toList = d2.toList from by simpa using HD.out)
    obtain ⟨u, hu⟩ : ∃ u, sgU s1 (x.num.natAbs * y.den) s2 (y.num.natAbs * x.den) = u := ⟨_, rfl⟩
    obtain ⟨n, hn⟩ : ∃ n, sgN s1 (x.num.natAbs * y.den) s2 (y.num.natAbs * x.den) = n := ⟨_, rfl⟩
    have hv := sg_V s1 s2 (x.num.natAbs * y.den) (y.num.natAbs * x.den)
    rw [hu, hn, sg_mul_nat, sg_mul_nat, R1.out.sg, R2.out.sg] at hv
    have HUN := Lib.hid (And.intro (show Sz (k + k + (k + k) + 1) n from sz_abs hv (by rw [Int.natAbs_mul, Int.natAbs_natCast]; exact H1.out.rz.1.mul H2.out.rz.2) (by rw [Int.natAbs_mul, Int.natAbs_natCast]; exact H2.out.rz.1.mul H1.out.rz.2)) (show mkRat (sg u n) (x.den * y.den) = x + y from by rw [hv]; exact (Rat.add_def' x y).symm))
    have SV := Lib.hid (And.intro hu hn); clear hu hn hv hde
    go_enter Tryd.func25, Tryd.ntmps25
    have HS : St w [] w := St.start
    go_upto_region 0 with (fail)
    refine wp_seq_text [] (StR.no HS) ?_
    refine Seq.box rfl rfl rfl (v := .agg (#[.bool t1.s, .string t1.a, .string t1.d])) (cs := #[.bool t1.s, .string t1.a, .string t1.d]) rfl rfl ?_
    intro bk2 _ _ hbk2_r
    simp only [Act.put, nA, nB, nC]
    refine Seq.box rfl rfl rfl (v := .agg (#[.bool t2.s, .string t2.a, .string t2.d])) (cs := #[.bool t2.s, .string t2.a, .string t2.d]) rfl rfl ?_
    intro bk3 _ _ hbk3_r
    obtain ⟨ne_bk3_bk2, hbk3_r⟩ := Reg.ne_of_put hbk3_r
    have ne_bk2_bk3 := Ne.symm ne_bk3_bk2
    simp only [Act.put, nA, nB, nC]
    refine Seq.alloc rfl rfl rfl (z := .agg (#[.bool false, .string ⟨#[]⟩, .string ⟨#[]⟩])) (by kernel_rfl) rfl ?_
    intro bk4 _ _ hbk4_r
    obtain ⟨ne_bk4_bk3, hbk4_r⟩ := Reg.ne_of_put hbk4_r
    have ne_bk3_bk4 := Ne.symm ne_bk4_bk3
    obtain ⟨ne_bk4_bk2, hbk4_r⟩ := Reg.ne_of_put hbk4_r
    have ne_bk2_bk4 := Ne.symm ne_bk4_bk2
    simp only [Act.put, nA, nB, nC]
    refine Seq.done fun ws1 hws => ?_
    have HS1 : St w [(bk2, 28, #[.bool t1.s, .string t1.a, .string t1.d]), (bk3, 28, #[.bool t2.s, .string t2.a, .string t2.d]), (bk4, 28, #[.bool false, .string ⟨#[]⟩, .string ⟨#[]⟩])] ws1 := hws.list3 (by repeat (first | exact rS | refine rN (by assumption) ?_)) (by repeat (first | exact rS | refine rN (by assumption) ?_)) (by repeat (first | exact rS | refine rN (by assumption) ?_)) (by assumption) (by assumption) (by assumption)
    clear HS hws
    go_upto_region 1 with (fail)
    have HPbk3 : St w [(bk3, 28, #[.bool t2.s, .string t2.a, .string t2.d]), (bk2, 28, #[.bool t1.s, .string t1.a, .string t1.d]), (bk4, 28, #[.bool false, .string ⟨#[]⟩, .string ⟨#[]⟩])] _ := St.perm HS1 (List.perm_middle (l₁ := ([(bk2, 28, #[.bool t1.s, .string t1.a, .string t1.d])] : List Own)))
    have HPbk2 : St w [(bk2, 28, #[.bool t1.s, .string t1.a, .string t1.d]), (bk3, 28, #[.bool t2.s, .string t2.a, .string t2.d]), (bk4, 28, #[.bool false, .string ⟨#[]⟩, .string ⟨#[]⟩])] _ := St.perm HPbk3 (List.perm_middle (l₁ := ([(bk3, 28, #[.bool t2.s, .string t2.a, .string t2.d])] : List Own)))
    refine wp_seq [0, 4] (by kernel_rfl) (by kernel_rfl) (Reg.fin.put (Reg.fin.put Reg.fin_no _ _) _ _) (StR.move (StR.move (StR.no HPbk2))) ?_
    refine Seq.get rfl rfl rfl rfl (by repeat (first | exact rS | refine rN (by assumption) ?_)) (n := 3) rfl (by kernel_rfl) ?_
    simp only [Act.put, nA, nB, nC]
    refine Seq.call rfl rfl rfl rfl (by kernel_rfl) (fit_c HT.out H1.out R1.out (by omega)) ?_
    simp only [Act.put, nA, nB, nC]
    refine Seq.get rfl rfl rfl rfl (by repeat (first | exact rS | refine rN (by assumption) ?_)) (n := 3) rfl (by kernel_rfl) ?_
    simp only [Act.put, nA, nB, nC]
    refine Seq.call rfl rfl rfl rfl (by kernel_rfl) (fit_c HT.out H2.out R2.out (by omega)) ?_
    simp only [Act.put, nA, nB, nC]
    refine Seq.store rfl rfl rfl rfl rfl (by repeat (first | exact rS | refine rN (by assumption) ?_)) (n := 3) rfl rfl (by kernel_rfl) (by intro u hu; simp at hu; rcases hu with rfl | rfl | rfl <;> rfl) ?_
    simp only [Act.put, nA, nB, nC]
    refine Seq.store rfl rfl rfl rfl rfl (by repeat (first | exact rS | refine rN (by assumption) ?_)) (n := 3) rfl rfl (by kernel_rfl) (by intro u hu; simp at hu; rcases hu with rfl | rfl | rfl <;> rfl) ?_
    simp only [Act.put, nA, nB, nC]
    refine Seq.done fun ws2 hws => ?_
    have HS2 : St w [(bk2, 28, #[.bool s1, .string a1, .string d1]), (bk3, 28, #[.bool s2, .string a2, .string d2]), (bk4, 28, #[.bool false, .string ⟨#[]⟩, .string ⟨#[]⟩])] ws2 := hws.list2 (by repeat (first | exact rS | refine rN (by assumption) ?_)) (by repeat (first | exact rS | refine rN (by assumption) ?_)) (by assumption)
    clear HS1 hws HPbk3 HPbk2
    go_upto_region 2 with (fail)
    refine wp_seq_text [] (StR.no HS2) ?_
    refine Seq.pure rfl rfl (by intro w; go_simp; try rfl) ?_
    simp only [Act.put, nA, nB, nC]
    refine Seq.loadCell rfl rfl rfl rfl (by repeat (first | exact mC | apply mT)) (v := .string d1) rfl (by kernel_rfl) rfl ?_
    simp only [Act.put, nA, nB, nC]
    refine Seq.pure rfl rfl (by intro w; go_simp; try rfl) ?_
    simp only [Act.put, nA, nB, nC]
    refine Seq.loadCell rfl rfl rfl rfl (by repeat (first | exact mC | apply mT)) (v := .string d2) rfl (by kernel_rfl) rfl ?_
    simp only [Act.put, nA, nB, nC]
    refine Seq.pure (v := .bool false) rfl rfl (by intro w; go_simp <;> (first | (rw [HD2.out]; done) | exact HD2.out | (simp [HD2.out]; done) | (trace_state; done))) ?_
    simp only [Act.put, nA, nB, nC]
    refine Seq.done fun ws3 hws => ?_
    have HS3 := hws.st
    clear HS2 hws
    go_upto_region 5 with (fail)
    refine wp_seq [] (by kernel_rfl) (by kernel_rfl) Reg.fin_no (StR.no HS3) ?_
    refine Seq.pure rfl rfl (by intro w; go_simp; try rfl) ?_
    simp only [Act.put, nA, nB, nC]
    refine Seq.loadCell rfl rfl rfl rfl (by repeat (first | exact mC | apply mT)) (v := .bool s1) rfl (by kernel_rfl) rfl ?_
    simp only [Act.put, nA, nB, nC]
    refine Seq.pure rfl rfl (by intro w; go_simp; try rfl) ?_
    simp only [Act.put, nA, nB, nC]
    refine Seq.loadCell rfl rfl rfl rfl (by repeat (first | exact mC | apply mT)) (v := .string a1) rfl (by kernel_rfl) rfl ?_
    simp only [Act.put, nA, nB, nC]
    refine Seq.pure rfl rfl (by intro w; go_simp; try rfl) ?_
    simp only [Act.put, nA, nB, nC]
    refine Seq.loadCell rfl rfl rfl rfl (by repeat (first | exact mC | apply mT)) (v := .string d2) rfl (by kernel_rfl) rfl ?_
    simp only [Act.put, nA, nB, nC]
    refine Seq.call rfl rfl rfl rfl (by kernel_rfl) (fun w h => mul_G x.num.natAbs y.den k w R1.out.a R2.out.d H1.out.rz.1 H2.out.rz.2 (by omega)) ?_
    simp only [Act.put, nA, nB, nC]
    refine Seq.pure rfl rfl (by intro w; go_simp; try rfl) ?_
    simp only [Act.put, nA, nB, nC]
    refine Seq.loadCell rfl rfl rfl rfl (by repeat (first | exact mC | apply mT)) (v := .bool s2) rfl (by kernel_rfl) rfl ?_
    simp only [Act.put, nA, nB, nC]
    refine Seq.pure rfl rfl (by intro w; go_simp; try rfl) ?_
    simp only [Act.put, nA, nB, nC]
    refine Seq.loadCell rfl rfl rfl rfl (by repeat (first | exact mC | apply mT)) (v := .string a2) rfl (by kernel_rfl) rfl ?_
    simp only [Act.put, nA, nB, nC]
    refine Seq.pure rfl rfl (by intro w; go_simp; try rfl) ?_
    simp only [Act.put, nA, nB, nC]
    refine Seq.loadCell rfl rfl rfl rfl (by repeat (first | exact mC | apply mT)) (v := .string d1) rfl (by kernel_rfl) rfl ?_
    simp only [Act.put, nA, nB, nC]
    refine Seq.call rfl rfl rfl rfl (by kernel_rfl) (fun w h => mul_G y.num.natAbs x.den k w R2.out.a R1.out.d H2.out.rz.1 H1.out.rz.2 (by omega)) ?_
    simp only [Act.put, nA, nB, nC]
    refine Seq.call rfl rfl rfl rfl (by kernel_rfl) (fun w h => signed_V s1 s2 (x.num.natAbs * y.den) (y.num.natAbs * x.den) (k + k) w rfl rfl (H1.out.rz.1.mul H2.out.rz.2) (H2.out.rz.1.mul H1.out.rz.2) (by omega) SV.out.1 SV.out.2) ?_
    simp only [Act.put, nA, nB, nC]
    refine Seq.pure rfl rfl (by intro w; go_simp; try rfl) ?_
    simp only [Act.put, nA, nB, nC]
    refine Seq.pure (v := .bool u) rfl rfl (fun w => rfl) ?_
    simp only [Act.put, nA, nB, nC]
    refine Seq.pure (v := .string (S n)) rfl rfl (fun w => rfl) ?_
    simp only [Act.put, nA, nB, nC]
    iterate 2 (refine Seq.pure rfl rfl (by intro w; go_simp; try rfl) ?_; simp only [Act.put, nA, nB, nC])
    refine Seq.done fun ws4 hws => ?_
    have HS4 := hws.st
    clear HS3 hws
    go_upto_region 6 with (fail)
    have HPbk4 : St w [(bk4, 28, #[.bool false, .string ⟨#[]⟩, .string ⟨#[]⟩]), (bk2, 28, #[.bool s1, .string a1, .string d1]), (bk3, 28, #[.bool s2, .string a2, .string d2])] _ := St.perm HS4 (List.perm_middle (l₁ := ([(bk2, 28, #[.bool s1, .string a1, .string d1]), (bk3, 28, #[.bool s2, .string a2, .string d2])] : List Own)))
    refine wp_seq_text [] (StR.move (StR.no HPbk4)) ?_
    iterate 3 (refine Seq.pure rfl rfl (by intro w; go_simp; try rfl) ?_; simp only [Act.put, nA, nB, nC])
    refine Seq.loadCell rfl rfl rfl rfl (by repeat (first | exact mC | apply mT)) (v := .string d1) rfl (by kernel_rfl) rfl ?_
    simp only [Act.put, nA, nB, nC]
    refine Seq.pure rfl rfl (by intro w; go_simp; try rfl) ?_
    simp only [Act.put, nA, nB, nC]
    refine Seq.loadCell rfl rfl rfl rfl (by repeat (first | exact mC | apply mT)) (v := .string d2) rfl (by kernel_rfl) rfl ?_
    simp only [Act.put, nA, nB, nC]
    refine Seq.call rfl rfl rfl rfl (by kernel_rfl) (fun w h => mul_G x.den y.den k w R1.out.d R2.out.d H1.out.rz.2 H2.out.rz.2 (by omega)) ?_
    simp only [Act.put, nA, nB, nC]
    refine Seq.call rfl rfl rfl rfl (by kernel_rfl) (fun w h => made_G u n (k + k + (k + k) + 1) (x.den * y.den) (x + y) w R3.out rfl (Nat.mul_ne_zero x.den_nz y.den_nz) HUN.out.2 HUN.out.1 ((H1.out.rz.2.mul H2.out.rz.2).more (by omega)) (by omega) (tabS HT.out h)) ?_
    simp only [Act.put, nA, nB, nC]
    refine Seq.store rfl rfl rfl rfl rfl (by repeat (first | exact rS | refine rN (by assumption) ?_)) (n := 3) rfl rfl (by kernel_rfl) (by intro u hu; simp at hu; rcases hu with rfl | rfl | rfl <;> rfl) ?_
    simp only [Act.put, nA, nB, nC]
    refine Seq.done fun ws5 hws => ?_
    have HS5 : St w [(bk4, 28, #[.bool s3, .string a3, .string d3]), (bk2, 28, #[.bool s1, .string a1, .string d1]), (bk3, 28, #[.bool s2, .string a2, .string d2])] ws5 := hws.list1 (by repeat (first | exact rS | refine rN (by assumption) ?_))
    clear HS4 hws HPbk4
    go_wp2_with fail
    exact ret_own rfl rfl rfl HS5 (by repeat (first | exact mC | apply mT)) (n := 3) rfl (by kernel_rfl) ⟨congrArg (fun c => Ending.returned (.agg c)) R3.out.rc, HS5.below⟩
end
section
variable {W : World} {l : List Own} {k : Nat} {x y : Rat} {g1 g2 : Bool} {t1 t2 : RT}
set_option maxHeartbeats 4000000 in
set_option maxRecDepth 20000 in
theorem sub_w {z : Rat} (hT : Tab W) (h1 : RawT k x g1 t1) (h2 : RawT k y g2 t2) (hz : x - y = z) (hk : k ≤ 1099511627776) (w : World) (h : St W l w) :
    Calls Tryd.prog 16 #[.agg t1.c, .agg t2.c] w fun e w' => e = .returned (.agg (RC z)) ∧ Below w.heap.size w w' := by
  subst hz
  have HT := Lib.hid (tabS hT h); clear hT h
  have H1 := Lib.hid h1; clear h1
  have H2 := Lib.hid h2; clear h2
  unfold RT.c
  go_enter Tryd.func16, Tryd.ntmps16
  have HS : St w [] w := St.start
  go_upto_region 0 with (fail)
  refine wp_seq_text [] (StR.no HS) ?_
  refine Seq.box rfl rfl rfl (v := .agg (#[.bool t1.s, .string t1.a, .string t1.d])) (cs := #[.bool t1.s, .string t1.a, .string t1.d]) rfl rfl ?_
  intro bk2 _ _ hbk2_r
  simp only [Act.put, nA, nB, nC]
  refine Seq.box rfl rfl rfl (v := .agg (#[.bool t2.s, .string t2.a, .string t2.d])) (cs := #[.bool t2.s, .string t2.a, .string t2.d]) rfl rfl ?_
  intro bk3 _ _ hbk3_r
  obtain ⟨ne_bk3_bk2, hbk3_r⟩ := Reg.ne_of_put hbk3_r
  have ne_bk2_bk3 := Ne.symm ne_bk3_bk2
  simp only [Act.put, nA, nB, nC]
  refine Seq.alloc rfl rfl rfl (z := .agg (#[.bool false, .string ⟨#[]⟩, .string ⟨#[]⟩])) (by kernel_rfl) rfl ?_
  intro bk4 _ _ hbk4_r
  obtain ⟨ne_bk4_bk3, hbk4_r⟩ := Reg.ne_of_put hbk4_r
  have ne_bk3_bk4 := Ne.symm ne_bk4_bk3
  obtain ⟨ne_bk4_bk2, hbk4_r⟩ := Reg.ne_of_put hbk4_r
  have ne_bk2_bk4 := Ne.symm ne_bk4_bk2
  simp only [Act.put, nA, nB, nC]
  refine Seq.done fun ws1 hws => ?_
  have HS1 : St w [(bk2, 28, #[.bool t1.s, .string t1.a, .string t1.d]), (bk3, 28, #[.bool t2.s, .string t2.a, .string t2.d]), (bk4, 28, #[.bool false, .string ⟨#[]⟩, .string ⟨#[]⟩])] ws1 := hws.list3 (by repeat (first | exact rS | refine rN (by assumption) ?_)) (by repeat (first | exact rS | refine rN (by assumption) ?_)) (by repeat (first | exact rS | refine rN (by assumption) ?_)) (by assumption) (by assumption) (by assumption)
  clear HS hws
  go_upto_region 1 with (fail)
  have HPbk4 : St w [(bk4, 28, #[.bool false, .string ⟨#[]⟩, .string ⟨#[]⟩]), (bk2, 28, #[.bool t1.s, .string t1.a, .string t1.d]), (bk3, 28, #[.bool t2.s, .string t2.a, .string t2.d])] _ := St.perm HS1 (List.perm_middle (l₁ := ([(bk2, 28, #[.bool t1.s, .string t1.a, .string t1.d]), (bk3, 28, #[.bool t2.s, .string t2.a, .string t2.d])] : List Own)))
  refine wp_seq [] (by kernel_rfl) (by kernel_rfl) (Reg.fin.put Reg.fin_no _ _) (StR.move (StR.no HPbk4)) ?_
  refine Seq.load rfl rfl rfl rfl (by repeat (first | exact mC | apply mT)) (n := 3) rfl (by kernel_rfl) ?_
  simp only [Act.put, nA, nB, nC]
  refine Seq.load rfl rfl rfl rfl (by repeat (first | exact mC | apply mT)) (n := 3) rfl (by kernel_rfl) ?_
  simp only [Act.put, nA, nB, nC]
  refine Seq.call rfl rfl rfl rfl (by kernel_rfl) (neg_w HT.out H2.out rfl (by omega)) ?_
  simp only [Act.put, nA, nB, nC]
  refine Seq.call rfl rfl rfl rfl (by kernel_rfl) (add_w (t1 := t1) (t2 := rt (-y)) HT.out H1.out (RawT.rc H2.out.rz.neg) (Rat.sub_eq_add_neg x y).symm hk) ?_
  simp only [Act.put, nA, nB, nC]
  refine Seq.store rfl rfl rfl rfl rfl (by repeat (first | exact rS | refine rN (by assumption) ?_)) (n := 3) rfl rfl (by kernel_rfl) (RC_one _) ?_
  simp only [Act.put, nA, nB, nC]
  refine Seq.done fun ws2 hws => ?_
  have HS2 : St w [(bk4, 28, RC (x - y)), (bk2, 28, #[.bool t1.s, .string t1.a, .string t1.d]), (bk3, 28, #[.bool t2.s, .string t2.a, .string t2.d])] ws2 := hws.list1 (by repeat (first | exact rS | refine rN (by assumption) ?_))
  clear HS1 hws HPbk4
  go_wp2_with fail
  exact ret_own rfl rfl rfl HS2 (by repeat (first | exact mC | apply mT)) (n := 3) rfl (by kernel_rfl) ⟨rfl, HS2.below⟩
end

section
variable {W : World} {l : List Own} {k : Nat} {x y : Rat} {g1 g2 : Bool} {t1 t2 : RT}
end
end Go.Proofs.YtekbpiooecdopaaDoor
