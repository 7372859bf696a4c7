/- Joined texts: PoL Po2 Po3. -/
import Derived.Test.YtmchjmflkaiakaaGreatDoorPo1
import Derived.Deep.LoopGhost
/- Plain laws of polygons. -/
set_option maxHeartbeats 4000000
set_option maxRecDepth 100000
namespace Go.Proofs.YtmchjmflkaiakaaGreatDoor
open Go.RowKit
set_option linter.unusedVariables false
set_option linter.unusedSimpArgs false
def mvx (c s tx ty x y : Rat) : Rat := tx + (x * c - y * s)
def mvy (c s tx ty x y : Rat) : Rat := ty + (x * s + y * c)
def mvP (c s tx ty : Rat) (ps : Pts) : Pts := ps.map fun p => (mvx c s tx ty p.1 p.2, mvy c s tx ty p.1 p.2)
theorem mvP_len (c s tx ty : Rat) (ps : Pts) : (mvP c s tx ty ps).length = ps.length := by simp [mvP]
theorem px_mv {c s tx ty : Rat} {ps : Pts} {i : Nat} (h : i < ps.length) : px (mvP c s tx ty ps) i = mvx c s tx ty (px ps i) (py ps i) := by
 simp [px, py, mvP, List.getD_eq_getElem?_getD, h]
theorem py_mv {c s tx ty : Rat} {ps : Pts} {i : Nat} (h : i < ps.length) : py (mvP c s tx ty ps) i = mvy c s tx ty (px ps i) (py ps i) := by
 simp [px, py, mvP, List.getD_eq_getElem?_getD, h]
theorem lf_mv {c s tx ty : Rat} (h : c * c + s * s = 1) (a b d e f g : Rat) :
  lf (mvx c s tx ty a b) (mvy c s tx ty a b) (mvx c s tx ty d e) (mvy c s tx ty d e) (mvx c s tx ty f g) (mvy c s tx ty f g) = lf a b d e f g := by
 have e1 : lf (mvx c s tx ty a b) (mvy c s tx ty a b) (mvx c s tx ty d e) (mvy c s tx ty d e) (mvx c s tx ty f g) (mvy c s tx ty f g) = lf a b d e f g * (c * c + s * s) := by
  unfold lf mvx mvy; grind
 rw [e1, h, Rat.mul_one]
theorem lfp_mv {c s tx ty : Rat} (h : c * c + s * s = 1) {ps : Pts} {i j m : Nat} (hi : i < ps.length) (hj : j < ps.length) (hm : m < ps.length) : lfp (mvP c s tx ty ps) i j m = lfp ps i j m := by
 unfold lfp
 rw [px_mv hi, py_mv hi, px_mv hj, py_mv hj, px_mv hm, py_mv hm, lf_mv h]
theorem cvx_mv {c s tx ty : Rat} (h : c * c + s * s = 1) {ps : Pts} (hc : Cvx ps) : Cvx (mvP c s tx ty ps) := by
 intro i hi k h2 hk
 rw [mvP_len] at *
 have hn : 0 < ps.length := by omega
 rw [lfp_mv h hi (Nat.mod_lt _ hn) (Nat.mod_lt _ hn)]
 exact hc i hi k h2 hk
def hasB (ps : Pts) (x y : Rat) : Bool := (List.range ps.length).all fun i => decide (0 ≤ lf (px ps i) (py ps i) (px ps ((i + 1) % ps.length)) (py ps ((i + 1) % ps.length)) x y)
def areaS (ps : Pts) : Nat → Rat
 | 0 => 0
 | i + 1 => areaS ps i + (px ps i * py ps ((i + 1) % ps.length) - py ps i * px ps ((i + 1) % ps.length))
def areaQ (ps : Pts) : Rat := (((1 : Int) : Rat) / ((2 : Int) : Rat)) * areaS ps ps.length
theorem cvx_all {ps : Pts} (hc : Cvx ps) {j i : Nat} (hj : j < ps.length) (hi : i < ps.length) : 0 ≤ lfp ps j ((j + 1) % ps.length) i := by
 obtain ⟨k, hk, hki⟩ : ∃ k, k < ps.length ∧ (j + k) % ps.length = i := by
  rcases Nat.lt_or_ge i j with h | h
  ·exact ⟨i + ps.length - j, by omega, by rw [show j + (i + ps.length - j) = i + ps.length by omega, Nat.add_mod_right]; exact Nat.mod_eq_of_lt hi⟩
  ·exact ⟨i - j, by omega, by rw [show j + (i - j) = i by omega]; exact Nat.mod_eq_of_lt hi⟩
 rcases Nat.lt_or_ge k 2 with h | h
 ·have : k = 0 ∨ k = 1 := by omega
  rcases this with rfl | rfl
  ·rw [Nat.add_zero, Nat.mod_eq_of_lt hj] at hki
   subst hki
   have : lfp ps j ((j + 1) % ps.length) j = 0 := by unfold lfp lf; grind
   rw [this]; exact Rat.le_refl
  ·rw [hki]
   have : lfp ps j i i = 0 := by unfold lfp lf; grind
   rw [this]; exact Rat.le_refl
 ·have := hc j hj k h hk
  rw [hki] at this; grind
theorem has_mid {ps : Pts} (hc : Cvx ps) {i k : Nat} (hi : i < ps.length) (hk : k < ps.length) {hf : Rat} (hh : hf = 1 / 2) : hasB ps ((px ps i + px ps k) * hf) ((py ps i + py ps k) * hf) = true := by
 unfold hasB
 rw [List.all_eq_true]
 intro j hj
 have hj := List.mem_range.1 hj
 have h1 := cvx_all hc hj hi
 have h2 := cvx_all hc hj hk
 rw [decide_eq_true_eq]
 subst hh
 unfold lfp at h1 h2
 unfold lf at *
 grind
theorem has_corner {ps : Pts} (hc : Cvx ps) {i : Nat} (hi : i < ps.length) : hasB ps (px ps i) (py ps i) = true := by
 have h := has_mid hc hi hi rfl
 have e1 : (px ps i + px ps i) * (1 / 2) = px ps i := by grind
 have e2 : (py ps i + py ps i) * (1 / 2) = py ps i := by grind
 rwa [e1, e2] at h
def supF (ps : Pts) (x y : Rat) : Nat → Nat
 | 0 => 0
 | i + 1 => if px ps (supF ps x y i) * x + py ps (supF ps x y i) * y < px ps i * x + py ps i * y then i else supF ps x y i
theorem sup_lt {ps : Pts} {x y : Rat} : ∀ i, 0 < i → supF ps x y i < i := by
 intro i
 induction i with
 | zero => intro h; omega
 | succ i ih =>
   intro _
   simp only [supF]
   split
   ·omega
   ·rcases Nat.eq_zero_or_pos i with h | h
    ·subst h; simp [supF]
    ·have := ih h; omega
theorem sup_le {ps : Pts} {x y : Rat} : ∀ i, ∀ j, j < i → px ps j * x + py ps j * y ≤ px ps (supF ps x y i) * x + py ps (supF ps x y i) * y := by
 intro i
 induction i with
 | zero => intro j h; omega
 | succ i ih =>
   intro j hj
   simp only [supF]
   rcases Nat.lt_or_ge j i with h | h
   ·have := ih j h
    split <;> grind
   ·have : j = i := by omega
    subst this
    split <;> grind
def mnF (f : Nat → Rat) : Nat → Rat
 | 0 => f 0
 | i + 1 => minQ (mnF f i) (f (i + 1))
def mxF (f : Nat → Rat) : Nat → Rat
 | 0 => f 0
 | i + 1 => maxQ (mxF f i) (f (i + 1))
theorem mn_le {f : Nat → Rat} : ∀ i j, j ≤ i → mnF f i ≤ f j := by
 intro i
 induction i with
 | zero => intro j h; have : j = 0 := by omega
           subst this; exact Rat.le_refl
 | succ i ih =>
   intro j hj
   simp only [mnF]
   rcases Nat.lt_or_ge j (i + 1) with h | h
   ·have := ih j (by omega)
    unfold minQ cmpQ; grind
   ·have : j = i + 1 := by omega
    subst this
    unfold minQ cmpQ; grind
theorem mx_ge {f : Nat → Rat} : ∀ i j, j ≤ i → f j ≤ mxF f i := by
 intro i
 induction i with
 | zero => intro j h; have : j = 0 := by omega
           subst this; exact Rat.le_refl
 | succ i ih =>
   intro j hj
   simp only [mxF]
   rcases Nat.lt_or_ge j (i + 1) with h | h
   ·have := ih j (by omega)
    unfold maxQ cmpQ; grind
   ·have : j = i + 1 := by omega
    subst this
    unfold maxQ cmpQ; grind
def nxV (xs : List Int) (m : Nat) : Nat := match xs with | [] => 0 | x :: _ => belowN x m
theorem nxV_lt (xs : List Int) {m : Nat} (h : 0 < m) : nxV xs m < m := by
 cases xs with
 | nil => exact h
 | cons x xs => exact belowN_lt x h
def q4 (z : Int) : Rat := mkRat z 4
def shape (w h c x : Nat) : Pts :=
 if c = 0 then [(q4 (-(w : Int)), q4 (-(h : Int))), (q4 w, q4 (-(h : Int))), (q4 w, q4 h), (q4 (-(w : Int)), q4 h)]
 else if c = 1 then [(q4 (-(w : Int)), q4 (-(h : Int))), (q4 w, q4 (-(h : Int))), (q4 ((x : Int) - w), q4 h)]
 else if c = 2 then [(q4 (-(w : Int) - 1), q4 (-(h : Int) - 1)), (q4 w, q4 (-(h : Int) - 1)), (q4 (w + 1), q4 (-(h : Int))), (q4 (w + 1), q4 h), (q4 (-(w : Int) - 1), q4 h)]
 else [(q4 (-(w : Int)), q4 0), (q4 0, q4 (-(h : Int))), (q4 w, q4 0), (q4 0, q4 h)]
def cvxB (ps : Pts) : Bool := (List.range ps.length).all fun i => (List.range ps.length).all fun k => decide (k < 2) || decide (0 < lfp ps i ((i + 1) % ps.length) ((i + k) % ps.length))
theorem cvx_of {ps : Pts} (h : cvxB ps = true) : Cvx ps := by
 unfold cvxB at h
 simp only [List.all_eq_true, List.mem_range, Bool.or_eq_true, decide_eq_true_eq] at h
 intro i hi k h2 hk
 rcases h i hi k hk with h3 | h3
 ·omega
 ·exact h3
def polyQ (xs : List Int) : Pts := shape (1 + nxV xs 6) (1 + nxV xs.tail 6) (nxV xs.tail.tail 4) (nxV xs.tail.tail.tail (2 * (1 + nxV xs 6) + 1))
def shapesOK : Bool := (List.range 6).all fun w => (List.range 6).all fun h => (List.range 13).all fun x => cvxB (shape (1 + w) (1 + h) 0 x) && cvxB (shape (1 + w) (1 + h) 1 x) && cvxB (shape (1 + w) (1 + h) 2 x) && cvxB (shape (1 + w) (1 + h) 3 x)
theorem shapes_ok : shapesOK = true := by decide +kernel
theorem shape_cvx {w h c x : Nat} (hw : w < 6) (hh : h < 6) (hx : x < 13) : Cvx (shape (1 + w) (1 + h) c x) := by
 have H := shapes_ok
 simp only [shapesOK, List.all_eq_true, List.mem_range, Bool.and_eq_true] at H
 obtain ⟨⟨⟨h0, h1⟩, h2⟩, h3⟩ := H w hw h hh x hx
 by_cases c0 : c = 0
 ·subst c0; exact cvx_of h0
 ·by_cases c1 : c = 1
  ·subst c1; exact cvx_of h1
  ·by_cases c2 : c = 2
   ·subst c2; exact cvx_of h2
   ·have e : shape (1 + w) (1 + h) c x = shape (1 + w) (1 + h) 3 x := by simp [shape, c0, c1, c2]
    rw [e]; exact cvx_of h3
theorem polyQ_cvx (xs : List Int) : Cvx (polyQ xs) := by
 have h1 := nxV_lt xs (show 0 < 6 by omega)
 have h2 := nxV_lt xs.tail (show 0 < 6 by omega)
 have h3 := nxV_lt xs.tail.tail.tail (show 0 < 2 * (1 + nxV xs 6) + 1 by omega)
 exact shape_cvx h1 h2 (by omega)
theorem shape_len (w h c x : Nat) : 3 ≤ (shape w h c x).length ∧ (shape w h c x).length ≤ 5 := by
 unfold shape
 split
 ·simp
 ·split
  ·simp
  ·split <;> simp
def hasAt (ps : Pts) (x y : Rat) (i : Nat) : Bool := decide (0 ≤ lf (px ps i) (py ps i) (px ps ((i + 1) % ps.length)) (py ps ((i + 1) % ps.length)) x y)
theorem hasB_at {ps : Pts} {x y : Rat} : hasB ps x y = true ↔ ∀ i, i < ps.length → hasAt ps x y i = true := by
 unfold hasB
 rw [List.all_eq_true]
 exact ⟨fun h i hi => h i (List.mem_range.2 hi), fun h i hi => h i (List.mem_range.1 hi)⟩
def fz (k : Nat) : Nat → Nat
 | 0 => 2
 | i + 1 => 2 * fz k i + 16 * k + 100
theorem fz_mono (k : Nat) {i j : Nat} (h : i ≤ j) : fz k i ≤ fz k j := by
 induction h with
 | refl => exact Nat.le_refl _
 | step h ih => simp only [fz]; omega
theorem fz_le {k i : Nat} (hk : k ≤ 100000) (hi : i ≤ 16) : fz k i ≤ 1000000000000 := by
 have h := fz_mono k hi
 have e : fz k 16 ≤ 1000000000000 := by simp only [fz]; omega
 omega
variable {W : World} {l : List Own}
theorem run_load_at {P : Program} {w : World} {t : TypeId} {p : Addr} {v : Value} (hc : w.cell? p = some v) (ht : cellOf P t = true) (h1 : v.oneCell' = true) : (loadVar t p).run P w = .ok v w := by
 unfold cellOf at ht
 cases hu : P.underlying t with
 | none => simp [hu] at ht
 | some d =>
   have hagg : (isAgg t).run P w = .ok false w := by
    unfold isAgg
    rw [Sem.run_bind, run_underlying hu w]
    rw [hu] at ht
    cases d <;> simp_all
   have hadd : p.add 0 = p := by simp [Addr.add]
   have hr : (load p).run P w = .ok v w := by
    have h := run_loadCells_list (P := P) w p [v] (fun j u hj => by
     have hj0 : j = 0 := by have := (List.getElem?_eq_some_iff.1 hj).1; simp at this; omega
     subst hj0
     rw [hadd, hc]; simpa using hj)
    simp only [loadCells, loadCellsFrom, List.length_cons, List.length_nil, Nat.zero_add, hadd, Sem.run_bind] at h
    cases hq : (load p).run P w with
    | ok u w' =>
      rw [hq] at h
      simp at h
      rw [h.1, h.2]
    | halt x w' => rw [hq] at h; simp at h
   unfold loadVar
   rw [Sem.run_bind, hagg]
   exact hr
section
variable {P : Program} {ops : Array Oper} {W : World} {l : List Own} {Q : Exit → Act → World → Prop} {gs : List Nat} {k : Nat} {o : Oper} {rest : List Oper} {a : Act} {R : Reg}
theorem Seq.loadOut {t : TypeId} {x : Operand} {p : Addr} {v : Value} (ho : o.op = .load t x) (hk : kd gs k o = .val) (hw : wants ops o a = true) (hx : a.eval x = .pointer (some p))
  (hp : p.block < W.heap.size) (hv : W.cell? p = some v) (ht : cellOf P t = true) (h1 : v.oneCell' = true)
  (h : Seq P ops Q W l gs (k + 1) rest (a.put o.dst v) R) : Seq P ops Q W l gs k (o :: rest) a R :=
 Seq.look hk hw (fun w hs => by
  unfold execOp
  simp only [ho, hx, Instr.loadAt, Instr.sureAddr, Sem.run_bind, Sem.run_pure, Result.andThen_ok, run_load_at ((hs.below.cell hp).trans hv) ht h1]) h
end
def slT (A : Option Addr) (n c : Nat) : Value := .slice (if c = 1 then A else A.map (·.add 1)) (n - 1) (c - 1)
def slN (A : Option Addr) (n c : Nat) : Value := if n = 0 then .slice A n c else slT A n c
def slA (A : Option Addr) (n c : Nat) : Option Addr := if n = 0 then A else if c = 1 then A else A.map (·.add 1)
def slL (n : Nat) : Nat := if n = 0 then 0 else n - 1
def slC (n c : Nat) : Nat := if n = 0 then c else c - 1
theorem slN_eq (A : Option Addr) (n c : Nat) : slN A n c = .slice (slA A n c) (slL n) (slC n c) := by
 unfold slN slT slA slL slC
 split
 ·rename_i h; subst h; rfl
 ·rfl
def intsOf (xs : List Int) : List Value := xs.map fun x => .int .i64 x
def Ints (W : World) (A : Option Addr) (n c : Nat) (xs : List Int) : Prop := Reads W W.heap.size 1 A n (intsOf xs) ∧ n ≤ c ∧ ∀ x ∈ xs, -9223372036854775808 ≤ x ∧ x ≤ 9223372036854775807
theorem Ints.len {W : World} {A : Option Addr} {n c : Nat} {xs : List Int} (h : Ints W A n c xs) : xs.length = n := by
 have := h.1.1; simpa [intsOf] using this
theorem Ints.tail {W : World} {A : Option Addr} {n c : Nat} {xs : List Int} (h : Ints W A n c xs) : Ints W (slA A n c) (slL n) (slC n c) xs.tail := by
 have hl := h.len
 obtain ⟨h1, h2, h3⟩ := h
 unfold slA slL slC
 by_cases h0 : n = 0
 ·subst h0
  rw [if_pos rfl, if_pos rfl, if_pos rfl]
  have : xs = [] := List.eq_nil_of_length_eq_zero hl
  subst this
  exact ⟨h1, by omega, h3⟩
 ·rw [if_neg h0, if_neg h0, if_neg h0]
  have hc := h1.cut (k := 1) (cap := c) (by omega) h2
  rw [Nat.one_mul] at hc
  refine ⟨?_, by omega, fun x hx => h3 x (List.mem_of_mem_tail hx)⟩
  have e : (intsOf xs).drop 1 = intsOf xs.tail := by unfold intsOf; cases xs <;> rfl
  rw [e] at hc
  exact hc
theorem Ints.head {W : World} {A : Option Addr} {n c : Nat} {x : Int} {xs : List Int} (h : Ints W A n c (x :: xs)) : ∃ ad, A = some ad ∧ ad.block < W.heap.size ∧ W.cell? (ad.add 0) = some (.int .i64 x) ∧ 0 < n := by
 have hl := h.len
 have h0 : 0 < n := by rw [← hl]; simp
 obtain ⟨ad, u, h1, h2, h3, h4⟩ := h.1.at_ h0
 refine ⟨ad, h1, h2, ?_, h0⟩
 have : u = .int .i64 x := by simpa [intsOf] using h3.symm
 rw [h4, this]
theorem next_0 {W : World} {l : List Own} {g n c m : Nat} {A : Option Addr} (hn : n = 0) (w : World) (h : St W ((g, 101, #[.slice A n c]) :: l) w) :
  Calls Tryz.prog 105 #[.pointer (some ⟨g, 0, none⟩), .int .i64 (m : Int)] w fun e w' => e = .returned (.int .i64 0) ∧ St W ((g, 101, #[.slice A n c]) :: l) w' := by
 have HN := yh hn; clear hn
 have HX := yh trivial
 have HS := h; clear h
 go_enter Tryz.func105, Tryz.ntmps105
 go_upto_region 0 with fail
 refine rgT [] HS ?_
 refine pU ?_
 refine dnS fun _ HS1=>?_
 clear HS
 go_upto_region 1 with fail
 refine rgT [] HS1 ?_
 iterate 3 refine pU ?_
 refine lC (.slice A n c) ?_
 refine pV (.int .i64 (n : Int)) (by intro w; go_simp <;> (first | (rw [HX.out]; done) | exact HX.out | (simp [HX.out]; done))) ?_
 refine pV (.bool true) (by intro w; go_simp <;> (first | (rw [HN.out]; done) | exact HN.out | (simp [HN.out]; done))) ?_
 refine pU ?_
 iterate 2 refine nW ?_
 refine pU ?_
 refine dnS fun _ HS2=>?_
 clear HS1
 go_upto_region 2 with fail
 refine rgT [] HS2 ?_
 refine pU ?_
 refine dnS fun _ HS3=>?_
 clear HS2
 go_wp2_with fail
 go_ret
 exact ⟨rfl, HS3⟩
theorem next_1 {W : World} {l : List Own} {g n c m : Nat} {ad : Addr} {x : Int} (hn : 0 < n) (hb : ad.block < W.heap.size) (hx : W.cell? (ad.add 0) = some (.int .i64 x)) (hr : -9223372036854775808 ≤ x ∧ x ≤ 9223372036854775807) (hm : 0 < m ∧ m ≤ 1048576) (hnc : n ≤ c)
  (w : World) (h : St W ((g, 101, #[.slice (some ad) n c]) :: l) w) :
  Calls Tryz.prog 105 #[.pointer (some ⟨g, 0, none⟩), .int .i64 (m : Int)] w fun e w' => e = .returned (.int .i64 ((belowN x m : Nat) : Int)) ∧ St W ((g, 101, #[slT (some ad) n c]) :: l) w' := by
 have HN := yh (show ¬ n = 0 by omega)
 have HN0 := yh (And.intro (show 1 ≤ n from hn) hnc)
 have HNI := yh (show ¬ (n : Int) < 1 by omega)
 have HX := yh trivial
 have HM := yh (show (1 : Int) ≤ (m : Int) by omega)
 have HM2 := yh hm
 have HA := yh (And.intro hb hx)
 have HXR := yh hr
 clear hn hb hx hr hm hnc
 have HS := h; clear h
 go_enter Tryz.func105, Tryz.ntmps105
 go_upto_region 0 with fail
 refine rgT [] HS ?_
 refine pU ?_
 refine dnS fun _ HS1=>?_
 clear HS
 go_upto_region 1 with fail
 refine rgT [] HS1 ?_
 iterate 3 refine pU ?_
 refine lC (.slice (some ad) n c) ?_
 refine pV (.int .i64 (n : Int)) (by intro w; go_simp <;> (first | (rw [HX.out]; done) | exact HX.out | (simp [HX.out]; done))) ?_
 refine pV (.bool false) (by intro w; go_simp <;> (first | (rw [HN.out]; done) | exact HN.out | (simp [HN.out]; done))) ?_
 iterate 2 refine pU ?_
 refine pV (.bool false) (by intro w; go_simp <;> (first | (rw [HM.out]; done) | exact HM.out | (simp [HM.out]; done))) ?_
 refine pU ?_
 refine dnS fun _ HS2=>?_
 clear HS1
 go_upto_region 3 with fail
 refine rgT [] HS2 ?_
 iterate 3 refine pU ?_
 refine lC (.slice (some ad) n c) ?_
 refine pV (.pointer (some (ad.add 0))) (by intro w; go_simp <;> (first | rfl | (intro h0; exact absurd h0 HN.out) | simp [HN0.out])) ?_
 refine Seq.loadOut rfl rfl rfl rfl (by rw [block_of_add]; exact HA.out.1) HA.out.2 (by kernel_rfl) rfl (nZ ?_)
 refine pU ?_
 refine dnS fun _ HS3=>?_
 clear HS2
 go_upto_region 4 with fail
 refine wp_seq_text [3000000, 8] (StR.move (StR.no HS3)) ?_
 iterate 4 refine pU ?_
 refine Seq.getCell rfl rfl rfl rfl (by repeat first|exact rS|refine rN ‹_› ?_) (v := .slice (some ad) n c) rfl (by kernel_rfl) rfl (nZ ?_)
 refine pV (slT (some ad) n c) (by intro w; unfold slT; go_simp <;> (first | rfl | (intro h0; exact absurd h0 HNI.out) | simp [HN0.out])) ?_
 iterate 2 refine pU ?_
 refine Seq.storeAt (v := slT (some ad) n c) rfl rfl rfl rfl rfl (by repeat first|exact rS|refine rN ‹_› ?_) (by simp [slT, Value.cells]) (by kernel_rfl) (by intro u hu; simp [slT, Value.cells] at hu; subst hu; rfl) (cs' := #[slT (some ad) n c]) (by simp [slT, Value.cells]) (nZ ?_)
 refine Seq.done fun ws4 hws => ?_
 have HS4 : St W ((g, 101, #[slT (some ad) n c]) :: l) ws4 := hws.q1
 clear HS3 hws
 go_upto_region 5 with fail
 refine rgT [] HS4 ?_
 iterate 2 refine pU ?_
 refine cL (below_q (n := m) HXR.out.1 HXR.out.2 HM2.out.1 HM2.out.2) ?_
 refine pU ?_
 refine dnS fun _ HS5=>?_
 clear HS4
 go_wp2_with fail
 go_ret
 exact ⟨rfl, HS5⟩
theorem next_S {W : World} {l : List Own} {g n c m : Nat} {A : Option Addr} {xs : List Int} (hi : Ints W A n c xs) (hm : 0 < m ∧ m ≤ 1048576) (w : World) (h : St W ((g, 101, #[.slice A n c]) :: l) w) :
  Calls Tryz.prog 105 #[.pointer (some ⟨g, 0, none⟩), .int .i64 (m : Int)] w fun e w' => e = .returned (.int .i64 ((nxV xs m : Nat) : Int)) ∧ St W ((g, 101, #[.slice (slA A n c) (slL n) (slC n c)]) :: l) w' := by
 cases xs with
 | nil =>
   have h0 : n = 0 := by rw [← hi.len]; rfl
   subst h0
   exact next_0 rfl w h
 | cons x xs =>
   obtain ⟨ad, rfl, h1, h2, h3⟩ := hi.head
   have := next_1 h3 h1 h2 (hi.2.2 x List.mem_cons_self) hm hi.2.1 w h
   rw [show slT (some ad) n c = .slice (slA (some ad) n c) (slL n) (slC n c) by rw [← slN_eq]; unfold slN; rw [if_neg (by omega)]] at this
   exact this
theorem StR.only {W : World} {l : List Own} {p : Nat} {x : TypeId × Array Value} {w : World} (h : StR W l (Reg.no.put p x) w) : St W ((p, x) :: l) w := (h.take rS).st
theorem next_R {W : World} {l : List Own} {g n c m n' c' v : Nat} {A A' : Option Addr} {xs : List Int} (hi : Ints W A n c xs) (hv : nxV xs m = v) (hA : slA A n c = A' ∧ slL n = n' ∧ slC n c = c') (hm : 0 < m ∧ m ≤ 1048576) (w : World) (h : StR W l (Reg.no.put g (101, #[.slice A n c])) w) :
  Calls Tryz.prog 105 #[.pointer (some ⟨g, 0, none⟩), .int .i64 (m : Int)] w fun e w' => e = .returned (.int .i64 (v : Int)) ∧ StR W l (Reg.no.put g (101, #[.slice A' n' c'])) w' := by
 obtain ⟨rfl, rfl, rfl⟩ := hA
 subst hv
 exact (next_S hi hm w h.only).mono fun e w' ⟨h1, h2⟩ => ⟨h1, StR.move (StR.no h2)⟩
theorem of4_q {z : Int} {q : Rat} (hq : q4 z = q) (h0 : -1048576 ≤ z) (h1 : z ≤ 1048576) (w : World) (h : St W l w) : Rt 95 #[.int .i64 z, .int .i64 4] w (.agg (RC q)) := by
 rw [← hq]; exact ofM_R z 4 w h0 h1 (by omega) (by omega)
theorem at_q {x y : Int} {z0 z1 : Rat} (hx : -1048576 ≤ x ∧ x ≤ 1048576) (hy : -1048576 ≤ y ∧ y ≤ 1048576) (hz0 : q4 x = z0) (hz1 : q4 y = z1) (w : World) (h : St W l w) : Rt 106 #[.int .i64 x, .int .i64 y] w (.agg (VC z0 z1)) := by
 subst hz0 hz1
 have HI := yh (And.intro hx hy); clear hx hy h
 go_enter Tryz.func106, Tryz.ntmps106
 have HS : St w [] w := St.start
 go_upto_region 0 with fail
 refine rgT [] HS ?_
 refine aL6 ?_
 intro bk4 _ _ e4
 refine nZ ?_
 refine dn1 bk4 fun _ HS1=>?_
 clear HS
 go_upto_region 1 with fail
 refine wp_seq_text [] (StR.move (StR.no HS1)) ?_
 refine pU ?_
 refine cL (of4_q rfl HI.out.1.1 HI.out.1.2) ?_
 refine pU ?_
 refine cL (of4_q rfl HI.out.2.1 HI.out.2.2) ?_
 refine pV (.agg (VC (q4 x) (q4 y))) (fun w => bld_Vec rfl rfl rfl w) ?_
 refine sV (VC_one _ _) ?_
 refine dn1 bk4 fun _ HS2=>?_
 clear HS1
 go_wp2_with fail
 exact rO HS2 ⟨rfl, HS2.below⟩
theorem slcP_3 {o : Oper} {a : Act} {X0 X1 X2 : Operand} {x0 y0 x1 y1 x2 y2 : Rat} (ho : o.op = .buildSlice 24 3 #[(0, X0), (1, X1), (2, X2)]) (h0 : a.eval X0 = .agg (VC x0 y0)) (h1 : a.eval X1 = .agg (VC x1 y1)) (h2 : a.eval X2 = .agg (VC x2 y2)) (w : World) :
  (execOp a.eval o).run Tryz.prog w = .ok (.value (.slice (some ⟨w.heap.size, 0, none⟩) 3 3)) (w.alloc (.cells (PC [(x0, y0), (x1, y1), (x2, y2)]) 29)) := by
 have e : PC [(x0, y0), (x1, y1), (x2, y2)] = #[.bool (decide (Rat.num x0 < 0)), .string (S (Rat.num x0).natAbs), .string (S (Rat.den x0)), .bool (decide (Rat.num y0 < 0)), .string (S (Rat.num y0).natAbs), .string (S (Rat.den y0)), .bool (decide (Rat.num x1 < 0)), .string (S (Rat.num x1).natAbs), .string (S (Rat.den x1)), .bool (decide (Rat.num y1 < 0)), .string (S (Rat.num y1).natAbs), .string (S (Rat.den y1)), .bool (decide (Rat.num x2 < 0)), .string (S (Rat.num x2).natAbs), .string (S (Rat.den x2)), .bool (decide (Rat.num y2 < 0)), .string (S (Rat.num y2).natAbs), .string (S (Rat.den y2))] := rfl
 rw [e]
 unfold VC at h0 h1 h2
 unfold execOp
 simp only [ho, List.map_toArray, List.map_cons, List.map_nil, h0, h1, h2]
 go_simp
theorem slcP_4 {o : Oper} {a : Act} {X0 X1 X2 X3 : Operand} {x0 y0 x1 y1 x2 y2 x3 y3 : Rat} (ho : o.op = .buildSlice 24 4 #[(0, X0), (1, X1), (2, X2), (3, X3)]) (h0 : a.eval X0 = .agg (VC x0 y0)) (h1 : a.eval X1 = .agg (VC x1 y1)) (h2 : a.eval X2 = .agg (VC x2 y2)) (h3 : a.eval X3 = .agg (VC x3 y3)) (w : World) :
  (execOp a.eval o).run Tryz.prog w = .ok (.value (.slice (some ⟨w.heap.size, 0, none⟩) 4 4)) (w.alloc (.cells (PC [(x0, y0), (x1, y1), (x2, y2), (x3, y3)]) 29)) := by
 have e : PC [(x0, y0), (x1, y1), (x2, y2), (x3, y3)] = #[.bool (decide (Rat.num x0 < 0)), .string (S (Rat.num x0).natAbs), .string (S (Rat.den x0)), .bool (decide (Rat.num y0 < 0)), .string (S (Rat.num y0).natAbs), .string (S (Rat.den y0)), .bool (decide (Rat.num x1 < 0)), .string (S (Rat.num x1).natAbs), .string (S (Rat.den x1)), .bool (decide (Rat.num y1 < 0)), .string (S (Rat.num y1).natAbs), .string (S (Rat.den y1)), .bool (decide (Rat.num x2 < 0)), .string (S (Rat.num x2).natAbs), .string (S (Rat.den x2)), .bool (decide (Rat.num y2 < 0)), .string (S (Rat.num y2).natAbs), .string (S (Rat.den y2)), .bool (decide (Rat.num x3 < 0)), .string (S (Rat.num x3).natAbs), .string (S (Rat.den x3)), .bool (decide (Rat.num y3 < 0)), .string (S (Rat.num y3).natAbs), .string (S (Rat.den y3))] := rfl
 rw [e]
 unfold VC at h0 h1 h2 h3
 unfold execOp
 simp only [ho, List.map_toArray, List.map_cons, List.map_nil, h0, h1, h2, h3]
 go_simp
theorem slcP_5 {o : Oper} {a : Act} {X0 X1 X2 X3 X4 : Operand} {x0 y0 x1 y1 x2 y2 x3 y3 x4 y4 : Rat} (ho : o.op = .buildSlice 24 5 #[(0, X0), (1, X1), (2, X2), (3, X3), (4, X4)]) (h0 : a.eval X0 = .agg (VC x0 y0)) (h1 : a.eval X1 = .agg (VC x1 y1)) (h2 : a.eval X2 = .agg (VC x2 y2)) (h3 : a.eval X3 = .agg (VC x3 y3)) (h4 : a.eval X4 = .agg (VC x4 y4)) (w : World) :
  (execOp a.eval o).run Tryz.prog w = .ok (.value (.slice (some ⟨w.heap.size, 0, none⟩) 5 5)) (w.alloc (.cells (PC [(x0, y0), (x1, y1), (x2, y2), (x3, y3), (x4, y4)]) 29)) := by
 have e : PC [(x0, y0), (x1, y1), (x2, y2), (x3, y3), (x4, y4)] = #[.bool (decide (Rat.num x0 < 0)), .string (S (Rat.num x0).natAbs), .string (S (Rat.den x0)), .bool (decide (Rat.num y0 < 0)), .string (S (Rat.num y0).natAbs), .string (S (Rat.den y0)), .bool (decide (Rat.num x1 < 0)), .string (S (Rat.num x1).natAbs), .string (S (Rat.den x1)), .bool (decide (Rat.num y1 < 0)), .string (S (Rat.num y1).natAbs), .string (S (Rat.den y1)), .bool (decide (Rat.num x2 < 0)), .string (S (Rat.num x2).natAbs), .string (S (Rat.den x2)), .bool (decide (Rat.num y2 < 0)), .string (S (Rat.num y2).natAbs), .string (S (Rat.den y2)), .bool (decide (Rat.num x3 < 0)), .string (S (Rat.num x3).natAbs), .string (S (Rat.den x3)), .bool (decide (Rat.num y3 < 0)), .string (S (Rat.num y3).natAbs), .string (S (Rat.den y3)), .bool (decide (Rat.num x4 < 0)), .string (S (Rat.num x4).natAbs), .string (S (Rat.den x4)), .bool (decide (Rat.num y4 < 0)), .string (S (Rat.num y4).natAbs), .string (S (Rat.den y4))] := rfl
 rw [e]
 unfold VC at h0 h1 h2 h3 h4
 unfold execOp
 simp only [ho, List.map_toArray, List.map_cons, List.map_nil, h0, h1, h2, h3, h4]
 go_simp
theorem poly_0 {W : World} {l : List Own} {g n0 c0 x2 : Nat} {A0 : Option Addr} {xs : List Int} (hi : Ints W A0 n0 c0 xs) (hx2 : nxV xs.tail.tail 4 = x2) (hc : x2 = 0) (w_ : World) (h : St W ((g, 101, #[.slice A0 n0 c0]) :: l) w_) :
  Calls Tryz.prog 62 #[.pointer (some ⟨g, 0, none⟩)] w_ fun e w' => ∃ p sl, e = .returned (mk (some (polyQ xs).length) p) ∧ W.heap.size ≤ p ∧ St W ((p, 29, PC (polyQ xs)) :: (g, 101, #[sl]) :: l) w' := by
 obtain ⟨x0, hx0⟩ : ∃ z, nxV xs 6 = z := ⟨_, rfl⟩
 obtain ⟨x1, hx1⟩ : ∃ z, nxV xs.tail 6 = z := ⟨_, rfl⟩
 obtain ⟨w, hw⟩ : ∃ z, 1 + x0 = z := ⟨_, rfl⟩
 obtain ⟨h_, hh⟩ : ∃ z, 1 + x1 = z := ⟨_, rfl⟩
 obtain ⟨x3, hx3⟩ : ∃ z, nxV xs.tail.tail.tail (2 * w + 1) = z := ⟨_, rfl⟩
 have b0 := nxV_lt xs (show 0 < 6 by omega)
 have b1 := nxV_lt xs.tail (show 0 < 6 by omega)
 have b2 := nxV_lt xs.tail.tail (show 0 < 4 by omega)
 have b3 := nxV_lt xs.tail.tail.tail (show 0 < 2 * w + 1 by omega)
 have HE := yh (show polyQ xs = [(q4 (-(w : Int)), q4 (-(h_ : Int))), (q4 (w : Int), q4 (-(h_ : Int))), (q4 (w : Int), q4 (h_ : Int)), (q4 (-(w : Int)), q4 (h_ : Int))] by
  unfold polyQ shape
  rw [hx0, hw, hx1, hh, hx2, hx3]
  rw [if_pos hc])
 rw [hx0] at b0; rw [hx1] at b1; rw [hx2] at b2; rw [hx3] at b3
 have HI0 := yh hi
 obtain ⟨A1, hA1⟩ : ∃ z, slA A0 n0 c0 = z := ⟨_, rfl⟩
 obtain ⟨n1, hn1⟩ : ∃ z, slL n0 = z := ⟨_, rfl⟩
 obtain ⟨c1, hc1⟩ : ∃ z, slC n0 c0 = z := ⟨_, rfl⟩
 have hi := hi.tail
 rw [hA1, hn1, hc1] at hi
 have HT0 := yh (And.intro hA1 (And.intro hn1 hc1)); clear hA1 hn1 hc1
 have HV0 := yh hx0; clear hx0
 have HI1 := yh hi
 obtain ⟨A2, hA2⟩ : ∃ z, slA A1 n1 c1 = z := ⟨_, rfl⟩
 obtain ⟨n2, hn2⟩ : ∃ z, slL n1 = z := ⟨_, rfl⟩
 obtain ⟨c2, hc2⟩ : ∃ z, slC n1 c1 = z := ⟨_, rfl⟩
 have hi := hi.tail
 rw [hA2, hn2, hc2] at hi
 have HT1 := yh (And.intro hA2 (And.intro hn2 hc2)); clear hA2 hn2 hc2
 have HV1 := yh hx1; clear hx1
 have HI2 := yh hi
 obtain ⟨A3, hA3⟩ : ∃ z, slA A2 n2 c2 = z := ⟨_, rfl⟩
 obtain ⟨n3, hn3⟩ : ∃ z, slL n2 = z := ⟨_, rfl⟩
 obtain ⟨c3, hc3⟩ : ∃ z, slC n2 c2 = z := ⟨_, rfl⟩
 have hi := hi.tail
 rw [hA3, hn3, hc3] at hi
 have HT2 := yh (And.intro hA3 (And.intro hn3 hc3)); clear hA3 hn3 hc3
 have HV2 := yh hx2; clear hx2
 have HI3 := yh hi
 obtain ⟨A4, hA4⟩ : ∃ z, slA A3 n3 c3 = z := ⟨_, rfl⟩
 obtain ⟨n4, hn4⟩ : ∃ z, slL n3 = z := ⟨_, rfl⟩
 obtain ⟨c4, hc4⟩ : ∃ z, slC n3 c3 = z := ⟨_, rfl⟩
 have hi := hi.tail
 rw [hA4, hn4, hc4] at hi
 have HT3 := yh (And.intro hA4 (And.intro hn4 hc4)); clear hA4 hn4 hc4
 have HV3 := yh hx3; clear hx3
 have HA := yh (show IntKind.i64.wrap (1 + (x0 : Int)) = (w : Int) ∧ IntKind.i64.wrap (1 + (x1 : Int)) = (h_ : Int) ∧ IntKind.i64.wrap (-(w : Int)) = -(w : Int) ∧ IntKind.i64.wrap (-(h_ : Int)) = -(h_ : Int) ∧ IntKind.i64.wrap (-(w : Int) - 1) = -(w : Int) - 1 ∧ IntKind.i64.wrap (-(h_ : Int) - 1) = -(h_ : Int) - 1 ∧ IntKind.i64.wrap ((w : Int) + 1) = (w : Int) + 1 from
  ⟨by rw [i64_s _ (by omega) (by omega)]; omega, by rw [i64_s _ (by omega) (by omega)]; omega, i64_s _ (by omega) (by omega), i64_s _ (by omega) (by omega), i64_s _ (by omega) (by omega), i64_s _ (by omega) (by omega), i64_s _ (by omega) (by omega)⟩)
 obtain ⟨d1, hd1⟩ : ∃ z : Nat, z = 2 * w := ⟨_, rfl⟩
 obtain ⟨d2, hd2⟩ : ∃ z : Nat, z = 2 * w + 1 := ⟨_, rfl⟩
 have HD := yh (show IntKind.i64.wrap (2 * (w : Int)) = (d1 : Int) ∧ IntKind.i64.wrap ((d1 : Int) + 1) = (d2 : Int) ∧ IntKind.i64.wrap ((x3 : Int) - (w : Int)) = (x3 : Int) - (w : Int) ∧ True from ⟨by rw [i64_s _ (by omega) (by omega)]; omega, by rw [i64_s _ (by omega) (by omega)]; omega, i64_s _ (by omega) (by omega), trivial⟩)
 have HB := yh (show w ≤ 6 ∧ h_ ≤ 6 ∧ x3 ≤ 12 ∧ d2 ≤ 13 ∧ 0 < d2 from ⟨by omega, by omega, by omega, by omega, by omega⟩)
 have HC := yh (show x2 = 0 ∧ ¬ (x2 : Int) = 1 ∧ ¬ (x2 : Int) = 2 from ⟨by omega, by omega, by omega⟩)
 rw [← hd2] at HV3
 have HS := h
 clear h hw hh hc b0 b1 b2 b3 hd1 hd2 hi
 go_enter Tryz.func62, Tryz.ntmps62
 go_upto_region 0 with fail
 refine rgT [] HS ?_
 refine pU ?_
 refine dnS fun _ HS1=>?_
 clear HS
 go_upto_region 1 with fail
 refine wp_seq_text [3000000] (StR.move (StR.no HS1)) ?_
 refine pU ?_
 refine Seq.callW (Reg.no.put g (101, #[.slice A1 n1 c1])) rfl rfl rfl rfl (by kernel_rfl) (fun w h => next_R HI0.out HV0.out HT0.out (by exact ⟨by omega, by omega⟩) w h) (nZ ?_)
 refine pV (.int .i64 (w : Int)) (by intro w; go_simp <;> (first | (rw [HA.out.1]; done) | exact HA.out.1 | (simp [HA.out.1]; done))) ?_
 refine pU ?_
 refine Seq.callW (Reg.no.put g (101, #[.slice A2 n2 c2])) rfl rfl rfl rfl (by kernel_rfl) (fun w h => next_R HI1.out HV1.out HT1.out (by exact ⟨by omega, by omega⟩) w h) (nZ ?_)
 refine pV (.int .i64 (h_ : Int)) (by intro w; go_simp <;> (first | (rw [HA.out.2.1]; done) | exact HA.out.2.1 | (simp [HA.out.2.1]; done))) ?_
 iterate 2 refine pU ?_
 refine Seq.done fun ws2 hws => ?_
 have HS2 : St W ((g, 101, #[.slice A2 n2 c2]) :: l) ws2 := hws.q1
 clear HS1 hws
 go_upto_region 2 with fail
 refine wp_seq_text [3000000] (StR.move (StR.no HS2)) ?_
 refine pU ?_
 refine Seq.callW (Reg.no.put g (101, #[.slice A3 n3 c3])) rfl rfl rfl rfl (by kernel_rfl) (fun w h => next_R HI2.out HV2.out HT2.out (by exact ⟨by omega, by omega⟩) w h) (nZ ?_)
 refine Seq.done fun ws3 hws => ?_
 have HS3 : St W ((g, 101, #[.slice A3 n3 c3]) :: l) ws3 := hws.q1
 clear HS2 hws
 go_upto_region 3 with fail
 refine rgT [] HS3 ?_
 refine pV (.bool true) (by intro w; go_simp <;> (first | (rw [HC.out.1]; done) | exact HC.out.1 | (simp [HC.out.1, HC.out.1]; done))) ?_
 refine pU ?_
 refine dnS fun _ HS4=>?_
 clear HS3
 go_upto_region 4 with fail
 refine rgT [] HS4 ?_
 refine pU ?_
 refine pV (.int .i64 (-(w : Int))) (by intro w; go_simp <;> (first | (rw [HA.out.2.2.1]; done) | exact HA.out.2.2.1 | (simp [HA.out.2.2.1]; done))) ?_
 refine pU ?_
 refine pV (.int .i64 (-(h_ : Int))) (by intro w; go_simp <;> (first | (rw [HA.out.2.2.2.1]; done) | exact HA.out.2.2.2.1 | (simp [HA.out.2.2.2.1]; done))) ?_
 refine cX rfl rfl (at_q (by have := HB.out; omega) (by have := HB.out; omega) rfl rfl) ?_
 iterate 2 refine pU ?_
 refine pV (.int .i64 (-(h_ : Int))) (by intro w; go_simp <;> (first | (rw [HA.out.2.2.2.1]; done) | exact HA.out.2.2.2.1 | (simp [HA.out.2.2.2.1]; done))) ?_
 refine cX rfl rfl (at_q (by have := HB.out; omega) (by have := HB.out; omega) rfl rfl) ?_
 iterate 2 refine pU ?_
 refine cX rfl rfl (at_q (by have := HB.out; omega) (by have := HB.out; omega) rfl rfl) ?_
 refine pU ?_
 refine pV (.int .i64 (-(w : Int))) (by intro w; go_simp <;> (first | (rw [HA.out.2.2.1]; done) | exact HA.out.2.2.1 | (simp [HA.out.2.2.1]; done))) ?_
 refine pU ?_
 refine cX rfl rfl (at_q (by have := HB.out; omega) (by have := HB.out; omega) rfl rfl) ?_
 refine Seq.slice (n := 4) (e := 29) (cs := PC [(q4 (-(w : Int)), q4 (-(h_ : Int))), (q4 (w : Int), q4 (-(h_ : Int))), (q4 (w : Int), q4 (h_ : Int)), (q4 (-(w : Int)), q4 (h_ : Int))]) rfl rfl (fun w => slcP_4 rfl rfl rfl rfl rfl w) ?_
 intro bk31 _ _ e31
 refine nZ ?_
 refine pU ?_
 refine Seq.done fun ws5 hws => ?_
 have HS5 : St W ((bk31, 29, PC [(q4 (-(w : Int)), q4 (-(h_ : Int))), (q4 (w : Int), q4 (-(h_ : Int))), (q4 (w : Int), q4 (h_ : Int)), (q4 (-(w : Int)), q4 (h_ : Int))]) :: (g, 101, #[.slice A3 n3 c3]) :: l) ws5 := hws.q1
 clear HS4 hws
 go_wp2_with fail
 go_ret
 rw [HE.out]
 exact ⟨_, _, rfl, (HS5.blk _ List.mem_cons_self).1, HS5⟩
theorem poly_1 {W : World} {l : List Own} {g n0 c0 x2 : Nat} {A0 : Option Addr} {xs : List Int} (hi : Ints W A0 n0 c0 xs) (hx2 : nxV xs.tail.tail 4 = x2) (hc : x2 = 1) (w_ : World) (h : St W ((g, 101, #[.slice A0 n0 c0]) :: l) w_) :
  Calls Tryz.prog 62 #[.pointer (some ⟨g, 0, none⟩)] w_ fun e w' => ∃ p sl, e = .returned (mk (some (polyQ xs).length) p) ∧ W.heap.size ≤ p ∧ St W ((p, 29, PC (polyQ xs)) :: (g, 101, #[sl]) :: l) w' := by
 obtain ⟨x0, hx0⟩ : ∃ z, nxV xs 6 = z := ⟨_, rfl⟩
 obtain ⟨x1, hx1⟩ : ∃ z, nxV xs.tail 6 = z := ⟨_, rfl⟩
 obtain ⟨w, hw⟩ : ∃ z, 1 + x0 = z := ⟨_, rfl⟩
 obtain ⟨h_, hh⟩ : ∃ z, 1 + x1 = z := ⟨_, rfl⟩
 obtain ⟨x3, hx3⟩ : ∃ z, nxV xs.tail.tail.tail (2 * w + 1) = z := ⟨_, rfl⟩
 have b0 := nxV_lt xs (show 0 < 6 by omega)
 have b1 := nxV_lt xs.tail (show 0 < 6 by omega)
 have b2 := nxV_lt xs.tail.tail (show 0 < 4 by omega)
 have b3 := nxV_lt xs.tail.tail.tail (show 0 < 2 * w + 1 by omega)
 have HE := yh (show polyQ xs = [(q4 (-(w : Int)), q4 (-(h_ : Int))), (q4 (w : Int), q4 (-(h_ : Int))), (q4 ((x3 : Int) - (w : Int)), q4 (h_ : Int))] by
  unfold polyQ shape
  rw [hx0, hw, hx1, hh, hx2, hx3]
  rw [if_neg (by omega), if_pos hc])
 rw [hx0] at b0; rw [hx1] at b1; rw [hx2] at b2; rw [hx3] at b3
 have HI0 := yh hi
 obtain ⟨A1, hA1⟩ : ∃ z, slA A0 n0 c0 = z := ⟨_, rfl⟩
 obtain ⟨n1, hn1⟩ : ∃ z, slL n0 = z := ⟨_, rfl⟩
 obtain ⟨c1, hc1⟩ : ∃ z, slC n0 c0 = z := ⟨_, rfl⟩
 have hi := hi.tail
 rw [hA1, hn1, hc1] at hi
 have HT0 := yh (And.intro hA1 (And.intro hn1 hc1)); clear hA1 hn1 hc1
 have HV0 := yh hx0; clear hx0
 have HI1 := yh hi
 obtain ⟨A2, hA2⟩ : ∃ z, slA A1 n1 c1 = z := ⟨_, rfl⟩
 obtain ⟨n2, hn2⟩ : ∃ z, slL n1 = z := ⟨_, rfl⟩
 obtain ⟨c2, hc2⟩ : ∃ z, slC n1 c1 = z := ⟨_, rfl⟩
 have hi := hi.tail
 rw [hA2, hn2, hc2] at hi
 have HT1 := yh (And.intro hA2 (And.intro hn2 hc2)); clear hA2 hn2 hc2
 have HV1 := yh hx1; clear hx1
 have HI2 := yh hi
 obtain ⟨A3, hA3⟩ : ∃ z, slA A2 n2 c2 = z := ⟨_, rfl⟩
 obtain ⟨n3, hn3⟩ : ∃ z, slL n2 = z := ⟨_, rfl⟩
 obtain ⟨c3, hc3⟩ : ∃ z, slC n2 c2 = z := ⟨_, rfl⟩
 have hi := hi.tail
 rw [hA3, hn3, hc3] at hi
 have HT2 := yh (And.intro hA3 (And.intro hn3 hc3)); clear hA3 hn3 hc3
 have HV2 := yh hx2; clear hx2
 have HI3 := yh hi
 obtain ⟨A4, hA4⟩ : ∃ z, slA A3 n3 c3 = z := ⟨_, rfl⟩
 obtain ⟨n4, hn4⟩ : ∃ z, slL n3 = z := ⟨_, rfl⟩
 obtain ⟨c4, hc4⟩ : ∃ z, slC n3 c3 = z := ⟨_, rfl⟩
 have hi := hi.tail
 rw [hA4, hn4, hc4] at hi
 have HT3 := yh (And.intro hA4 (And.intro hn4 hc4)); clear hA4 hn4 hc4
 have HV3 := yh hx3; clear hx3
 have HA := yh (show IntKind.i64.wrap (1 + (x0 : Int)) = (w : Int) ∧ IntKind.i64.wrap (1 + (x1 : Int)) = (h_ : Int) ∧ IntKind.i64.wrap (-(w : Int)) = -(w : Int) ∧ IntKind.i64.wrap (-(h_ : Int)) = -(h_ : Int) ∧ IntKind.i64.wrap (-(w : Int) - 1) = -(w : Int) - 1 ∧ IntKind.i64.wrap (-(h_ : Int) - 1) = -(h_ : Int) - 1 ∧ IntKind.i64.wrap ((w : Int) + 1) = (w : Int) + 1 from
  ⟨by rw [i64_s _ (by omega) (by omega)]; omega, by rw [i64_s _ (by omega) (by omega)]; omega, i64_s _ (by omega) (by omega), i64_s _ (by omega) (by omega), i64_s _ (by omega) (by omega), i64_s _ (by omega) (by omega), i64_s _ (by omega) (by omega)⟩)
 obtain ⟨d1, hd1⟩ : ∃ z : Nat, z = 2 * w := ⟨_, rfl⟩
 obtain ⟨d2, hd2⟩ : ∃ z : Nat, z = 2 * w + 1 := ⟨_, rfl⟩
 have HD := yh (show IntKind.i64.wrap (2 * (w : Int)) = (d1 : Int) ∧ IntKind.i64.wrap ((d1 : Int) + 1) = (d2 : Int) ∧ IntKind.i64.wrap ((x3 : Int) - (w : Int)) = (x3 : Int) - (w : Int) ∧ True from ⟨by rw [i64_s _ (by omega) (by omega)]; omega, by rw [i64_s _ (by omega) (by omega)]; omega, i64_s _ (by omega) (by omega), trivial⟩)
 have HB := yh (show w ≤ 6 ∧ h_ ≤ 6 ∧ x3 ≤ 12 ∧ d2 ≤ 13 ∧ 0 < d2 from ⟨by omega, by omega, by omega, by omega, by omega⟩)
 have HC := yh (show ¬ x2 = 0 ∧ (x2 : Int) = 1 ∧ ¬ (x2 : Int) = 2 from ⟨by omega, by omega, by omega⟩)
 rw [← hd2] at HV3
 have HS := h
 clear h hw hh hc b0 b1 b2 b3 hd1 hd2 hi
 go_enter Tryz.func62, Tryz.ntmps62
 go_upto_region 0 with fail
 refine rgT [] HS ?_
 refine pU ?_
 refine dnS fun _ HS1=>?_
 clear HS
 go_upto_region 1 with fail
 refine wp_seq_text [3000000] (StR.move (StR.no HS1)) ?_
 refine pU ?_
 refine Seq.callW (Reg.no.put g (101, #[.slice A1 n1 c1])) rfl rfl rfl rfl (by kernel_rfl) (fun w h => next_R HI0.out HV0.out HT0.out (by exact ⟨by omega, by omega⟩) w h) (nZ ?_)
 refine pV (.int .i64 (w : Int)) (by intro w; go_simp <;> (first | (rw [HA.out.1]; done) | exact HA.out.1 | (simp [HA.out.1]; done))) ?_
 refine pU ?_
 refine Seq.callW (Reg.no.put g (101, #[.slice A2 n2 c2])) rfl rfl rfl rfl (by kernel_rfl) (fun w h => next_R HI1.out HV1.out HT1.out (by exact ⟨by omega, by omega⟩) w h) (nZ ?_)
 refine pV (.int .i64 (h_ : Int)) (by intro w; go_simp <;> (first | (rw [HA.out.2.1]; done) | exact HA.out.2.1 | (simp [HA.out.2.1]; done))) ?_
 iterate 2 refine pU ?_
 refine Seq.done fun ws2 hws => ?_
 have HS2 : St W ((g, 101, #[.slice A2 n2 c2]) :: l) ws2 := hws.q1
 clear HS1 hws
 go_upto_region 2 with fail
 refine wp_seq_text [3000000] (StR.move (StR.no HS2)) ?_
 refine pU ?_
 refine Seq.callW (Reg.no.put g (101, #[.slice A3 n3 c3])) rfl rfl rfl rfl (by kernel_rfl) (fun w h => next_R HI2.out HV2.out HT2.out (by exact ⟨by omega, by omega⟩) w h) (nZ ?_)
 refine Seq.done fun ws3 hws => ?_
 have HS3 : St W ((g, 101, #[.slice A3 n3 c3]) :: l) ws3 := hws.q1
 clear HS2 hws
 go_upto_region 3 with fail
 refine rgT [] HS3 ?_
 refine pV (.bool false) (by intro w; go_simp <;> (first | (rw [HC.out.1]; done) | exact HC.out.1 | (simp [HC.out.1, HC.out.1]; done))) ?_
 refine pU ?_
 refine dnS fun _ HS4=>?_
 clear HS3
 go_upto_region 5 with fail
 refine rgT [] HS4 ?_
 refine pV (.bool true) (by intro w; go_simp <;> (first | (rw [HC.out.2.1]; done) | exact HC.out.2.1 | (simp [HC.out.2.1, HC.out.2.1]; done))) ?_
 refine pU ?_
 refine dnS fun _ HS5=>?_
 clear HS4
 go_upto_region 6 with fail
 refine wp_seq_text [3000000] (StR.move (StR.no HS5)) ?_
 refine pU ?_
 refine pV (.int .i64 (-(w : Int))) (by intro w; go_simp <;> (first | (rw [HA.out.2.2.1]; done) | exact HA.out.2.2.1 | (simp [HA.out.2.2.1]; done))) ?_
 refine pU ?_
 refine pV (.int .i64 (-(h_ : Int))) (by intro w; go_simp <;> (first | (rw [HA.out.2.2.2.1]; done) | exact HA.out.2.2.2.1 | (simp [HA.out.2.2.2.1]; done))) ?_
 refine cX rfl rfl (at_q (by have := HB.out; omega) (by have := HB.out; omega) rfl rfl) ?_
 iterate 2 refine pU ?_
 refine pV (.int .i64 (-(h_ : Int))) (by intro w; go_simp <;> (first | (rw [HA.out.2.2.2.1]; done) | exact HA.out.2.2.2.1 | (simp [HA.out.2.2.2.1]; done))) ?_
 refine cX rfl rfl (at_q (by have := HB.out; omega) (by have := HB.out; omega) rfl rfl) ?_
 iterate 2 refine pU ?_
 refine pV (.int .i64 (d1 : Int)) (by intro w; go_simp <;> (first | (rw [HD.out.1]; done) | exact HD.out.1 | (simp [HD.out.1]; done))) ?_
 refine pV (.int .i64 (d2 : Int)) (by intro w; go_simp <;> (first | (rw [HD.out.2.1]; done) | exact HD.out.2.1 | (simp [HD.out.2.1]; done))) ?_
 refine Seq.callW (Reg.no.put g (101, #[.slice A4 n4 c4])) rfl rfl rfl rfl (by kernel_rfl) (fun w h => next_R HI3.out HV3.out HT3.out (by have := HB.out; exact ⟨by omega, by omega⟩) w h) (nZ ?_)
 refine pU ?_
 refine pV (.int .i64 ((x3 : Int) - (w : Int))) (by intro w; go_simp <;> (first | (rw [HD.out.2.2.1]; done) | exact HD.out.2.2.1 | (simp [HD.out.2.2.1]; done))) ?_
 refine pU ?_
 refine cX rfl rfl (at_q (by have := HB.out; omega) (by have := HB.out; omega) rfl rfl) ?_
 refine Seq.slice (n := 3) (e := 29) (cs := PC [(q4 (-(w : Int)), q4 (-(h_ : Int))), (q4 (w : Int), q4 (-(h_ : Int))), (q4 ((x3 : Int) - (w : Int)), q4 (h_ : Int))]) rfl rfl (fun w => slcP_3 rfl rfl rfl rfl w) ?_
 intro bk52 _ _ e52
 obtain ⟨_, _, e52⟩ := Reg.ne2 e52
 refine nZ ?_
 refine pU ?_
 refine Seq.done fun ws6 hws => ?_
 have HS6 : St W ((g, 101, #[.slice A4 n4 c4]) :: (bk52, 29, PC [(q4 (-(w : Int)), q4 (-(h_ : Int))), (q4 (w : Int), q4 (-(h_ : Int))), (q4 ((x3 : Int) - (w : Int)), q4 (h_ : Int))]) :: l) ws6 := hws.q2
 clear HS5 hws
 have HS6p := HS6.perm (List.Perm.swap _ _ _)
 go_wp2_with fail
 go_ret
 rw [HE.out]
 exact ⟨_, _, rfl, (HS6p.blk _ List.mem_cons_self).1, HS6p⟩
theorem poly_2 {W : World} {l : List Own} {g n0 c0 x2 : Nat} {A0 : Option Addr} {xs : List Int} (hi : Ints W A0 n0 c0 xs) (hx2 : nxV xs.tail.tail 4 = x2) (hc : x2 = 2) (w_ : World) (h : St W ((g, 101, #[.slice A0 n0 c0]) :: l) w_) :
  Calls Tryz.prog 62 #[.pointer (some ⟨g, 0, none⟩)] w_ fun e w' => ∃ p sl, e = .returned (mk (some (polyQ xs).length) p) ∧ W.heap.size ≤ p ∧ St W ((p, 29, PC (polyQ xs)) :: (g, 101, #[sl]) :: l) w' := by
 obtain ⟨x0, hx0⟩ : ∃ z, nxV xs 6 = z := ⟨_, rfl⟩
 obtain ⟨x1, hx1⟩ : ∃ z, nxV xs.tail 6 = z := ⟨_, rfl⟩
 obtain ⟨w, hw⟩ : ∃ z, 1 + x0 = z := ⟨_, rfl⟩
 obtain ⟨h_, hh⟩ : ∃ z, 1 + x1 = z := ⟨_, rfl⟩
 obtain ⟨x3, hx3⟩ : ∃ z, nxV xs.tail.tail.tail (2 * w + 1) = z := ⟨_, rfl⟩
 have b0 := nxV_lt xs (show 0 < 6 by omega)
 have b1 := nxV_lt xs.tail (show 0 < 6 by omega)
 have b2 := nxV_lt xs.tail.tail (show 0 < 4 by omega)
 have b3 := nxV_lt xs.tail.tail.tail (show 0 < 2 * w + 1 by omega)
 have HE := yh (show polyQ xs = [(q4 (-(w : Int) - 1), q4 (-(h_ : Int) - 1)), (q4 (w : Int), q4 (-(h_ : Int) - 1)), (q4 ((w : Int) + 1), q4 (-(h_ : Int))), (q4 ((w : Int) + 1), q4 (h_ : Int)), (q4 (-(w : Int) - 1), q4 (h_ : Int))] by
  unfold polyQ shape
  rw [hx0, hw, hx1, hh, hx2, hx3]
  rw [if_neg (by omega), if_neg (by omega), if_pos hc])
 rw [hx0] at b0; rw [hx1] at b1; rw [hx2] at b2; rw [hx3] at b3
 have HI0 := yh hi
 obtain ⟨A1, hA1⟩ : ∃ z, slA A0 n0 c0 = z := ⟨_, rfl⟩
 obtain ⟨n1, hn1⟩ : ∃ z, slL n0 = z := ⟨_, rfl⟩
 obtain ⟨c1, hc1⟩ : ∃ z, slC n0 c0 = z := ⟨_, rfl⟩
 have hi := hi.tail
 rw [hA1, hn1, hc1] at hi
 have HT0 := yh (And.intro hA1 (And.intro hn1 hc1)); clear hA1 hn1 hc1
 have HV0 := yh hx0; clear hx0
 have HI1 := yh hi
 obtain ⟨A2, hA2⟩ : ∃ z, slA A1 n1 c1 = z := ⟨_, rfl⟩
 obtain ⟨n2, hn2⟩ : ∃ z, slL n1 = z := ⟨_, rfl⟩
 obtain ⟨c2, hc2⟩ : ∃ z, slC n1 c1 = z := ⟨_, rfl⟩
 have hi := hi.tail
 rw [hA2, hn2, hc2] at hi
 have HT1 := yh (And.intro hA2 (And.intro hn2 hc2)); clear hA2 hn2 hc2
 have HV1 := yh hx1; clear hx1
 have HI2 := yh hi
 obtain ⟨A3, hA3⟩ : ∃ z, slA A2 n2 c2 = z := ⟨_, rfl⟩
 obtain ⟨n3, hn3⟩ : ∃ z, slL n2 = z := ⟨_, rfl⟩
 obtain ⟨c3, hc3⟩ : ∃ z, slC n2 c2 = z := ⟨_, rfl⟩
 have hi := hi.tail
 rw [hA3, hn3, hc3] at hi
 have HT2 := yh (And.intro hA3 (And.intro hn3 hc3)); clear hA3 hn3 hc3
 have HV2 := yh hx2; clear hx2
 have HI3 := yh hi
 obtain ⟨A4, hA4⟩ : ∃ z, slA A3 n3 c3 = z := ⟨_, rfl⟩
 obtain ⟨n4, hn4⟩ : ∃ z, slL n3 = z := ⟨_, rfl⟩
 obtain ⟨c4, hc4⟩ : ∃ z, slC n3 c3 = z := ⟨_, rfl⟩
 have hi := hi.tail
 rw [hA4, hn4, hc4] at hi
 have HT3 := yh (And.intro hA4 (And.intro hn4 hc4)); clear hA4 hn4 hc4
 have HV3 := yh hx3; clear hx3
 have HA := yh (show IntKind.i64.wrap (1 + (x0 : Int)) = (w : Int) ∧ IntKind.i64.wrap (1 + (x1 : Int)) = (h_ : Int) ∧ IntKind.i64.wrap (-(w : Int)) = -(w : Int) ∧ IntKind.i64.wrap (-(h_ : Int)) = -(h_ : Int) ∧ IntKind.i64.wrap (-(w : Int) - 1) = -(w : Int) - 1 ∧ IntKind.i64.wrap (-(h_ : Int) - 1) = -(h_ : Int) - 1 ∧ IntKind.i64.wrap ((w : Int) + 1) = (w : Int) + 1 from
  ⟨by rw [i64_s _ (by omega) (by omega)]; omega, by rw [i64_s _ (by omega) (by omega)]; omega, i64_s _ (by omega) (by omega), i64_s _ (by omega) (by omega), i64_s _ (by omega) (by omega), i64_s _ (by omega) (by omega), i64_s _ (by omega) (by omega)⟩)
 obtain ⟨d1, hd1⟩ : ∃ z : Nat, z = 2 * w := ⟨_, rfl⟩
 obtain ⟨d2, hd2⟩ : ∃ z : Nat, z = 2 * w + 1 := ⟨_, rfl⟩
 have HD := yh (show IntKind.i64.wrap (2 * (w : Int)) = (d1 : Int) ∧ IntKind.i64.wrap ((d1 : Int) + 1) = (d2 : Int) ∧ IntKind.i64.wrap ((x3 : Int) - (w : Int)) = (x3 : Int) - (w : Int) ∧ True from ⟨by rw [i64_s _ (by omega) (by omega)]; omega, by rw [i64_s _ (by omega) (by omega)]; omega, i64_s _ (by omega) (by omega), trivial⟩)
 have HB := yh (show w ≤ 6 ∧ h_ ≤ 6 ∧ x3 ≤ 12 ∧ d2 ≤ 13 ∧ 0 < d2 from ⟨by omega, by omega, by omega, by omega, by omega⟩)
 have HC := yh (show ¬ x2 = 0 ∧ ¬ (x2 : Int) = 1 ∧ (x2 : Int) = 2 from ⟨by omega, by omega, by omega⟩)
 rw [← hd2] at HV3
 have HS := h
 clear h hw hh hc b0 b1 b2 b3 hd1 hd2 hi
 go_enter Tryz.func62, Tryz.ntmps62
 go_upto_region 0 with fail
 refine rgT [] HS ?_
 refine pU ?_
 refine dnS fun _ HS1=>?_
 clear HS
 go_upto_region 1 with fail
 refine wp_seq_text [3000000] (StR.move (StR.no HS1)) ?_
 refine pU ?_
 refine Seq.callW (Reg.no.put g (101, #[.slice A1 n1 c1])) rfl rfl rfl rfl (by kernel_rfl) (fun w h => next_R HI0.out HV0.out HT0.out (by exact ⟨by omega, by omega⟩) w h) (nZ ?_)
 refine pV (.int .i64 (w : Int)) (by intro w; go_simp <;> (first | (rw [HA.out.1]; done) | exact HA.out.1 | (simp [HA.out.1]; done))) ?_
 refine pU ?_
 refine Seq.callW (Reg.no.put g (101, #[.slice A2 n2 c2])) rfl rfl rfl rfl (by kernel_rfl) (fun w h => next_R HI1.out HV1.out HT1.out (by exact ⟨by omega, by omega⟩) w h) (nZ ?_)
 refine pV (.int .i64 (h_ : Int)) (by intro w; go_simp <;> (first | (rw [HA.out.2.1]; done) | exact HA.out.2.1 | (simp [HA.out.2.1]; done))) ?_
 iterate 2 refine pU ?_
 refine Seq.done fun ws2 hws => ?_
 have HS2 : St W ((g, 101, #[.slice A2 n2 c2]) :: l) ws2 := hws.q1
 clear HS1 hws
 go_upto_region 2 with fail
 refine wp_seq_text [3000000] (StR.move (StR.no HS2)) ?_
 refine pU ?_
 refine Seq.callW (Reg.no.put g (101, #[.slice A3 n3 c3])) rfl rfl rfl rfl (by kernel_rfl) (fun w h => next_R HI2.out HV2.out HT2.out (by exact ⟨by omega, by omega⟩) w h) (nZ ?_)
 refine Seq.done fun ws3 hws => ?_
 have HS3 : St W ((g, 101, #[.slice A3 n3 c3]) :: l) ws3 := hws.q1
 clear HS2 hws
 go_upto_region 3 with fail
 refine rgT [] HS3 ?_
 refine pV (.bool false) (by intro w; go_simp <;> (first | (rw [HC.out.1]; done) | exact HC.out.1 | (simp [HC.out.1, HC.out.1]; done))) ?_
 refine pU ?_
 refine dnS fun _ HS4=>?_
 clear HS3
 go_upto_region 5 with fail
 refine rgT [] HS4 ?_
 refine pV (.bool false) (by intro w; go_simp <;> (first | (rw [HC.out.2.1]; done) | exact HC.out.2.1 | (simp [HC.out.2.1, HC.out.2.1]; done))) ?_
 refine pU ?_
 refine dnS fun _ HS5=>?_
 clear HS4
 go_upto_region 7 with fail
 refine rgT [] HS5 ?_
 refine pV (.bool true) (by intro w; go_simp <;> (first | (rw [HC.out.2.2]; done) | exact HC.out.2.2 | (simp [HC.out.2.2, HC.out.2.2]; done))) ?_
 refine pU ?_
 refine dnS fun _ HS6=>?_
 clear HS5
 go_upto_region 8 with fail
 refine rgT [] HS6 ?_
 refine pU ?_
 refine pV (.int .i64 (-(w : Int))) (by intro w; go_simp <;> (first | (rw [HA.out.2.2.1]; done) | exact HA.out.2.2.1 | (simp [HA.out.2.2.1]; done))) ?_
 refine pV (.int .i64 (-(w : Int) - 1)) (by intro w; go_simp <;> (first | (rw [HA.out.2.2.2.2.1]; done) | exact HA.out.2.2.2.2.1 | (simp [HA.out.2.2.2.2.1]; done))) ?_
 refine pU ?_
 refine pV (.int .i64 (-(h_ : Int))) (by intro w; go_simp <;> (first | (rw [HA.out.2.2.2.1]; done) | exact HA.out.2.2.2.1 | (simp [HA.out.2.2.2.1]; done))) ?_
 refine pV (.int .i64 (-(h_ : Int) - 1)) (by intro w; go_simp <;> (first | (rw [HA.out.2.2.2.2.2.1]; done) | exact HA.out.2.2.2.2.2.1 | (simp [HA.out.2.2.2.2.2.1]; done))) ?_
 refine cX rfl rfl (at_q (by have := HB.out; omega) (by have := HB.out; omega) rfl rfl) ?_
 iterate 2 refine pU ?_
 refine pV (.int .i64 (-(h_ : Int))) (by intro w; go_simp <;> (first | (rw [HA.out.2.2.2.1]; done) | exact HA.out.2.2.2.1 | (simp [HA.out.2.2.2.1]; done))) ?_
 refine pV (.int .i64 (-(h_ : Int) - 1)) (by intro w; go_simp <;> (first | (rw [HA.out.2.2.2.2.2.1]; done) | exact HA.out.2.2.2.2.2.1 | (simp [HA.out.2.2.2.2.2.1]; done))) ?_
 refine cX rfl rfl (at_q (by have := HB.out; omega) (by have := HB.out; omega) rfl rfl) ?_
 refine pU ?_
 refine pV (.int .i64 ((w : Int) + 1)) (by intro w; go_simp <;> (first | (rw [HA.out.2.2.2.2.2.2]; done) | exact HA.out.2.2.2.2.2.2 | (simp [HA.out.2.2.2.2.2.2]; done))) ?_
 refine pU ?_
 refine pV (.int .i64 (-(h_ : Int))) (by intro w; go_simp <;> (first | (rw [HA.out.2.2.2.1]; done) | exact HA.out.2.2.2.1 | (simp [HA.out.2.2.2.1]; done))) ?_
 refine cX rfl rfl (at_q (by have := HB.out; omega) (by have := HB.out; omega) rfl rfl) ?_
 refine pU ?_
 refine pV (.int .i64 ((w : Int) + 1)) (by intro w; go_simp <;> (first | (rw [HA.out.2.2.2.2.2.2]; done) | exact HA.out.2.2.2.2.2.2 | (simp [HA.out.2.2.2.2.2.2]; done))) ?_
 refine pU ?_
 refine cX rfl rfl (at_q (by have := HB.out; omega) (by have := HB.out; omega) rfl rfl) ?_
 refine pU ?_
 refine pV (.int .i64 (-(w : Int))) (by intro w; go_simp <;> (first | (rw [HA.out.2.2.1]; done) | exact HA.out.2.2.1 | (simp [HA.out.2.2.1]; done))) ?_
 refine pV (.int .i64 (-(w : Int) - 1)) (by intro w; go_simp <;> (first | (rw [HA.out.2.2.2.2.1]; done) | exact HA.out.2.2.2.2.1 | (simp [HA.out.2.2.2.2.1]; done))) ?_
 refine pU ?_
 refine cX rfl rfl (at_q (by have := HB.out; omega) (by have := HB.out; omega) rfl rfl) ?_
 refine Seq.slice (n := 5) (e := 29) (cs := PC [(q4 (-(w : Int) - 1), q4 (-(h_ : Int) - 1)), (q4 (w : Int), q4 (-(h_ : Int) - 1)), (q4 ((w : Int) + 1), q4 (-(h_ : Int))), (q4 ((w : Int) + 1), q4 (h_ : Int)), (q4 (-(w : Int) - 1), q4 (h_ : Int))]) rfl rfl (fun w => slcP_5 rfl rfl rfl rfl rfl rfl w) ?_
 intro bk81 _ _ e81
 refine nZ ?_
 refine pU ?_
 refine Seq.done fun ws7 hws => ?_
 have HS7 : St W ((bk81, 29, PC [(q4 (-(w : Int) - 1), q4 (-(h_ : Int) - 1)), (q4 (w : Int), q4 (-(h_ : Int) - 1)), (q4 ((w : Int) + 1), q4 (-(h_ : Int))), (q4 ((w : Int) + 1), q4 (h_ : Int)), (q4 (-(w : Int) - 1), q4 (h_ : Int))]) :: (g, 101, #[.slice A3 n3 c3]) :: l) ws7 := hws.q1
 clear HS6 hws
 go_wp2_with fail
 go_ret
 rw [HE.out]
 exact ⟨_, _, rfl, (HS7.blk _ List.mem_cons_self).1, HS7⟩
theorem poly_3 {W : World} {l : List Own} {g n0 c0 x2 : Nat} {A0 : Option Addr} {xs : List Int} (hi : Ints W A0 n0 c0 xs) (hx2 : nxV xs.tail.tail 4 = x2) (hc : ¬ x2 = 0 ∧ ¬ x2 = 1 ∧ ¬ x2 = 2) (w_ : World) (h : St W ((g, 101, #[.slice A0 n0 c0]) :: l) w_) :
  Calls Tryz.prog 62 #[.pointer (some ⟨g, 0, none⟩)] w_ fun e w' => ∃ p sl, e = .returned (mk (some (polyQ xs).length) p) ∧ W.heap.size ≤ p ∧ St W ((p, 29, PC (polyQ xs)) :: (g, 101, #[sl]) :: l) w' := by
 obtain ⟨x0, hx0⟩ : ∃ z, nxV xs 6 = z := ⟨_, rfl⟩
 obtain ⟨x1, hx1⟩ : ∃ z, nxV xs.tail 6 = z := ⟨_, rfl⟩
 obtain ⟨w, hw⟩ : ∃ z, 1 + x0 = z := ⟨_, rfl⟩
 obtain ⟨h_, hh⟩ : ∃ z, 1 + x1 = z := ⟨_, rfl⟩
 obtain ⟨x3, hx3⟩ : ∃ z, nxV xs.tail.tail.tail (2 * w + 1) = z := ⟨_, rfl⟩
 have b0 := nxV_lt xs (show 0 < 6 by omega)
 have b1 := nxV_lt xs.tail (show 0 < 6 by omega)
 have b2 := nxV_lt xs.tail.tail (show 0 < 4 by omega)
 have b3 := nxV_lt xs.tail.tail.tail (show 0 < 2 * w + 1 by omega)
 have HE := yh (show polyQ xs = [(q4 (-(w : Int)), q4 0), (q4 0, q4 (-(h_ : Int))), (q4 (w : Int), q4 0), (q4 0, q4 (h_ : Int))] by
  unfold polyQ shape
  rw [hx0, hw, hx1, hh, hx2, hx3]
  rw [if_neg hc.1, if_neg hc.2.1, if_neg hc.2.2])
 rw [hx0] at b0; rw [hx1] at b1; rw [hx2] at b2; rw [hx3] at b3
 have HI0 := yh hi
 obtain ⟨A1, hA1⟩ : ∃ z, slA A0 n0 c0 = z := ⟨_, rfl⟩
 obtain ⟨n1, hn1⟩ : ∃ z, slL n0 = z := ⟨_, rfl⟩
 obtain ⟨c1, hc1⟩ : ∃ z, slC n0 c0 = z := ⟨_, rfl⟩
 have hi := hi.tail
 rw [hA1, hn1, hc1] at hi
 have HT0 := yh (And.intro hA1 (And.intro hn1 hc1)); clear hA1 hn1 hc1
 have HV0 := yh hx0; clear hx0
 have HI1 := yh hi
 obtain ⟨A2, hA2⟩ : ∃ z, slA A1 n1 c1 = z := ⟨_, rfl⟩
 obtain ⟨n2, hn2⟩ : ∃ z, slL n1 = z := ⟨_, rfl⟩
 obtain ⟨c2, hc2⟩ : ∃ z, slC n1 c1 = z := ⟨_, rfl⟩
 have hi := hi.tail
 rw [hA2, hn2, hc2] at hi
 have HT1 := yh (And.intro hA2 (And.intro hn2 hc2)); clear hA2 hn2 hc2
 have HV1 := yh hx1; clear hx1
 have HI2 := yh hi
 obtain ⟨A3, hA3⟩ : ∃ z, slA A2 n2 c2 = z := ⟨_, rfl⟩
 obtain ⟨n3, hn3⟩ : ∃ z, slL n2 = z := ⟨_, rfl⟩
 obtain ⟨c3, hc3⟩ : ∃ z, slC n2 c2 = z := ⟨_, rfl⟩
 have hi := hi.tail
 rw [hA3, hn3, hc3] at hi
 have HT2 := yh (And.intro hA3 (And.intro hn3 hc3)); clear hA3 hn3 hc3
 have HV2 := yh hx2; clear hx2
 have HI3 := yh hi
 obtain ⟨A4, hA4⟩ : ∃ z, slA A3 n3 c3 = z := ⟨_, rfl⟩
 obtain ⟨n4, hn4⟩ : ∃ z, slL n3 = z := ⟨_, rfl⟩
 obtain ⟨c4, hc4⟩ : ∃ z, slC n3 c3 = z := ⟨_, rfl⟩
 have hi := hi.tail
 rw [hA4, hn4, hc4] at hi
 have HT3 := yh (And.intro hA4 (And.intro hn4 hc4)); clear hA4 hn4 hc4
 have HV3 := yh hx3; clear hx3
 have HA := yh (show IntKind.i64.wrap (1 + (x0 : Int)) = (w : Int) ∧ IntKind.i64.wrap (1 + (x1 : Int)) = (h_ : Int) ∧ IntKind.i64.wrap (-(w : Int)) = -(w : Int) ∧ IntKind.i64.wrap (-(h_ : Int)) = -(h_ : Int) ∧ IntKind.i64.wrap (-(w : Int) - 1) = -(w : Int) - 1 ∧ IntKind.i64.wrap (-(h_ : Int) - 1) = -(h_ : Int) - 1 ∧ IntKind.i64.wrap ((w : Int) + 1) = (w : Int) + 1 from
  ⟨by rw [i64_s _ (by omega) (by omega)]; omega, by rw [i64_s _ (by omega) (by omega)]; omega, i64_s _ (by omega) (by omega), i64_s _ (by omega) (by omega), i64_s _ (by omega) (by omega), i64_s _ (by omega) (by omega), i64_s _ (by omega) (by omega)⟩)
 obtain ⟨d1, hd1⟩ : ∃ z : Nat, z = 2 * w := ⟨_, rfl⟩
 obtain ⟨d2, hd2⟩ : ∃ z : Nat, z = 2 * w + 1 := ⟨_, rfl⟩
 have HD := yh (show IntKind.i64.wrap (2 * (w : Int)) = (d1 : Int) ∧ IntKind.i64.wrap ((d1 : Int) + 1) = (d2 : Int) ∧ IntKind.i64.wrap ((x3 : Int) - (w : Int)) = (x3 : Int) - (w : Int) ∧ True from ⟨by rw [i64_s _ (by omega) (by omega)]; omega, by rw [i64_s _ (by omega) (by omega)]; omega, i64_s _ (by omega) (by omega), trivial⟩)
 have HB := yh (show w ≤ 6 ∧ h_ ≤ 6 ∧ x3 ≤ 12 ∧ d2 ≤ 13 ∧ 0 < d2 from ⟨by omega, by omega, by omega, by omega, by omega⟩)
 have HC := yh (show ¬ x2 = 0 ∧ ¬ (x2 : Int) = 1 ∧ ¬ (x2 : Int) = 2 from ⟨by omega, by omega, by omega⟩)
 rw [← hd2] at HV3
 have HS := h
 clear h hw hh hc b0 b1 b2 b3 hd1 hd2 hi
 go_enter Tryz.func62, Tryz.ntmps62
 go_upto_region 0 with fail
 refine rgT [] HS ?_
 refine pU ?_
 refine dnS fun _ HS1=>?_
 clear HS
 go_upto_region 1 with fail
 refine wp_seq_text [3000000] (StR.move (StR.no HS1)) ?_
 refine pU ?_
 refine Seq.callW (Reg.no.put g (101, #[.slice A1 n1 c1])) rfl rfl rfl rfl (by kernel_rfl) (fun w h => next_R HI0.out HV0.out HT0.out (by exact ⟨by omega, by omega⟩) w h) (nZ ?_)
 refine pV (.int .i64 (w : Int)) (by intro w; go_simp <;> (first | (rw [HA.out.1]; done) | exact HA.out.1 | (simp [HA.out.1]; done))) ?_
 refine pU ?_
 refine Seq.callW (Reg.no.put g (101, #[.slice A2 n2 c2])) rfl rfl rfl rfl (by kernel_rfl) (fun w h => next_R HI1.out HV1.out HT1.out (by exact ⟨by omega, by omega⟩) w h) (nZ ?_)
 refine pV (.int .i64 (h_ : Int)) (by intro w; go_simp <;> (first | (rw [HA.out.2.1]; done) | exact HA.out.2.1 | (simp [HA.out.2.1]; done))) ?_
 iterate 2 refine pU ?_
 refine Seq.done fun ws2 hws => ?_
 have HS2 : St W ((g, 101, #[.slice A2 n2 c2]) :: l) ws2 := hws.q1
 clear HS1 hws
 go_upto_region 2 with fail
 refine wp_seq_text [3000000] (StR.move (StR.no HS2)) ?_
 refine pU ?_
 refine Seq.callW (Reg.no.put g (101, #[.slice A3 n3 c3])) rfl rfl rfl rfl (by kernel_rfl) (fun w h => next_R HI2.out HV2.out HT2.out (by exact ⟨by omega, by omega⟩) w h) (nZ ?_)
 refine Seq.done fun ws3 hws => ?_
 have HS3 : St W ((g, 101, #[.slice A3 n3 c3]) :: l) ws3 := hws.q1
 clear HS2 hws
 go_upto_region 3 with fail
 refine rgT [] HS3 ?_
 refine pV (.bool false) (by intro w; go_simp <;> (first | (rw [HC.out.1]; done) | exact HC.out.1 | (simp [HC.out.1, HC.out.1]; done))) ?_
 refine pU ?_
 refine dnS fun _ HS4=>?_
 clear HS3
 go_upto_region 5 with fail
 refine rgT [] HS4 ?_
 refine pV (.bool false) (by intro w; go_simp <;> (first | (rw [HC.out.2.1]; done) | exact HC.out.2.1 | (simp [HC.out.2.1, HC.out.2.1]; done))) ?_
 refine pU ?_
 refine dnS fun _ HS5=>?_
 clear HS4
 go_upto_region 7 with fail
 refine rgT [] HS5 ?_
 refine pV (.bool false) (by intro w; go_simp <;> (first | (rw [HC.out.2.2]; done) | exact HC.out.2.2 | (simp [HC.out.2.2, HC.out.2.2]; done))) ?_
 refine pU ?_
 refine dnS fun _ HS6=>?_
 clear HS5
 go_upto_region 9 with fail
 refine rgT [] HS6 ?_
 refine pU ?_
 refine pV (.int .i64 (-(w : Int))) (by intro w; go_simp <;> (first | (rw [HA.out.2.2.1]; done) | exact HA.out.2.2.1 | (simp [HA.out.2.2.1]; done))) ?_
 refine cX rfl rfl (at_q (by have := HB.out; omega) (by have := HB.out; omega) rfl rfl) ?_
 refine pU ?_
 refine pV (.int .i64 (-(h_ : Int))) (by intro w; go_simp <;> (first | (rw [HA.out.2.2.2.1]; done) | exact HA.out.2.2.2.1 | (simp [HA.out.2.2.2.1]; done))) ?_
 refine cX rfl rfl (at_q (by have := HB.out; omega) (by have := HB.out; omega) rfl rfl) ?_
 refine pU ?_
 refine cX rfl rfl (at_q (by have := HB.out; omega) (by have := HB.out; omega) rfl rfl) ?_
 refine pU ?_
 refine cX rfl rfl (at_q (by have := HB.out; omega) (by have := HB.out; omega) rfl rfl) ?_
 refine Seq.slice (n := 4) (e := 29) (cs := PC [(q4 (-(w : Int)), q4 0), (q4 0, q4 (-(h_ : Int))), (q4 (w : Int), q4 0), (q4 0, q4 (h_ : Int))]) rfl rfl (fun w => slcP_4 rfl rfl rfl rfl rfl w) ?_
 intro bk92 _ _ e92
 refine nZ ?_
 refine pU ?_
 refine Seq.done fun ws7 hws => ?_
 have HS7 : St W ((bk92, 29, PC [(q4 (-(w : Int)), q4 0), (q4 0, q4 (-(h_ : Int))), (q4 (w : Int), q4 0), (q4 0, q4 (h_ : Int))]) :: (g, 101, #[.slice A3 n3 c3]) :: l) ws7 := hws.q1
 clear HS6 hws
 go_wp2_with fail
 go_ret
 rw [HE.out]
 exact ⟨_, _, rfl, (HS7.blk _ List.mem_cons_self).1, HS7⟩
theorem poly_S {W : World} {l : List Own} {g n c : Nat} {A : Option Addr} {xs : List Int} (hi : Ints W A n c xs) (w : World) (h : St W ((g, 101, #[.slice A n c]) :: l) w) :
  Calls Tryz.prog 62 #[.pointer (some ⟨g, 0, none⟩)] w fun e w' => ∃ p sl, e = .returned (mk (some (polyQ xs).length) p) ∧ W.heap.size ≤ p ∧ St W ((p, 29, PC (polyQ xs)) :: (g, 101, #[sl]) :: l) w' := by
 by_cases h0 : nxV xs.tail.tail 4 = 0
 ·exact poly_0 hi rfl h0 w h
 ·by_cases h1 : nxV xs.tail.tail 4 = 1
  ·exact poly_1 hi rfl h1 w h
  ·by_cases h2 : nxV xs.tail.tail 4 = 2
   ·exact poly_2 hi rfl h2 w h
   ·exact poly_3 hi rfl ⟨h0, h1, h2⟩ w h
end Go.Proofs.YtmchjmflkaiakaaGreatDoor
