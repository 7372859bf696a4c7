/- Joined texts: RatQ RatR RatS RatT. -/
import Derived.Test.YtmchjmflkaiakaaGreatDoorBunRatB
import Derived.Test.YtmchjmflkaiakaaGreatDoorBunSeq
/- What the functions of rational numbers promise, in one spelling; laws of order. -/
set_option maxHeartbeats 1000000
set_option maxRecDepth 20000
namespace Go.Proofs.YtmchjmflkaiakaaGreatDoor
open Go.RowKit
set_option linter.unusedVariables false
set_option linter.unusedSimpArgs false
abbrev Rt (f : FuncId) (vs : Array Value) (w : World) (v : Value) : Prop := Calls Tryz.prog f vs w fun e w' => e = .returned v ∧ Below w.heap.size w w'
theorem zm {k n : Nat} {x : Rat} (h : Hid (Rz k x)) (hl : k ≤ n := by omega) : Rz n x := h.out.more hl
theorem RC_one (q : Rat) : ∀ u ∈ RC q, u.oneCell' = true := by
 intro u hu
 simp only [RC, List.mem_toArray, List.mem_cons, List.not_mem_nil, or_false] at hu
 rcases hu with rfl | rfl | rfl <;> rfl
theorem RIs.rc {q : Rat} {s : Bool} {a d : ByteArray} (h : RIs q s a d) : #[Value.bool s, .string a, .string d] = RC q := by rw [h.s, h.a, h.d]; rfl
section
variable {W : World} {l : List Own} (hT : Tab W)
include hT
theorem tabS {w : World} (h : St W l w) : Tab w := hT.next h.below
theorem add_q {k : Nat} {x y z : Rat} (hx : Rz k x) (hy : Rz k y) (hz : x + y = z) (hk : k ≤ 4398046511104) (w : World) (h : St W l w) :
  Calls Tryz.prog 49 #[.agg (RC x), .agg (RC y)] w fun e w' => e = .returned (.agg (RC z)) ∧ Below w.heap.size w w' := by
 rw [← hz]; exact add_R k x y w hx hy (by omega) (tabS hT h)
theorem sub_q {k : Nat} {x y z : Rat} (hx : Rz k x) (hy : Rz k y) (hz : x - y = z) (hk : k ≤ 4398046511104) (w : World) (h : St W l w) :
  Calls Tryz.prog 36 #[.agg (RC x), .agg (RC y)] w fun e w' => e = .returned (.agg (RC z)) ∧ Below w.heap.size w w' := by
 rw [← hz]; exact sub_R k x y w hx hy (by omega) (tabS hT h)
theorem mul_q {k : Nat} {x y z : Rat} (hx : Rz k x) (hy : Rz k y) (hz : x * y = z) (hk : k ≤ 4398046511104) (w : World) (h : St W l w) :
  Calls Tryz.prog 48 #[.agg (RC x), .agg (RC y)] w fun e w' => e = .returned (.agg (RC z)) ∧ Below w.heap.size w w' := by
 rw [← hz]; exact mul_R k x y w hx hy (by omega) (tabS hT h)
theorem neg_q {k : Nat} {x z : Rat} (hx : Rz k x) (hz : -x = z) (hk : k ≤ 4398046511104) (w : World) (h : St W l w) :
  Calls Tryz.prog 32 #[.agg (RC x)] w fun e w' => e = .returned (.agg (RC z)) ∧ Below w.heap.size w w' := by
 rw [← hz]; exact neg_R k x w hx (by omega) (tabS hT h)
theorem abs_q {k : Nat} {x z : Rat} (hx : Rz k x) (hz : absQ x = z) (hk : k ≤ 4398046511104) (w : World) (h : St W l w) :
  Calls Tryz.prog 74 #[.agg (RC x)] w fun e w' => e = .returned (.agg (RC z)) ∧ Below w.heap.size w w' := by
 rw [← hz]; exact abs_R k x w hx (by omega) (tabS hT h)
theorem min_q {k : Nat} {x y z : Rat} (hx : Rz k x) (hy : Rz k y) (hz : minQ x y = z) (hk : k ≤ 4398046511104) (w : World) (h : St W l w) :
  Calls Tryz.prog 63 #[.agg (RC x), .agg (RC y)] w fun e w' => e = .returned (.agg (RC z)) ∧ Below w.heap.size w w' := by
 rw [← hz]; exact min_R k x y w hx hy (by omega) (tabS hT h)
theorem max_q {k : Nat} {x y z : Rat} (hx : Rz k x) (hy : Rz k y) (hz : maxQ x y = z) (hk : k ≤ 4398046511104) (w : World) (h : St W l w) :
  Calls Tryz.prog 64 #[.agg (RC x), .agg (RC y)] w fun e w' => e = .returned (.agg (RC z)) ∧ Below w.heap.size w w' := by
 rw [← hz]; exact max_R k x y w hx hy (by omega) (tabS hT h)
theorem good_q {k : Nat} {x : Rat} (hx : Rz k x) (hk : k ≤ 4398046511104) (w : World) (h : St W l w) :
  Calls Tryz.prog 125 #[.agg (RC x)] w fun e w' => e = .returned (.bool true) ∧ Below w.heap.size w w' :=
 Good_R k x w hx (by omega) (tabS hT h)
theorem sign_q {k : Nat} {x : Rat} {v : Int} (hx : Rz k x) (hv : sgnQ x = v) (hk : k ≤ 4398046511104) (w : World) (h : St W l w) :
  Calls Tryz.prog 27 #[.agg (RC x)] w fun e w' => e = .returned (.int .i64 v) ∧ Below w.heap.size w w' := by
 rw [← hv]; exact sign_R k x w hx (by omega) (tabS hT h)
theorem cmp_q {k : Nat} {x y : Rat} {v : Int} (hx : Rz k x) (hy : Rz k y) (hv : cmpQ x y = v) (hk : k ≤ 4398046511104) (w : World) (h : St W l w) :
  Calls Tryz.prog 29 #[.agg (RC x), .agg (RC y)] w fun e w' => e = .returned (.int .i64 v) ∧ Below w.heap.size w w' := by
 rw [← hv]; exact cmp_R k x y w hx hy (by omega) (tabS hT h)
theorem div_q {k : Nat} {x y z : Rat} (hx : Rz k x) (hy : Rz k y) (h0 : y ≠ 0) (hz : x / y = z) (hk : k ≤ 4398046511104) (w : World) (h : St W l w) :
  Calls Tryz.prog 47 #[.agg (RC x), .agg (RC y)] w fun e w' => e = .returned (.tuple #[.agg (RC z), .int .i64 0]) ∧ Below w.heap.size w w' := by
 rw [← hz]; exact div_R k x y w hx hy h0 (by omega) (tabS hT h)
end
theorem run_eqR (op : BinOp) (x y : Rat) (X Y : Operand) (w : World) (b : Bool) (h : op = .eql ∧ decide (x = y) = b ∨ op = .neq ∧ (!decide (x = y)) = b) :
  ((do eqGuard op 27 X Y (.agg (RC x)) (.agg (RC y)); binOp op 27 (.agg (RC x)) (.agg (RC y)) : Sem Value)).run Tryz.prog w = .ok (.bool b) w := by
 obtain ⟨s1, a1, d1, h1⟩ := R_parts x
 obtain ⟨s2, a2, d2, h2⟩ := R_parts y
 rw [← h1.rc, ← h2.rc]
 by_cases hxy : x = y
 ·have e : s1 = s2 ∧ a1 = a2 ∧ d1 = d2 := by subst hxy; exact ⟨h1.s.trans h2.s.symm, h1.a.trans h2.a.symm, h1.d.trans h2.d.symm⟩
  obtain ⟨rfl, rfl, rfl⟩ := e
  rw [decide_eq_true hxy] at h
  clear hxy h1 h2
  rcases h with ⟨rfl, rfl⟩ | ⟨rfl, rfl⟩ <;> go_simp
 ·have e : s1 = s2 → a1.toList = a2.toList → d1.toList = d2.toList → False := fun e1 e2 e3 => hxy (RIs.injL h1 h2 e1 e2 e3)
  rw [decide_eq_false hxy] at h
  clear hxy h1 h2
  rcases h with ⟨rfl, rfl⟩ | ⟨rfl, rfl⟩
  ·go_simp; exact e
  ·go_simp; exact e
section
variable {ops : Array Oper} {W : World} {l : List Own} {Q : Exit → Act → World → Prop} {gs : List Nat} {k : Nat} {o : Oper} {rest : List Oper} {a : Act} {R : Reg}
theorem Seq.eqR {x y : Rat} {X Y : Operand} {U : TypeId} {b : Bool} (ho : o.op = .binOp .eql 27 X Y U) (hk : kd gs k o = .val) (hw : wants ops o a = true) (hx : a.eval X = .agg (RC x)) (hy : a.eval Y = .agg (RC y))
  (hb : decide (x = y) = b) (h : Seq Tryz.prog ops Q W l gs (k + 1) rest (a.put o.dst (.bool b)) R) : Seq Tryz.prog ops Q W l gs k (o :: rest) a R :=
 Seq.pure hk hw (fun w => by
  unfold execOp
  simp only [ho, hx, hy, Sem.run_bind, run_eqR .eql x y X Y w b (.inl ⟨rfl, hb⟩), Result.andThen_ok, Sem.run_pure]) h
end
theorem Sz.div {k m : Nat} (h : Sz k m) (n : Nat) : Sz k (m / n) := h.le (Nat.div_le_self _ _)
theorem Rz.intQ {k : Nat} {z : Int} (h : Sz k z.natAbs) (hk : 1 ≤ k) : Rz k (z : Rat) := ⟨h, Sz.one.more hk⟩
theorem cmp_le {x y : Rat} (h : x ≤ y) : cmpQ x y ≤ 0 := by unfold cmpQ; grind
theorem cmp_gt {x y : Rat} (h : y < x) : 0 < cmpQ x y := by unfold cmpQ; grind
def belowN (x : Int) (n : Nat) : Nat := (if x.tmod n < 0 then x.tmod n + n else x.tmod n).toNat
theorem belowN_lt (x : Int) {n : Nat} (hn : 0 < n) : belowN x n < n := by
 have e1 := Int.tmod_lt_of_pos x (show (0 : Int) < n by omega)
 unfold belowN
 split <;> omega
theorem below_N (x : Int) (n : Nat) (w : World) (h0 : -9223372036854775808 ≤ x) (h1 : x ≤ 9223372036854775807) (hn : 0 < n) (hn2 : n ≤ 1048576) :
  Calls Tryz.prog 18 #[.int .i64 x, .int .i64 n] w fun e w' => e = .returned (.int .i64 (belowN x n : Nat)) ∧ w = w' := by
 have e1 := Int.tmod_lt_of_pos x (show (0 : Int) < n by omega)
 have e2 : -(n : Int) < x.tmod n := by
  have := Int.lt_tmod_of_pos x (show (0 : Int) < n by omega)
  exact this
 obtain ⟨t, ht⟩ : ∃ t, t = x.tmod n := ⟨_, rfl⟩
 have ew : IntKind.i64.wrap (x.tmod (n : Int)) = t := by rw [← ht]; exact IntWalk.i64_in _ (by omega)
 have eb : belowN x n = (if t < 0 then t + n else t).toNat := by rw [ht]; rfl
 have et : x.tmod (n : Int) = t := ht.symm
 rw [et] at e1 e2
 have HT := yh (And.intro ht eb); clear ht eb
 by_cases hneg : t < 0
 ·go_enter Tryz.func18, Tryz.ntmps18
  go_wp2_with fail
  go_ret
  exact ⟨by rw [HT.out.2, if_pos hneg, show (((t + n).toNat : Nat) : Int) = t + n by omega]; rfl, rfl⟩
 ·go_enter Tryz.func18, Tryz.ntmps18
  go_wp2_with fail
  go_ret
  exact ⟨by rw [HT.out.2, if_neg (by omega), show ((t.toNat : Nat) : Int) = t by omega]; rfl, rfl⟩
def six (m : Nat) : Nat := [1, 2, 3, 4, 5, 8].getD m 1
theorem six_is {m : Nat} (h : m < 6) : (#[Value.int .i64 1, .int .i64 2, .int .i64 3, .int .i64 4, .int .i64 5, .int .i64 8] : Array Value)[m]? = some (.int .i64 (six m : Int)) ∧ 0 < six m ∧ six m ≤ 8 := by
 match m, h with
 | 0, _ => exact ⟨rfl, by decide, by decide⟩
 | 1, _ => exact ⟨rfl, by decide, by decide⟩
 | 2, _ => exact ⟨rfl, by decide, by decide⟩
 | 3, _ => exact ⟨rfl, by decide, by decide⟩
 | 4, _ => exact ⟨rfl, by decide, by decide⟩
 | 5, _ => exact ⟨rfl, by decide, by decide⟩
def ratMq (x : Int) : Rat := mkRat ((belowN (x.tdiv 6) (16 * six (belowN x 6) + 1) : Int) - 8 * (six (belowN x 6) : Int)) (six (belowN x 6))
theorem ratMq_small (x : Int) : SmallQ (ratMq x) := by
 have h1 := belowN_lt x (show 0 < 6 by omega)
 obtain ⟨-, h2, h3⟩ := six_is h1
 have h4 := belowN_lt (x.tdiv 6) (show 0 < 16 * six (belowN x 6) + 1 by omega)
 exact ⟨_, _, rfl, h2, h3, by omega, by omega⟩
theorem ratM_E (x : Int) (w : World) (h0 : -9223372036854775808 ≤ x) (h1 : x ≤ 9223372036854775807) :
  Calls Tryz.prog 51 #[.int .i64 x] w fun e w' => e = .returned (R (ratMq x)) ∧ Below w.heap.size w w' := by
 have hb0 : Below w.heap.size w (w.alloc (.cells #[.bool false, .string ⟨#[]⟩, .string ⟨#[]⟩] 27)) := (Below.refl _ _).alloc (Nat.le_refl _) _
 have HB0 := yh hb0; clear hb0
 have ht0 : (x.tdiv 6).natAbs = x.natAbs / 6 := Int.natAbs_tdiv x 6
 obtain ⟨t, ht⟩ : ∃ t, t = x.tdiv 6 := ⟨_, rfl⟩
 rw [← ht] at ht0
 have et : x.tdiv 6 = t := ht.symm
 have tb0 : -1600000000000000000 ≤ t := by omega
 have tb1 : t ≤ 1600000000000000000 := by omega
 clear ht0
 have HT := yh ht; clear ht
 go_enter Tryz.func51, Tryz.ntmps51
 go_wp2_with fail
 obtain ⟨m, hmE⟩ : ∃ m, belowN x 6 = m := ⟨_, rfl⟩
 have hm := belowN_lt x (show 0 < 6 by omega)
 obtain ⟨dd, hddE⟩ : ∃ dd, six m = dd := ⟨_, rfl⟩
 refine (below_N x 6 _ h0 h1 (by omega) (by omega)).mono ?_
 rintro e w' ⟨rfl, rfl⟩
 rw [hmE] at hm ⊢
 obtain ⟨hdd, hd1, hd2⟩ := six_is hm
 rw [hddE] at hdd hd1 hd2
 have HE := yh (And.intro hmE hddE); clear hmE hddE
 obtain ⟨W1, hW1⟩ : ∃ W1, W1 = ((w.alloc (.cells #[.bool false, .string ⟨#[]⟩, .string ⟨#[]⟩] 27)).alloc (.cells #[Value.int .i64 1, .int .i64 2, .int .i64 3, .int .i64 4, .int .i64 5, .int .i64 8] 3)) := ⟨_, rfl⟩
 rw [← hW1]
 have k1 : Blk W1 w.heap.size 27 #[.bool false, .string ⟨#[]⟩, .string ⟨#[]⟩] := by rw [hW1]; exact (Blk.new w _ _).alloc _
 have k2 : Blk W1 (w.heap.size + 1) 3 #[Value.int .i64 1, .int .i64 2, .int .i64 3, .int .i64 4, .int .i64 5, .int .i64 8] := by rw [hW1]; exact Blk.at_ (by simp)
 have kb : Below w.heap.size w W1 := by rw [hW1]; exact HB0.out.alloc HB0.out.size _
 have c0 := (k2.cell m).trans hdd
 have K := yh (And.intro k1 kb); clear k1 k2 kb hdd hW1
 have hm6 : (m : Int) < 6 := by omega
 go_wp2_with fail
 have en : 16 * (dd : Int) + 1 = ((16 * dd + 1 : Nat) : Int) := by omega
 rw [en]
 clear en
 obtain ⟨m2, hm2E⟩ : ∃ m, belowN t (16 * dd + 1) = m := ⟨_, rfl⟩
 have hm2 := belowN_lt t (show 0 < 16 * dd + 1 by omega)
 refine (below_N t (16 * dd + 1) _ (by omega) (by omega) (by omega) (by omega)).mono ?_
 rintro e w' ⟨rfl, rfl⟩
 rw [hm2E] at hm2 ⊢
 have HF := yh hm2E; clear hm2E
 obtain ⟨s3, a3, d3, h3⟩ := R_parts (mkRat ((m2 : Int) - 8 * dd) dd)
 have H3 := yh h3; clear h3
 go_wp2_with fail
 refine (ofM_O ((m2 : Int) - 8 * dd) dd _ H3.out (by omega) (by omega) hd1 (by omega)).mono ?_
 rintro e w2 ⟨rfl, hb2⟩
 have k2 : Blk w2 w.heap.size 27 #[.bool false, .string ⟨#[]⟩, .string ⟨#[]⟩] := Blk.belowB K.out.1 hb2
 obtain ⟨z0, z1, z2, f0, f1, f2⟩ := k2.three
 have HB2 := yh (And.intro (below_next K.out.2 hb2) k2); clear hb2 k2
 go_wp2_with fail
 have hW := put3 HB2.out.2 (.bool s3) (.string a3) (.string d3)
 have hWb := put3_below (g := w.heap.size) HB2.out.1 (Nat.le_refl _) (.bool s3) (.string a3) (.string d3)
 obtain ⟨p0, p1, p2, -, -, -⟩ := hW.three
 refine bodyPost_ret (v := .agg #[.bool s3, .string a3, .string d3]) (by simp [results, Tryz.results51, go_sem, p0, p1, p2]) rfl ⟨by rw [← H3.out.val]; unfold ratMq; rw [HE.out.1, HE.out.2, ← HT.out, HF.out], hWb⟩
section
variable {W : World} {l : List Own}
theorem ratM_q {x : Int} {q : Rat} (hq : ratMq x = q) (h0 : -9223372036854775808 ≤ x) (h1 : x ≤ 9223372036854775807) (w : World) (h : St W l w) : Rt 51 #[.int .i64 x] w (.agg (RC q)) := by rw [← hq]; exact ratM_E x w h0 h1
theorem below_q {x : Int} {n : Nat} (h0 : -9223372036854775808 ≤ x) (h1 : x ≤ 9223372036854775807) (hn : 0 < n) (hn2 : n ≤ 1048576) (w : World) (h : St W l w) :
  Calls Tryz.prog 18 #[.int .i64 x, .int .i64 n] w fun e w' => e = .returned (.int .i64 (belowN x n : Nat)) ∧ Below w.heap.size w w' :=
 (below_N x n w h0 h1 hn hn2).mono fun e w' ⟨h1, h2⟩ => ⟨h1, h2 ▸ Below.refl _ _⟩
theorem of_q {n : Int} {z : Rat} (hT : Tab W) (h0 : -9223372036854775808 ≤ n) (h1 : n ≤ 9223372036854775807) (hz : (n : Rat) = z) (w : World) (h : St W l w) : Rt 31 #[.int .i64 n] w (.agg (RC z)) := by
 rw [← hz]; exact of_R n w h0 h1 (tabS hT h)
theorem make_q {m n : Int} {z : Rat} (hT : Tab W) (h0 : -9223372036854775808 ≤ m) (h1 : m ≤ 9223372036854775807) (h2 : -9223372036854775808 ≤ n) (h3 : n ≤ 9223372036854775807) (hn : n ≠ 0) (hz : (m : Rat) / (n : Rat) = z) (w : World) (h : St W l w) : Rt 52 #[.int .i64 m, .int .i64 n] w (.tuple #[.agg (RC z), .int .i64 0]) := by
 rw [← hz]; exact make_R m n w h0 h1 h2 h3 hn (tabS hT h)
theorem begun_q (hT : Tab W) (w : World) (h : St W l w) : Rt 104 #[] w (.bool true) := ratBegun_any w (tabS hT h)
end
end Go.Proofs.YtmchjmflkaiakaaGreatDoor
