/- Joined texts: RatQ RatR RatS RatT. -/
import Derived.Test.YtmchjmflkaiakaaGreatDoorBunRatB
import Derived.Test.YtmchjmflkaiakaaGreatDoorBunSeq
/- What the functions of rational numbers promise, in one spelling; laws of order. -/
set_option maxHeartbeats 1000000
set_option maxRecDepth 20000
namespace Go.Proofs.YtmchjmflkaiakaaGreatDoor
open Go.RowKit
set_option linter.unusedVariables false
set_option linter.unusedSimpArgs false
abbrev Rt (f : FuncId) (vs : Array Value) (w : World) (v : Value) : Prop := Calls Tryz.prog f vs w fun e w' => e = .returned v ∧ Below w.heap.size w w'
theorem zm {k n : Nat} {x : Rat} (h : Hid (Rz k x)) (hl : k ≤ n := by omega) : Rz n x := h.out.more hl
theorem RC_one (q : Rat) : ∀ u ∈ RC q, u.oneCell' = true := by
 intro u hu
 simp only [RC, List.mem_toArray, List.mem_cons, List.not_mem_nil, or_false] at hu
 rcases hu with rfl | rfl | rfl <;> rfl
theorem RIs.rc {q : Rat} {s : Bool} {a d : ByteArray} (h : RIs q s a d) : #[Value.bool s, .string a, .string d] = RC q := by rw [h.s, h.a, h.d]; rfl
section
variable {W : World} {l : List Own} (hT : Tab W)
include hT
theorem tabS {w : World} (h : St W l w) : Tab w := hT.next h.below
theorem add_q {k : Nat} {x y z : Rat} (hx : Rz k x) (hy : Rz k y) (hz : x + y = z) (hk : k ≤ 4398046511104) (w : World) (h : St W l w) :
  Calls Tryz.prog 49 #[.agg (RC x), .agg (RC y)] w fun e w' => e = .returned (.agg (RC z)) ∧ Below w.heap.size w w' := by
 rw [← hz]; exact add_R k x y w hx hy (by omega) (tabS hT h)
theorem sub_q {k : Nat} {x y z : Rat} (hx : Rz k x) (hy : Rz k y) (hz : x - y = z) (hk : k ≤ 4398046511104) (w : World) (h : St W l w) :
  Calls Tryz.prog 36 #[.agg (RC x), .agg (RC y)] w fun e w' => e = .returned (.agg (RC z)) ∧ Below w.heap.size w w' := by
 rw [← hz]; exact sub_R k x y w hx hy (by omega) (tabS hT h)
theorem mul_q {k : Nat} {x y z : Rat} (hx : Rz k x) (hy : Rz k y) (hz : x * y = z) (hk : k ≤ 4398046511104) (w : World) (h : St W l w) :
  Calls Tryz.prog 48 #[.agg (RC x), .agg (RC y)] w fun e w' => e = .returned (.agg (RC z)) ∧ Below w.heap.size w w' := by
 rw [← hz]; exact mul_R k x y w hx hy (by omega) (tabS hT h)
theorem neg_q {k : Nat} {x z : Rat} (hx : Rz k x) (hz : -x = z) (hk : k ≤ 4398046511104) (w : World) (h : St W l w) :
  Calls Tryz.prog 32 #[.agg (RC x)] w fun e w' => e = .returned (.agg (RC z)) ∧ Below w.heap.size w w' := by
 rw [← hz]; exact neg_R k x w hx (by omega) (tabS hT h)
theorem abs_q {k : Nat} {x z : Rat} (hx : Rz k x) (hz : absQ x = z) (hk : k ≤ 4398046511104) (w : World) (h : St W l w) :
  Calls Tryz.prog 74 #[.agg (RC x)] w fun e w' => e = .returned (.agg (RC z)) ∧ Below w.heap.size w w' := by
 rw [← hz]; exact abs_R k x w hx (by omega) (tabS hT h)
theorem min_q {k : Nat} {x y z : Rat} (hx : Rz k x) (hy : Rz k y) (hz : minQ x y = z) (hk : k ≤ 4398046511104) (w : World) (h : St W l w) :
  Calls Tryz.prog 63 #[.agg (RC x), .agg (RC y)] w fun e w' => e = .returned (.agg (RC z)) ∧ Below w.heap.size w w' := by
 rw [← hz]; exact min_R k x y w hx hy (by omega) (tabS hT h)
theorem max_q {k : Nat} {x y z : Rat} (hx : Rz k x) (hy : Rz k y) (hz : maxQ x y = z) (hk : k ≤ 4398046511104) (w : World) (h : St W l w) :
  Calls Tryz.prog 64 #[.agg (RC x), .agg (RC y)] w fun e w' => e = .returned (.agg (RC z)) ∧ Below w.heap.size w w' := by
 rw [← hz]; exact max_R k x y w hx hy (by omega) (tabS hT h)
theorem good_q {k : Nat} {x : Rat} (hx : Rz k x) (hk : k ≤ 4398046511104) (w : World) (h : St W l w) :
  Calls Tryz.prog 125 #[.agg (RC x)] w fun e w' => e = .returned (.bool true) ∧ Below w.heap.size w w' :=
 Good_R k x w hx (by omega) (tabS hT h)
theorem sign_q {k : Nat} {x : Rat} {v : Int} (hx : Rz k x) (hv : sgnQ x = v) (hk : k ≤ 4398046511104) (w : World) (h : St W l w) :
  Calls Tryz.prog 27 #[.agg (RC x)] w fun e w' => e = .returned (.int .i64 v) ∧ Below w.heap.size w w' := by
 rw [← hv]; exact sign_R k x w hx (by omega) (tabS hT h)
theorem cmp_q {k : Nat} {x y : Rat} {v : Int} (hx : Rz k x) (hy : Rz k y) (hv : cmpQ x y = v) (hk : k ≤ 4398046511104) (w : World) (h : St W l w) :
  Calls Tryz.prog 29 #[.agg (RC x), .agg (RC y)] w fun e w' => e = .returned (.int .i64 v) ∧ Below w.heap.size w w' := by
 rw [← hv]; exact cmp_R k x y w hx hy (by omega) (tabS hT h)
theorem div_q {k : Nat} {x y z : Rat} (hx : Rz k x) (hy : Rz k y) (h0 : y ≠ 0) (hz : x / y = z) (hk : k ≤ 4398046511104) (w : World) (h : St W l w) :
  Calls Tryz.prog 47 #[.agg (RC x), .agg (RC y)] w fun e w' => e = .returned (.tuple #[.agg (RC z), .int .i64 0]) ∧ Below w.heap.size w w' := by
 rw [← hz]; exact div_R k x y w hx hy h0 (by omega) (tabS hT h)
end
theorem run_eqR (op : BinOp) (x y : Rat) (X Y : Operand) (w : World) (b : Bool) (h : op = .eql ∧ decide (x = y) = b ∨ op = .neq ∧ (!decide (x = y)) = b) :
  ((do eqGuard op 27 X Y (.agg (RC x)) (.agg (RC y)); binOp op 27 (.agg (RC x)) (.agg (RC y)) : Sem Value)).run Tryz.prog w = .ok (.bool b) w := by
 obtain ⟨s1, a1, d1, h1⟩ := R_parts x
 obtain ⟨s2, a2, d2, h2⟩ := R_parts y
 rw [← h1.rc, ← h2.rc]
 by_cases hxy : x = y
 ·have e : s1 = s2 ∧ a1 = a2 ∧ d1 = d2 := by subst hxy; exact ⟨h1.s.trans h2.s.symm, h1.a.trans h2.a.symm, h1.d.trans h2.d.symm⟩
  obtain ⟨rfl, rfl, rfl⟩ := e
  rw [decide_eq_true hxy] at h
  clear hxy h1 h2
  rcases h with ⟨rfl, rfl⟩ | ⟨rfl, rfl⟩ <;> go_simp
 ·have e : s1 = s2 → a1.toList = a2.toList → d1.toList = d2.toList → False := fun e1 e2 e3 => hxy (RIs.injL h1 h2 e1 e2 e3)
  rw [decide_eq_false hxy] at h
  clear hxy h1 h2
  rcases h with ⟨rfl, rfl⟩ | ⟨rfl, rfl⟩
  ·go_simp; exact e
  ·go_simp; exact e
section
variable {ops : Array Oper} {W : World} {l : List Own} {Q : Exit → Act → World → Prop} {gs : List Nat} {k : Nat} {o : Oper} {rest : List Oper} {a : Act} {R : Reg}
theorem Seq.eqR {x y : Rat} {X Y : Operand} {U : TypeId} {b : Bool} (ho : o.op = .binOp .eql 27 X Y U) (hk : kd gs k o = .val) (hw : wants ops o a = true) (hx : a.eval X = .agg (RC x)) (hy : a.eval Y = .agg (RC y))
  (hb : decide (x = y) = b) (h : Seq Tryz.prog ops Q W l gs (k + 1) rest (a.put o.dst (.bool b)) R) : Seq Tryz.prog ops Q W l gs k (o :: rest) a R :=
 Seq.pure hk hw (fun w => by
  unfold execOp
  simp only [ho, hx, hy, Sem.run_bind, run_eqR .eql x y X Y w b (.inl ⟨rfl, hb⟩), Result.andThen_ok, Sem.run_pure]) h
end
variable {W : World} {l : List Own}
theorem made_q {k : Nat} (s : Bool) (n d : Nat) (hT : Tab W) (hd : d ≠ 0) (hn : Sz k n) (hdk : Sz k d) (hk : k ≤ 35184372088832) {q : Rat} (hq : mkRat (sg s n) d = q) (w : World) (h : St W l w) : Rt 80 #[.bool s, .string (S n), .string (S d)] w (.agg (RC q)) := by
 rw [← hq]; exact made_R s n d k w hd hn hdk hk (tabS hT h)
theorem made_1 {k : Nat} (s : Bool) (n : Nat) (hT : Tab W) (hn : Sz k n) (hk : k ≤ 35184372088832) (hk1 : 1 ≤ k) {q : Rat} (hq : mkRat (sg s n) 1 = q) (w : World) (h : St W l w) : Rt 80 #[.bool s, .string (S n), .string ⟨#[1]⟩] w (.agg (RC q)) := by
 rw [← S_one]; exact made_q s n 1 hT (by omega) hn (Sz.one.more hk1) hk hq w h
theorem div_s {k : Nat} (m n : Nat) (h0 : n ≠ 0) (hm : Sz k m) (hn : Sz k n) (hk : k ≤ 35184372088832) (w : World) (h : St W l w) :
  Calls Tryz.prog 134 #[.string (S m), .string (S n)] w fun e w' => e = .returned (.tuple #[.string (S (m / n)), .string (S (m % n)), .int .i64 0]) ∧ Below w.heap.size w w' :=
 div_S m n w h0 (Nat.le_trans hm hk) (Nat.le_trans hn hk)
theorem add_1 {k : Nat} (m : Nat) (hm : Sz k m) (hk : k ≤ 35184372088832) (w : World) (h : St W l w) : Rt 82 #[.string (S m), .string ⟨#[1]⟩] w (.string (S (m + 1))) := by
 rw [← S_one]; exact add_S m 1 w (Nat.le_trans hm hk) (Nat.le_trans Sz.one (by omega))
theorem Sz.div {k m : Nat} (h : Sz k m) (n : Nat) : Sz k (m / n) := h.le (Nat.div_le_self _ _)
def flQ (q : Rat) : Int := q.num / (q.den : Int)
theorem whole_val (s : Bool) (n d : Nat) (hd : d ≠ 0) : (sg s n) / (d : Int) = sg s (if s = true ∧ n % d ≠ 0 then n / d + 1 else n / d) := by
 unfold sg
 cases s with
 | false => simp
 | true =>
   simp only [if_true, true_and]
   have hp : (0 : Int) < d := by omega
   have h1 := Nat.div_add_mod n d
   have h2 := Nat.mod_lt n (Nat.pos_of_ne_zero hd)
   by_cases h : n % d = 0
   ·rw [if_neg (by omega)]
    have h3 : (n : Int) = (d : Int) * ((n / d : Nat) : Int) := by rw [← Int.natCast_mul]; congr 1; omega
    rw [h3, ← Int.mul_neg, Int.mul_ediv_cancel_left _ (by omega)]
   ·rw [if_pos h]
    have h3 : -(n : Int) = (d - n % d : Nat) + (d : Int) * (-((n / d + 1 : Nat) : Int)) := by
     have h4 : (n : Int) = (d : Int) * ((n / d : Nat) : Int) + ((n % d : Nat) : Int) := by rw [← Int.natCast_mul, ← Int.natCast_add]; congr 1; omega
     have h5 : ((d - n % d : Nat) : Int) = (d : Int) - ((n % d : Nat) : Int) := by omega
     rw [h5, Int.natCast_add, Int.mul_neg, Int.mul_add]
     omega
    rw [h3, Int.add_mul_ediv_left _ _ (by omega), Int.ediv_eq_zero_of_lt (by omega) (by omega)]
    omega
theorem whole_pos {k : Nat} (n d : Nat) {q : Rat} (w : World) (hd : d ≠ 0)  (hn : Sz k n) (hdk : Sz k d) (hk : k ≤ 17592186044416) (hk1 : 1 ≤ k) (hT : Tab w) (hq : mkRat (sg false (n / d)) 1 = q) :
  Calls Tryz.prog 193 #[.agg #[.bool false, .string (S n), .string (S d)]] w fun e w' => e = .returned (.agg (RC q)) ∧ Below w.heap.size w w' := by
 have HH := yh (And.intro hd (And.intro hn (And.intro hdk (And.intro hT hq)))); clear hd hn hdk hT hq
 go_enter Tryz.func193, Tryz.ntmps193
 have HS : St w [] w := St.start
 go_upto_region 0 with fail
 refine rgT [] HS ?_
 refine bX (#[.bool false, .string (S n), .string (S d)]) ?_
 intro b1 _ _ hb1_r
 refine nZ ?_
 refine aL3 ?_
 intro b2 _ _ hb2_r
 obtain ⟨_, _, hb2_r⟩ := Reg.ne2 hb2_r
 refine nZ ?_
 refine dn2 b1 b2 fun _ HS1=>?_
 clear HS
 go_upto_region 1 with fail
 refine rgT [] HS1 ?_
 refine pV (.pointer (some ⟨b1, 1, none⟩)) (by intro w; go_simp; try with_reducible rfl) ?_
 refine lC (.string (S n)) ?_
 refine pV (.pointer (some ⟨b1, 2, none⟩)) (by intro w; go_simp; try with_reducible rfl) ?_
 refine lC (.string (S d)) ?_
 refine cX rfl rfl (div_s (k := k) n d HH.out.1 HH.out.2.1 HH.out.2.2.1 (by omega)) ?_
 iterate 7 refine pR ?_
 refine dnS fun _ HS2=>?_
 clear HS1
 go_upto_region 2 with fail
 refine rgT [] HS2 ?_
 refine pV (.pointer (some ⟨b1, 0, none⟩)) (by intro w; go_simp; try with_reducible rfl) ?_
 refine lC (.bool false) ?_
 refine pR ?_
 iterate 2 refine nW ?_
 refine pR ?_
 refine dnS fun _ HS3=>?_
 clear HS2
 go_upto_region 4 with fail
 have HP3 : St w [(b2, 27, #[.bool false, .string ⟨#[]⟩, .string ⟨#[]⟩]), (b1, 27, #[.bool false, .string (S n), .string (S d)])] _ := St.perm HS3 (by first | exact List.Perm.refl _ | exact List.Perm.swap _ _ _ | (simp [List.perm_cons, List.Perm.swap, List.perm_middle]))
 refine wp_seq_text [] (StR.move (StR.no HP3)) ?_
 refine pV (.pointer (some ⟨b1, 0, none⟩)) (by intro w; go_simp; try with_reducible rfl) ?_
 refine lC (.bool false) ?_
 refine pR ?_
 refine cX rfl rfl (made_1 (k := k + 2) false (n / d) HH.out.2.2.2.1 ((HH.out.2.1.div d).more (by omega)) (by omega) (by omega) HH.out.2.2.2.2) ?_
 refine sV (RC_one _) ?_
 refine dn1 b2 fun _ HS4=>?_
 clear HS3 HP3
 go_wp2_with fail
 exact rO HS4 ⟨rfl, HS4.below⟩
theorem whole_even {k : Nat} (n d : Nat) {q : Rat} (w : World) (hd : d ≠ 0) (hr : n % d = 0) (hn : Sz k n) (hdk : Sz k d) (hk : k ≤ 17592186044416) (hk1 : 1 ≤ k) (hT : Tab w) (hq : mkRat (sg true (n / d)) 1 = q) :
  Calls Tryz.prog 193 #[.agg #[.bool true, .string (S n), .string (S d)]] w fun e w' => e = .returned (.agg (RC q)) ∧ Below w.heap.size w w' := by
 have HH := yh (And.intro hd (And.intro hn (And.intro hdk (And.intro hT hq)))); clear hd hn hdk hT hq
 have hr0 : (S (n % d)).toList = [] := by rw [hr, S_list]; rfl
 clear hr
 go_enter Tryz.func193, Tryz.ntmps193
 have HS : St w [] w := St.start
 go_upto_region 0 with fail
 refine rgT [] HS ?_
 refine bX (#[.bool true, .string (S n), .string (S d)]) ?_
 intro b1 _ _ hb1_r
 refine nZ ?_
 refine aL3 ?_
 intro b2 _ _ hb2_r
 obtain ⟨_, _, hb2_r⟩ := Reg.ne2 hb2_r
 refine nZ ?_
 refine dn2 b1 b2 fun _ HS1=>?_
 clear HS
 go_upto_region 1 with fail
 refine rgT [] HS1 ?_
 refine pV (.pointer (some ⟨b1, 1, none⟩)) (by intro w; go_simp; try with_reducible rfl) ?_
 refine lC (.string (S n)) ?_
 refine pV (.pointer (some ⟨b1, 2, none⟩)) (by intro w; go_simp; try with_reducible rfl) ?_
 refine lC (.string (S d)) ?_
 refine cX rfl rfl (div_s (k := k) n d HH.out.1 HH.out.2.1 HH.out.2.2.1 (by omega)) ?_
 iterate 7 refine pR ?_
 refine dnS fun _ HS2=>?_
 clear HS1
 go_upto_region 2 with fail
 refine rgT [] HS2 ?_
 refine pV (.pointer (some ⟨b1, 0, none⟩)) (by intro w; go_simp; try with_reducible rfl) ?_
 refine lC (.bool true) ?_
 iterate 4 refine pR ?_
 refine dnS fun _ HS3=>?_
 clear HS2
 go_upto_region 4 with fail
 have HP3 : St w [(b2, 27, #[.bool false, .string ⟨#[]⟩, .string ⟨#[]⟩]), (b1, 27, #[.bool true, .string (S n), .string (S d)])] _ := St.perm HS3 (by first | exact List.Perm.refl _ | exact List.Perm.swap _ _ _ | (simp [List.perm_cons, List.Perm.swap, List.perm_middle]))
 refine wp_seq_text [] (StR.move (StR.no HP3)) ?_
 refine pV (.pointer (some ⟨b1, 0, none⟩)) (by intro w; go_simp; try with_reducible rfl) ?_
 refine lC (.bool true) ?_
 refine pR ?_
 refine cX rfl rfl (made_1 (k := k + 2) true (n / d) HH.out.2.2.2.1 ((HH.out.2.1.div d).more (by omega)) (by omega) (by omega) HH.out.2.2.2.2) ?_
 refine sV (RC_one _) ?_
 refine dn1 b2 fun _ HS4=>?_
 clear HS3 HP3
 go_wp2_with fail
 exact rO HS4 ⟨rfl, HS4.below⟩
theorem whole_odd {k : Nat} (n d : Nat) {q : Rat} (w : World) (hd : d ≠ 0) (hr : n % d ≠ 0) (hn : Sz k n) (hdk : Sz k d) (hk : k ≤ 17592186044416) (hk1 : 1 ≤ k) (hT : Tab w) (hq : mkRat (sg true (n / d + 1)) 1 = q) :
  Calls Tryz.prog 193 #[.agg #[.bool true, .string (S n), .string (S d)]] w fun e w' => e = .returned (.agg (RC q)) ∧ Below w.heap.size w w' := by
 have HH := yh (And.intro hd (And.intro hn (And.intro hdk (And.intro hT hq)))); clear hd hn hdk hT hq
 have hr0 := S_nil hr
 have hr1 := S_empty_of hr
 clear hr
 go_enter Tryz.func193, Tryz.ntmps193
 have HS : St w [] w := St.start
 go_upto_region 0 with fail
 refine rgT [] HS ?_
 refine bX (#[.bool true, .string (S n), .string (S d)]) ?_
 intro b1 _ _ hb1_r
 refine nZ ?_
 refine aL3 ?_
 intro b2 _ _ hb2_r
 obtain ⟨_, _, hb2_r⟩ := Reg.ne2 hb2_r
 refine nZ ?_
 refine dn2 b1 b2 fun _ HS1=>?_
 clear HS
 go_upto_region 1 with fail
 refine rgT [] HS1 ?_
 refine pV (.pointer (some ⟨b1, 1, none⟩)) (by intro w; go_simp; try with_reducible rfl) ?_
 refine lC (.string (S n)) ?_
 refine pV (.pointer (some ⟨b1, 2, none⟩)) (by intro w; go_simp; try with_reducible rfl) ?_
 refine lC (.string (S d)) ?_
 refine cX rfl rfl (div_s (k := k) n d HH.out.1 HH.out.2.1 HH.out.2.2.1 (by omega)) ?_
 iterate 7 refine pR ?_
 refine dnS fun _ HS2=>?_
 clear HS1
 go_upto_region 2 with fail
 refine rgT [] HS2 ?_
 refine pV (.pointer (some ⟨b1, 0, none⟩)) (by intro w; go_simp; try with_reducible rfl) ?_
 refine lC (.bool true) ?_
 iterate 4 refine pR ?_
 refine dnS fun _ HS3=>?_
 clear HS2
 go_upto_region 3 with fail
 refine rgT [] HS3 ?_
 refine pR ?_
 refine cX rfl rfl (add_1 (k := k) (n / d) (HH.out.2.1.div d) (by omega)) ?_
 refine pR ?_
 refine dnS fun _ HS4=>?_
 clear HS3
 go_upto_region 4 with fail
 have HP4 : St w [(b2, 27, #[.bool false, .string ⟨#[]⟩, .string ⟨#[]⟩]), (b1, 27, #[.bool true, .string (S n), .string (S d)])] _ := St.perm HS4 (by first | exact List.Perm.refl _ | exact List.Perm.swap _ _ _ | (simp [List.perm_cons, List.Perm.swap, List.perm_middle]))
 refine wp_seq_text [] (StR.move (StR.no HP4)) ?_
 refine pV (.pointer (some ⟨b1, 0, none⟩)) (by intro w; go_simp; try with_reducible rfl) ?_
 refine lC (.bool true) ?_
 refine pR ?_
 refine cX rfl rfl (made_1 (k := k + 2) true (n / d + 1) HH.out.2.2.2.1 ((HH.out.2.1.div d).add Sz.one) (by omega) (by omega) HH.out.2.2.2.2) ?_
 refine sV (RC_one _) ?_
 refine dn1 b2 fun _ HS5=>?_
 clear HS4 HP4
 go_wp2_with fail
 exact rO HS5 ⟨rfl, HS5.below⟩
theorem whole_q {k : Nat} {x : Rat} {z : Rat} (hT : Tab W) (hx : Rz k x) (hz : ((flQ x : Int) : Rat) = z) (hk : k ≤ 4398046511104) (w : World) (h : St W l w) : Rt 193 #[.agg (RC x)] w (.agg (RC z)) := by
 have hd := x.den_nz
 have hv := whole_val (decide (x.num < 0)) x.num.natAbs x.den hd
 rw [sg_num] at hv
 have e : mkRat (sg (decide (x.num < 0)) (if decide (x.num < 0) = true ∧ x.num.natAbs % x.den ≠ 0 then x.num.natAbs / x.den + 1 else x.num.natAbs / x.den)) 1 = z := by
  rw [← hv, mkRat_one]; exact hz
 have hn := hx.1.more (show k ≤ k + 1 by omega)
 have hdk := hx.2.more (show k ≤ k + 1 by omega)
 unfold RC
 by_cases h1 : x.num < 0
 ·rw [decide_eq_true h1] at e ⊢
  by_cases h2 : x.num.natAbs % x.den = 0
  ·rw [if_neg (fun h => h.2 h2)] at e
   exact whole_even (k := k + 1) x.num.natAbs x.den w hd h2 hn hdk (by omega) (by omega) (tabS hT h) e
  ·rw [if_pos ⟨rfl, h2⟩] at e
   exact whole_odd (k := k + 1) x.num.natAbs x.den w hd h2 hn hdk (by omega) (by omega) (tabS hT h) e
 ·rw [decide_eq_false h1] at e ⊢
  rw [if_neg (fun h => by cases h.1)] at e
  exact whole_pos (k := k + 1) x.num.natAbs x.den w hd hn hdk (by omega) (by omega) (tabS hT h) e
theorem Rz.intQ {k : Nat} {z : Int} (h : Sz k z.natAbs) (hk : 1 ≤ k) : Rz k (z : Rat) := ⟨h, Sz.one.more hk⟩
theorem trim_s (n : Nat) (hs : (bstr n).length ≤ 35184372088832) (w : World) (h : St W l w) :
  Calls Tryz.prog 127 #[.string (S n)] w fun e w' => e = .returned (.string (S n)) ∧ Below w.heap.size w w' :=
 (trim_S n w (by unfold maxLen; omega)).mono fun e w' ⟨h1, h2⟩ => ⟨h1, h2 ▸ Below.refl _ _⟩
theorem short_s (n : Nat) (hs : (bstr n).length ≤ 8) (w : World) (h : St W l w) :
  Calls Tryz.prog 130 #[.string (S n)] w fun e w' => e = .returned (.int .u64 n) ∧ Below w.heap.size w w' :=
 (short_S n w hs).mono fun e w' ⟨h1, h2⟩ => ⟨h1, h2 ▸ Below.refl _ _⟩
theorem int_R (n : Nat) (w : World) (hn : n ≤ 9223372036854775807) :
  Calls Tryz.prog 194 #[.string (S n)] w fun e w' => e = .returned (.tuple #[.int .i64 n, .int .i64 0]) ∧ Below w.heap.size w w' := by
 have hl : (bstr n).length ≤ 8 := bstr_length_le.2 (by omega)
 have h8 : (S n).size ≤ 8 := by rw [S_size]; exact hl
 have h8i : decide ((8 : Int) < ((S n).size : Int)) = false := by rw [decide_eq_false]; omega
 have h8n : decide (8 < (S n).size) = false := by rw [decide_eq_false]; omega
 have hb : decide ((9223372036854775807 : Int) < (n : Int)) = false := by rw [decide_eq_false]; omega
 have hwr : IntKind.i64.wrap (n : Int) = n := IntWalk.i64_in _ (by omega)
 have HL := yh (And.intro hn hl); clear hn hl
 go_enter Tryz.func194, Tryz.ntmps194
 have HS : St w [] w := St.start
 go_upto_region 0 with fail
 refine rgT [] HS ?_
 iterate 2 refine pR ?_
 refine dnS fun _ HS1=>?_
 clear HS
 go_upto_region 1 with fail
 refine rgT [] HS1 ?_
 refine pR ?_
 refine cX rfl rfl (trim_s n (Nat.le_trans HL.out.2 (by omega))) ?_
 refine pR ?_
 refine dnS fun _ HS2=>?_
 clear HS1
 go_upto_region 2 with fail
 refine rgT [] HS2 ?_
 iterate 5 refine pR ?_
 refine cL (short_s n HL.out.2) ?_
 iterate 2 refine pR ?_
 refine dnS fun _ HS3=>?_
 clear HS2
 go_upto_region 4 with fail
 refine rgT [] HS3 ?_
 refine pR ?_
 refine cL (short_s n HL.out.2) ?_
 iterate 3 refine pR ?_
 refine dnS fun _ HS4=>?_
 clear HS3
 go_wp2_with fail
 go_ret2
 exact ⟨rfl, HS4.below⟩
theorem int_s (n : Nat) (hn : n ≤ 9223372036854775807) (w : World) (h : St W l w) : Rt 194 #[.string (S n)] w (.tuple #[.int .i64 n, .int .i64 0]) := int_R n w hn
theorem fit_q {k : Nat} {x : Rat} (hT : Tab W) (hx : Rz k x) (hk : k ≤ 35184372088832) (w : World) (h : St W l w) : Rt 77 #[.agg (RC x)] w (.agg (RC x)) := fit_R k x w hx hk (tabS hT h)
theorem floor_pos {k : Nat} {x : Rat} (w : World) (hT : Tab w) (hx : Rz k x) (hs : 0 ≤ flQ x) (hb : (flQ x).natAbs ≤ 9223372036854775807) (hk : k ≤ 4398046511104) :
  Calls Tryz.prog 164 #[.agg (RC x)] w fun e w' => e = .returned (.tuple #[.int .i64 (flQ x), .int .i64 0]) ∧ Below w.heap.size w w' := by
 have HX := yh (And.intro hx (And.intro hb hT)); clear hx hb hT
 have hd : decide (Rat.num ((flQ x : Int) : Rat) < 0) = false := decide_eq_false (show ¬ flQ x < 0 by omega)
 have HS0 := yh hs; clear hs
 have HN := yh (show (Rat.num ((flQ x : Int) : Rat)).natAbs ≤ 9223372036854775807 from HX.out.2.1)
 have hv : ((flQ x).natAbs : Int) = flQ x := by have := HS0.out; show ((flQ x).natAbs : Int) = _; omega
 go_enter Tryz.func164, Tryz.ntmps164
 have HS : St w [] w := St.start
 go_upto_region 0 with fail
 refine rgT [] HS ?_
 refine bX (RC x) ?_
 intro b1 _ _ hb1_r
 refine nZ ?_
 iterate 2 refine pR ?_
 refine dn1 b1 fun _ HS1=>?_
 clear HS
 go_upto_region 1 with fail
 have HP1 : St w [(b1, 27, RC x)] _ := St.perm HS1 (by first | exact List.Perm.refl _ | exact List.Perm.swap _ _ _ | (simp [List.perm_cons, List.Perm.swap, List.perm_middle]))
 refine wp_seq_text [0] (StR.move (StR.no HP1)) ?_
 refine gV ?_
 refine cX rfl rfl (fit_q (k := k) HX.out.2.2 HX.out.1 (by omega)) ?_
 refine cX rfl rfl (whole_q (k := k) HX.out.2.2 HX.out.1 rfl (by omega)) ?_
 refine sV (RC_one _) ?_
 refine dn1 b1 fun _ HS2=>?_
 clear HS1 HP1
 go_upto_region 2 with fail
 refine rgT [] HS2 ?_
 refine pV (.pointer (some ⟨b1, 1, none⟩)) (by intro w; go_simp; try with_reducible rfl) ?_
 refine lC (.string (S (Rat.num ((flQ x : Int) : Rat)).natAbs)) ?_
 refine cL (int_s _ HN.out) ?_
 iterate 5 refine pR ?_
 refine dnS fun _ HS3=>?_
 clear HS2
 go_upto_region 3 with fail
 refine rgT [] HS3 ?_
 refine pV (.pointer (some ⟨b1, 0, none⟩)) (by intro w; go_simp; try with_reducible rfl) ?_
 refine Seq.loadCell rfl rfl rfl rfl (by repeat first|exact mC|apply mT) (v := .bool false) (by rw [← hd]; rfl) (by kernel_rfl) rfl (nZ ?_)
 refine dnS fun _ HS4=>?_
 clear HS3
 go_upto_region 5 with fail
 refine rgT [] HS4 ?_
 iterate 4 refine pR ?_
 refine dnS fun _ HS5=>?_
 clear HS4
 go_wp2_with fail
 go_ret2
 exact ⟨by first | rfl | rw [hv], HS5.below⟩
theorem floor_neg {k : Nat} {x : Rat} (w : World) (hT : Tab w) (hx : Rz k x) (hs : flQ x < 0) (hb : (flQ x).natAbs ≤ 9223372036854775807) (hk : k ≤ 4398046511104) :
  Calls Tryz.prog 164 #[.agg (RC x)] w fun e w' => e = .returned (.tuple #[.int .i64 (flQ x), .int .i64 0]) ∧ Below w.heap.size w w' := by
 have HX := yh (And.intro hx (And.intro hb hT)); clear hx hb hT
 have hd : decide (Rat.num ((flQ x : Int) : Rat) < 0) = true := decide_eq_true (show flQ x < 0 from hs)
 have HS0 := yh hs; clear hs
 have HN := yh (show (Rat.num ((flQ x : Int) : Rat)).natAbs ≤ 9223372036854775807 from HX.out.2.1)
 have hv : IntKind.i64.wrap (-((flQ x).natAbs : Int)) = flQ x := by have := HS0.out; show IntKind.i64.wrap (-((flQ x).natAbs : Int)) = _; rw [IntWalk.i64_in _ (by have := HX.out.2.1; omega)]; omega
 go_enter Tryz.func164, Tryz.ntmps164
 have HS : St w [] w := St.start
 go_upto_region 0 with fail
 refine rgT [] HS ?_
 refine bX (RC x) ?_
 intro b1 _ _ hb1_r
 refine nZ ?_
 iterate 2 refine pR ?_
 refine dn1 b1 fun _ HS1=>?_
 clear HS
 go_upto_region 1 with fail
 have HP1 : St w [(b1, 27, RC x)] _ := St.perm HS1 (by first | exact List.Perm.refl _ | exact List.Perm.swap _ _ _ | (simp [List.perm_cons, List.Perm.swap, List.perm_middle]))
 refine wp_seq_text [0] (StR.move (StR.no HP1)) ?_
 refine gV ?_
 refine cX rfl rfl (fit_q (k := k) HX.out.2.2 HX.out.1 (by omega)) ?_
 refine cX rfl rfl (whole_q (k := k) HX.out.2.2 HX.out.1 rfl (by omega)) ?_
 refine sV (RC_one _) ?_
 refine dn1 b1 fun _ HS2=>?_
 clear HS1 HP1
 go_upto_region 2 with fail
 refine rgT [] HS2 ?_
 refine pV (.pointer (some ⟨b1, 1, none⟩)) (by intro w; go_simp; try with_reducible rfl) ?_
 refine lC (.string (S (Rat.num ((flQ x : Int) : Rat)).natAbs)) ?_
 refine cL (int_s _ HN.out) ?_
 iterate 5 refine pR ?_
 refine dnS fun _ HS3=>?_
 clear HS2
 go_upto_region 3 with fail
 refine rgT [] HS3 ?_
 refine pV (.pointer (some ⟨b1, 0, none⟩)) (by intro w; go_simp; try with_reducible rfl) ?_
 refine Seq.loadCell rfl rfl rfl rfl (by repeat first|exact mC|apply mT) (v := .bool true) (by rw [← hd]; rfl) (by kernel_rfl) rfl (nZ ?_)
 refine dnS fun _ HS4=>?_
 clear HS3
 go_upto_region 4 with fail
 refine rgT [] HS4 ?_
 iterate 3 refine pR ?_
 refine dnS fun _ HS5=>?_
 clear HS4
 go_upto_region 5 with fail
 refine rgT [] HS5 ?_
 iterate 4 refine pR ?_
 refine dnS fun _ HS6=>?_
 clear HS5
 go_wp2_with fail
 go_ret2
 exact ⟨by first | rfl | rw [hv], HS6.below⟩
theorem floor_q {k : Nat} {x : Rat} {z : Int} (hT : Tab W) (hx : Rz k x) (hz : flQ x = z) (hb : z.natAbs ≤ 9223372036854775807) (hk : k ≤ 4398046511104) (w : World) (h : St W l w) : Rt 164 #[.agg (RC x)] w (.tuple #[.int .i64 z, .int .i64 0]) := by
 subst hz
 by_cases h0 : flQ x < 0
 ·exact floor_neg w (tabS hT h) hx h0 hb hk
 ·exact floor_pos w (tabS hT h) hx (by omega) hb hk
theorem cmp_le {x y : Rat} (h : x ≤ y) : cmpQ x y ≤ 0 := by unfold cmpQ; grind
theorem cmp_gt {x y : Rat} (h : y < x) : 0 < cmpQ x y := by unfold cmpQ; grind
def belowN (x : Int) (n : Nat) : Nat := (if x.tmod n < 0 then x.tmod n + n else x.tmod n).toNat
theorem belowN_lt (x : Int) {n : Nat} (hn : 0 < n) : belowN x n < n := by
 have e1 := Int.tmod_lt_of_pos x (show (0 : Int) < n by omega)
 unfold belowN
 split <;> omega
theorem below_N (x : Int) (n : Nat) (w : World) (h0 : -9223372036854775808 ≤ x) (h1 : x ≤ 9223372036854775807) (hn : 0 < n) (hn2 : n ≤ 1048576) :
  Calls Tryz.prog 18 #[.int .i64 x, .int .i64 n] w fun e w' => e = .returned (.int .i64 (belowN x n : Nat)) ∧ w = w' := by
 have e1 := Int.tmod_lt_of_pos x (show (0 : Int) < n by omega)
 have e2 : -(n : Int) < x.tmod n := by
  have := Int.lt_tmod_of_pos x (show (0 : Int) < n by omega)
  exact this
 obtain ⟨t, ht⟩ : ∃ t, t = x.tmod n := ⟨_, rfl⟩
 have ew : IntKind.i64.wrap (x.tmod (n : Int)) = t := by rw [← ht]; exact IntWalk.i64_in _ (by omega)
 have eb : belowN x n = (if t < 0 then t + n else t).toNat := by rw [ht]; rfl
 have et : x.tmod (n : Int) = t := ht.symm
 rw [et] at e1 e2
 have HT := yh (And.intro ht eb); clear ht eb
 by_cases hneg : t < 0
 ·go_enter Tryz.func18, Tryz.ntmps18
  go_wp2_with fail
  go_ret
  exact ⟨by rw [HT.out.2, if_pos hneg, show (((t + n).toNat : Nat) : Int) = t + n by omega]; rfl, rfl⟩
 ·go_enter Tryz.func18, Tryz.ntmps18
  go_wp2_with fail
  go_ret
  exact ⟨by rw [HT.out.2, if_neg (by omega), show ((t.toNat : Nat) : Int) = t by omega]; rfl, rfl⟩
def six (m : Nat) : Nat := [1, 2, 3, 4, 5, 8].getD m 1
theorem six_is {m : Nat} (h : m < 6) : (#[Value.int .i64 1, .int .i64 2, .int .i64 3, .int .i64 4, .int .i64 5, .int .i64 8] : Array Value)[m]? = some (.int .i64 (six m : Int)) ∧ 0 < six m ∧ six m ≤ 8 := by
 match m, h with
 | 0, _ => exact ⟨rfl, by decide, by decide⟩
 | 1, _ => exact ⟨rfl, by decide, by decide⟩
 | 2, _ => exact ⟨rfl, by decide, by decide⟩
 | 3, _ => exact ⟨rfl, by decide, by decide⟩
 | 4, _ => exact ⟨rfl, by decide, by decide⟩
 | 5, _ => exact ⟨rfl, by decide, by decide⟩
def ratMq (x : Int) : Rat := mkRat ((belowN (x.tdiv 6) (16 * six (belowN x 6) + 1) : Int) - 8 * (six (belowN x 6) : Int)) (six (belowN x 6))
theorem ratMq_small (x : Int) : SmallQ (ratMq x) := by
 have h1 := belowN_lt x (show 0 < 6 by omega)
 obtain ⟨-, h2, h3⟩ := six_is h1
 have h4 := belowN_lt (x.tdiv 6) (show 0 < 16 * six (belowN x 6) + 1 by omega)
 exact ⟨_, _, rfl, h2, h3, by omega, by omega⟩
theorem ratM_E (x : Int) (w : World) (h0 : -9223372036854775808 ≤ x) (h1 : x ≤ 9223372036854775807) :
  Calls Tryz.prog 51 #[.int .i64 x] w fun e w' => e = .returned (R (ratMq x)) ∧ Below w.heap.size w w' := by
 have hb0 : Below w.heap.size w (w.alloc (.cells #[.bool false, .string ⟨#[]⟩, .string ⟨#[]⟩] 27)) := (Below.refl _ _).alloc (Nat.le_refl _) _
 have HB0 := yh hb0; clear hb0
 have ht0 : (x.tdiv 6).natAbs = x.natAbs / 6 := Int.natAbs_tdiv x 6
 obtain ⟨t, ht⟩ : ∃ t, t = x.tdiv 6 := ⟨_, rfl⟩
 rw [← ht] at ht0
 have et : x.tdiv 6 = t := ht.symm
 have tb0 : -1600000000000000000 ≤ t := by omega
 have tb1 : t ≤ 1600000000000000000 := by omega
 clear ht0
 have HT := yh ht; clear ht
 go_enter Tryz.func51, Tryz.ntmps51
 go_wp2_with fail
 obtain ⟨m, hmE⟩ : ∃ m, belowN x 6 = m := ⟨_, rfl⟩
 have hm := belowN_lt x (show 0 < 6 by omega)
 obtain ⟨dd, hddE⟩ : ∃ dd, six m = dd := ⟨_, rfl⟩
 refine (below_N x 6 _ h0 h1 (by omega) (by omega)).mono ?_
 rintro e w' ⟨rfl, rfl⟩
 rw [hmE] at hm ⊢
 obtain ⟨hdd, hd1, hd2⟩ := six_is hm
 rw [hddE] at hdd hd1 hd2
 have HE := yh (And.intro hmE hddE); clear hmE hddE
 obtain ⟨W1, hW1⟩ : ∃ W1, W1 = ((w.alloc (.cells #[.bool false, .string ⟨#[]⟩, .string ⟨#[]⟩] 27)).alloc (.cells #[Value.int .i64 1, .int .i64 2, .int .i64 3, .int .i64 4, .int .i64 5, .int .i64 8] 3)) := ⟨_, rfl⟩
 rw [← hW1]
 have k1 : Blk W1 w.heap.size 27 #[.bool false, .string ⟨#[]⟩, .string ⟨#[]⟩] := by rw [hW1]; exact (Blk.new w _ _).alloc _
 have k2 : Blk W1 (w.heap.size + 1) 3 #[Value.int .i64 1, .int .i64 2, .int .i64 3, .int .i64 4, .int .i64 5, .int .i64 8] := by rw [hW1]; exact Blk.at_ (by simp)
 have kb : Below w.heap.size w W1 := by rw [hW1]; exact HB0.out.alloc HB0.out.size _
 have c0 := (k2.cell m).trans hdd
 have K := yh (And.intro k1 kb); clear k1 k2 kb hdd hW1
 have hm6 : (m : Int) < 6 := by omega
 go_wp2_with fail
 have en : 16 * (dd : Int) + 1 = ((16 * dd + 1 : Nat) : Int) := by omega
 rw [en]
 clear en
 obtain ⟨m2, hm2E⟩ : ∃ m, belowN t (16 * dd + 1) = m := ⟨_, rfl⟩
 have hm2 := belowN_lt t (show 0 < 16 * dd + 1 by omega)
 refine (below_N t (16 * dd + 1) _ (by omega) (by omega) (by omega) (by omega)).mono ?_
 rintro e w' ⟨rfl, rfl⟩
 rw [hm2E] at hm2 ⊢
 have HF := yh hm2E; clear hm2E
 obtain ⟨s3, a3, d3, h3⟩ := R_parts (mkRat ((m2 : Int) - 8 * dd) dd)
 have H3 := yh h3; clear h3
 go_wp2_with fail
 refine (ofM_O ((m2 : Int) - 8 * dd) dd _ H3.out (by omega) (by omega) hd1 (by omega)).mono ?_
 rintro e w2 ⟨rfl, hb2⟩
 have k2 : Blk w2 w.heap.size 27 #[.bool false, .string ⟨#[]⟩, .string ⟨#[]⟩] := Blk.belowB K.out.1 hb2
 obtain ⟨z0, z1, z2, f0, f1, f2⟩ := k2.three
 have HB2 := yh (And.intro (below_next K.out.2 hb2) k2); clear hb2 k2
 go_wp2_with fail
 have hW := put3 HB2.out.2 (.bool s3) (.string a3) (.string d3)
 have hWb := put3_below (g := w.heap.size) HB2.out.1 (Nat.le_refl _) (.bool s3) (.string a3) (.string d3)
 obtain ⟨p0, p1, p2, -, -, -⟩ := hW.three
 refine bodyPost_ret (v := .agg #[.bool s3, .string a3, .string d3]) (by simp [results, Tryz.results51, go_sem, p0, p1, p2]) rfl ⟨by rw [← H3.out.val]; unfold ratMq; rw [HE.out.1, HE.out.2, ← HT.out, HF.out], hWb⟩
section
variable {W : World} {l : List Own}
theorem ratM_q {x : Int} {q : Rat} (hq : ratMq x = q) (h0 : -9223372036854775808 ≤ x) (h1 : x ≤ 9223372036854775807) (w : World) (h : St W l w) : Rt 51 #[.int .i64 x] w (.agg (RC q)) := by rw [← hq]; exact ratM_E x w h0 h1
theorem below_q {x : Int} {n : Nat} (h0 : -9223372036854775808 ≤ x) (h1 : x ≤ 9223372036854775807) (hn : 0 < n) (hn2 : n ≤ 1048576) (w : World) (h : St W l w) :
  Calls Tryz.prog 18 #[.int .i64 x, .int .i64 n] w fun e w' => e = .returned (.int .i64 (belowN x n : Nat)) ∧ Below w.heap.size w w' :=
 (below_N x n w h0 h1 hn hn2).mono fun e w' ⟨h1, h2⟩ => ⟨h1, h2 ▸ Below.refl _ _⟩
theorem of_q {n : Int} {z : Rat} (hT : Tab W) (h0 : -9223372036854775808 ≤ n) (h1 : n ≤ 9223372036854775807) (hz : (n : Rat) = z) (w : World) (h : St W l w) : Rt 31 #[.int .i64 n] w (.agg (RC z)) := by
 rw [← hz]; exact of_R n w h0 h1 (tabS hT h)
theorem make_q {m n : Int} {z : Rat} (hT : Tab W) (h0 : -9223372036854775808 ≤ m) (h1 : m ≤ 9223372036854775807) (h2 : -9223372036854775808 ≤ n) (h3 : n ≤ 9223372036854775807) (hn : n ≠ 0) (hz : (m : Rat) / (n : Rat) = z) (w : World) (h : St W l w) : Rt 52 #[.int .i64 m, .int .i64 n] w (.tuple #[.agg (RC z), .int .i64 0]) := by
 rw [← hz]; exact make_R m n w h0 h1 h2 h3 hn (tabS hT h)
end
end Go.Proofs.YtmchjmflkaiakaaGreatDoor
