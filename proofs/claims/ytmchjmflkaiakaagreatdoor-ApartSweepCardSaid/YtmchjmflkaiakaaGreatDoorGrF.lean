/- Joined texts: Ints GrowI GrA GrL GrG GrX GrC GrZ GrF. -/
import Derived.Test.YtmchjmflkaiakaaGreatDoorBunLib
import Derived.Test.YtmchjmflkaiakaaGreatDoorChecked
import Derived.Test.YtmchjmflkaiakaaGreatDoorGrow
import Derived.Deep.LoopGhost
import Derived.Deep.QuietTactic
import Derived.BigQuiet
import Derived.WalkSpells
import Derived.ChangeKeysEq
import Derived.Lib.SlicesCompact
import Derived.Lib.AppendZerosOnto
import Derived.Lib.AppendZeros
import Derived.Test.YtmchjmflkaiakaaGreatDoorRwC
import Derived.LoopN
import Derived.Test.YtmchjmflkaiakaaGreatDoorRatT
set_option maxHeartbeats 4000000
set_option maxRecDepth 20000
namespace Go.Proofs.YtmchjmflkaiakaaGreatDoor
open Go.RowKit Go.ChangeShapes Go.WideShapes Go.Deep
set_option linter.unusedVariables false
section
variable {w w' : World} {B B' : Nat} {A : Option Addr} {xs : List Int}
end
open Go.RowKit
section
variable {w wr w' : World} {v v' : Value} {xs : List Int} {n : Nat}
end
set_option linter.unusedSimpArgs false
structure Ft where
 x : Int
 y : Int
deriving DecidableEq
instance : Inhabited Ft := ⟨⟨0, 0⟩⟩
def valG (s : Ft) : List Value := [.int .i64 s.x, .int .i64 s.y]
def FLt (f g : Ft) : Prop := f.y < g.y ∨ (f.y = g.y ∧ f.x < g.x)
instance (f g : Ft) : Decidable (FLt f g) := by unfold FLt; infer_instance
def cellsF (ss : List Ft) : List Value := ss.flatMap valG
theorem cellsF_length (ss : List Ft) : (cellsF ss).length = ss.length*2 := by
 induction ss with
 | nil => rfl
 | cons a l ih => rw [show cellsF (a :: l) = valG a ++ cellsF l from rfl, List.length_append, ih]; simp [valG]; omega
theorem cellsF_get {ss : List Ft} {k j : Nat} {s : Ft} {v : Value} (h : ss[k]? = some s) (hj : (valG s)[j]? = some v) : (cellsF ss)[k*2+j]? = some v := by
 have hj3 : j < 2 := by
  have := (List.getElem?_eq_some_iff.1 hj).1
  simpa [valG] using this
 induction ss generalizing k with
 | nil => simp at h
 | cons a l ih =>
   rw [show cellsF (a :: l) = valG a ++ cellsF l from rfl]
   cases k with
   | zero =>
     simp at h; subst h
     rw [Nat.zero_mul, Nat.zero_add, List.getElem?_append_left (by simpa [valG] using hj3)]
     exact hj
   | succ k =>
     simp at h
     rw [List.getElem?_append_right (by simp [valG]; omega)]
     rw [show (k + 1)*2 + j - (valG a).length = k*2 + j by simp [valG]; omega]
     exact ih h
def FactsAt (w : World) (B : Nat) (A : Option Addr) (ss : List Ft) : Prop :=
 ∀ k s, ss[k]? = some s → ∃ b off, A = some ⟨b, off, none⟩ ∧ b < B ∧ ∀ j v, (valG s)[j]? = some v → w.cell? ⟨b, off + (k*2+j), none⟩ = some v
section
variable {w w' : World} {B B' : Nat} {A : Option Addr} {ss : List Ft}
theorem FactsAt.below (h : FactsAt w B A ss) (hb : Below B' w w') (hB : B ≤ B') : FactsAt w' B A ss := by
 intro k x hx
 obtain ⟨b, off, hA, hlt, h0⟩ := h k x hx
 exact ⟨b, off, hA, hlt, fun j v hj => (hb.cell (p := ⟨b, _, none⟩) (Nat.lt_of_lt_of_le hlt hB)).trans (h0 j v hj)⟩
theorem FactsAt.more (h : FactsAt w B A ss) (hB : B ≤ B') : FactsAt w B' A ss := by
 intro k x hx
 obtain ⟨b, off, hA, hlt, h0⟩ := h k x hx
 exact ⟨b, off, hA, Nat.lt_of_lt_of_le hlt hB, h0⟩
theorem FactsAt.nil : FactsAt w B A [] := fun k x h => by simp at h
theorem FactsAt.next (h : FactsAt w w.heap.size A ss) (hb : Below w.heap.size w w') : FactsAt w' w'.heap.size A ss := (h.below hb (Nat.le_refl _)).more hb.size
theorem FactsAt.two (h : FactsAt w B A ss) {k : Nat} {s : Ft} (hk : ss[k]? = some s) : ∃ b off, A = some ⟨b, off, none⟩ ∧ b < B ∧
  w.cell? ⟨b, off + k*2, none⟩ = some (.int .i64 s.x) ∧ w.cell? ⟨b, off + k*2+1, none⟩ = some (.int .i64 s.y) := by
 obtain ⟨b, off, hA, hb, h0⟩ := h k s hk
 exact ⟨b, off, hA, hb, h0 0 _ rfl, h0 1 _ rfl⟩
theorem FactsAt.take (h : FactsAt w B A ss) (j : Nat) : FactsAt w B A (ss.take j) := by
 intro k s hk
 rw [List.getElem?_take] at hk
 split at hk
 ·exact h k s hk
 ·cases hk
theorem FactsAt.of_own {base : Nat} {e : TypeId} {v : Value} (h : w.ownsRow base e 2 v ss.length (cellsF ss)) :
  ∃ A c, v = .slice A ss.length c ∧ ss.length ≤ c ∧ c ≤ maxLen ∧ FactsAt w w.heap.size A ss := by
 obtain ⟨h1, h2⟩ := h
 rcases h2 with ⟨rfl, hx⟩ | ⟨g, cap, cur, rfl, hg, hh, hnc, hm, hs, hc⟩
 ·have : ss = [] := by
   have := cellsF_length ss; rw [hx] at this; simp at this
   exact List.eq_nil_of_length_eq_zero (by omega)
  subst this
  exact ⟨none, 0, rfl, Nat.le_refl _, by unfold maxLen; omega, fun k u hu => by simp at hu⟩
 ·refine ⟨some ⟨g, 0, none⟩, cap, rfl, by assumption, by assumption, fun k u hu => ?_⟩
  have hglt : g < w.heap.size := by
   rcases Nat.lt_or_ge g w.heap.size with h' | h'
   ·exact h'
   ·rw [Array.getElem?_eq_none h'] at hh; cases hh
  have H := World.ownsRow.cells (w := w) (base := base) (e := e) (size := 2) (v := .slice (some ⟨g, 0, none⟩) ss.length cap) (n := ss.length) (xs := cellsF ss) ⟨h1, .inr ⟨g, cap, cur, rfl, hg, hh, hnc, hm, hs, hc⟩⟩ (g := g) rfl
  refine ⟨g, 0, rfl, hglt, fun j v hj => ?_⟩
  have := H _ _ (cellsF_get hu hj)
  rwa [Addr.add_lit] at this
end
theorem infoFt : (Tryz.prog.info? 166).map (fun i => (i.zero, i.size, i.bytes)) = some (some (.agg #[.int .i64 0, .int .i64 0]), 2, 16) := by kernel_rfl
theorem one_ft (x : Ft) : ∀ u ∈ (#[.int .i64 x.x, .int .i64 x.y] : Array Value).toList, u.oneCell' = true := by
 intro u hu; simp at hu; rcases hu with rfl | rfl <;> rfl
def FRow (w : World) (v : Value) (xs : List Ft) (wr : World) : Prop := Rws w [⟨v, 166, 2, xs.length, cellsF xs⟩] wr
section
variable {w wr w' : World} {v v' : Value} {xs : List Ft} {n : Nat}
theorem FRow.facts (h : FRow w v xs wr) : ∃ A c, v = .slice A xs.length c ∧ xs.length ≤ c ∧ c ≤ maxLen ∧ FactsAt wr wr.heap.size A xs := FactsAt.of_own (Rws.head h)
theorem FRow.row (h : FRow w v xs wr) (hn : xs.length = n) : Rws w (⟨v, 166, 2, n, cellsF xs⟩ :: []) wr := by subst hn; exact h
theorem FRow.add {x : Ft} (hn : xs.length = n) (h : Rws w [⟨v', 166, 2, n + 1, cellsF xs ++ (#[.int .i64 x.x, .int .i64 x.y] : Array Value).toList⟩] wr) : FRow w v' (xs ++ [x]) wr := by
 subst hn
 have e : cellsF (xs ++ [x]) = cellsF xs ++ [.int .i64 x.x, .int .i64 x.y] := by simp [cellsF, valG]
 unfold FRow
 rw [e, List.length_append]
 exact h
theorem FRow.nil (h : Below w.heap.size w wr) : FRow w (.slice none 0 0) [] wr := (Rws.begin h).nil _ _
theorem FRow.next (h : FRow w v xs wr) (hb : Below wr.heap.size wr w') : FRow w v xs w' := Rws.next h hb
theorem FRow.drewN (h : FRow w v xs wr) (n : Nat) : FRow w v xs (wr.drewN n) := Rws.drewN h n
theorem FRow.bel (h : FRow w v xs wr) : Below w.heap.size w wr := Rws.below h
end
theorem FactsAt.reads {w : World} {B : Nat} {A : Option Addr} {xs : List Ft} (h : FactsAt w B A xs) : Reads w B 2 A xs.length (cellsF xs) := by
 refine ⟨by rw [cellsF_length], fun hn => ?_⟩
 obtain ⟨u0, hu0⟩ := get_of_lt rfl hn
 obtain ⟨b, off, hA, hb, _⟩ := h 0 u0 hu0
 refine ⟨_, hA, hb, fun j v hv => ?_⟩
 have hjl : j < xs.length*2 := by have := (List.getElem?_eq_some_iff.1 hv).1; rwa [cellsF_length] at this
 obtain ⟨u, hu⟩ := get_of_lt (k := j / 2) (l := xs) rfl (by omega)
 obtain ⟨b', off', hA', _, hc⟩ := h _ u hu
 rw [hA] at hA'; cases hA'
 have hm : j % 2 < (valG u).length := by simp [valG]; omega
 have hg := cellsF_get hu (List.getElem?_eq_getElem hm)
 rw [show j / 2*2 + j % 2 = j by omega] at hg
 rw [hv] at hg
 have := hc (j % 2) v (by rw [List.getElem?_eq_getElem hm]; exact hg.symm)
 rw [Addr.add_lit]
 rwa [show j / 2*2 + j % 2 = j by omega] at this
theorem on_yes (x : Int) (w : World) (h1 : -64 ≤ x) (h2 : x < 64) : Calls Tryz.prog 165 #[.int .i64 x] w fun e w' => e = .returned (.bool true) ∧ w' = w := by
 have e1 : decide (x ≥ -64) = true := decide_eq_true h1
 have e2 : decide (x < 64) = true := decide_eq_true h2
 go_enter Tryz.func165, Tryz.ntmps165
 go_wp2_with fail
 go_ret
 exact ⟨by first | rfl | (congr 2; simp; omega) | simp_all, rfl⟩
universe u
theorem St.f1 {W w : World} {x0 a : Own} {l : List Own} (h : St W (x0 :: a :: l) w) : St W (a :: x0 :: l) w := St.perm h (List.perm_middle (l₁ := [x0]))
theorem St.f2 {W w : World} {x0 x1 a : Own} {l : List Own} (h : St W (x0 :: x1 :: a :: l) w) : St W (a :: x0 :: x1 :: l) w := St.perm h (List.perm_middle (l₁ := [x0, x1]))
theorem St.f3 {W w : World} {x0 x1 x2 a : Own} {l : List Own} (h : St W (x0 :: x1 :: x2 :: a :: l) w) : St W (a :: x0 :: x1 :: x2 :: l) w := St.perm h (List.perm_middle (l₁ := [x0, x1, x2]))
theorem St.f4 {W w : World} {x0 x1 x2 x3 a : Own} {l : List Own} (h : St W (x0 :: x1 :: x2 :: x3 :: a :: l) w) : St W (a :: x0 :: x1 :: x2 :: x3 :: l) w := St.perm h (List.perm_middle (l₁ := [x0, x1, x2, x3]))
theorem St.f5 {W w : World} {x0 x1 x2 x3 x4 a : Own} {l : List Own} (h : St W (x0 :: x1 :: x2 :: x3 :: x4 :: a :: l) w) : St W (a :: x0 :: x1 :: x2 :: x3 :: x4 :: l) w := St.perm h (List.perm_middle (l₁ := [x0, x1, x2, x3, x4]))
theorem cmpQ_gt (x y : Rat) : cmpQ x y > 0 ↔ y < x := by unfold cmpQ; grind
variable {W : World} {l : List Own}
def QW (x y z u : RT) : Array Value := #[.bool x.s, .string x.a, .string x.d, .bool y.s, .string y.a, .string y.d, .bool z.s, .string z.a, .string z.d, .bool u.s, .string u.a, .string u.d]
theorem floorw_pos {k : Nat} {x : Rat} {g1 : Bool} {t1 : RT} (w : World) (hT : Tab w) (hr : RawT k x g1 t1) (hs : 0 ≤ flQ x) (hb : (flQ x).natAbs ≤ 9223372036854775807) (hk : k ≤ 4398046511104) :
  Calls Tryz.prog 164 #[.agg t1.c] w fun e w' => e = .returned (.tuple #[.int .i64 (flQ x), .int .i64 0]) ∧ Below w.heap.size w w' := by
 have HX := yh (And.intro hr.rz (And.intro hb hT)); have HR := yh hr; clear hr hb hT
 have hd : decide (Rat.num ((flQ x : Int) : Rat) < 0) = false := decide_eq_false (show ¬ flQ x < 0 by omega)
 have HS0 := yh hs; clear hs
 have HN := yh (show (Rat.num ((flQ x : Int) : Rat)).natAbs ≤ 9223372036854775807 from HX.out.2.1)
 have hv : ((flQ x).natAbs : Int) = flQ x := by have := HS0.out; show ((flQ x).natAbs : Int) = _; omega
 go_enter Tryz.func164, Tryz.ntmps164
 have HS : St w [] w := St.start
 go_upto_region 0 with fail
 refine rgT [] HS ?_
 refine bX t1.c ?_
 intro b1 _ _ hb1_r
 refine nZ ?_
 iterate 2 refine pR ?_
 refine dn1 b1 fun _ HS1=>?_
 clear HS
 go_upto_region 1 with fail
 have HP1 : St w [(b1, 27, t1.c)] _ := St.perm HS1 (by first | exact List.Perm.refl _ | exact List.Perm.swap _ _ _ | (simp [List.perm_cons, List.Perm.swap, List.perm_middle]))
 refine wp_seq_text [0] (StR.move (StR.no HP1)) ?_
 refine gV ?_
 refine cX rfl rfl (fit_w (k := k) HX.out.2.2 HR.out (by omega)) ?_
 refine cX rfl rfl (whole_q (k := k) HX.out.2.2 HX.out.1 rfl (by omega)) ?_
 refine sV (RC_one _) ?_
 refine dn1 b1 fun _ HS2=>?_
 clear HS1 HP1
 go_upto_region 2 with fail
 refine rgT [] HS2 ?_
 refine pR ?_
 refine lC (.string (S (Rat.num ((flQ x : Int) : Rat)).natAbs)) ?_
 refine cL (int_s _ HN.out) ?_
 iterate 5 refine pR ?_
 refine dnS fun _ HS3=>?_
 clear HS2
 go_upto_region 3 with fail
 refine rgT [] HS3 ?_
 refine pR ?_
 refine Seq.loadCell rfl rfl rfl rfl (by repeat first|exact mC|apply mT) (v := .bool false) (by rw [← hd]; rfl) (by kernel_rfl) rfl (nZ ?_)
 refine dnS fun _ HS4=>?_
 clear HS3
 go_upto_region 5 with fail
 refine rgT [] HS4 ?_
 iterate 4 refine pR ?_
 refine dnS fun _ HS5=>?_
 clear HS4
 go_wp2_with fail
 go_ret2
 exact ⟨by first | rfl | rw [hv], HS5.below⟩
theorem floorw_neg {k : Nat} {x : Rat} {g1 : Bool} {t1 : RT} (w : World) (hT : Tab w) (hr : RawT k x g1 t1) (hs : flQ x < 0) (hb : (flQ x).natAbs ≤ 9223372036854775807) (hk : k ≤ 4398046511104) :
  Calls Tryz.prog 164 #[.agg t1.c] w fun e w' => e = .returned (.tuple #[.int .i64 (flQ x), .int .i64 0]) ∧ Below w.heap.size w w' := by
 have HX := yh (And.intro hr.rz (And.intro hb hT)); have HR := yh hr; clear hr hb hT
 have hd : decide (Rat.num ((flQ x : Int) : Rat) < 0) = true := decide_eq_true (show flQ x < 0 from hs)
 have HS0 := yh hs; clear hs
 have HN := yh (show (Rat.num ((flQ x : Int) : Rat)).natAbs ≤ 9223372036854775807 from HX.out.2.1)
 have hv : IntKind.i64.wrap (-((flQ x).natAbs : Int)) = flQ x := by have := HS0.out; show IntKind.i64.wrap (-((flQ x).natAbs : Int)) = _; rw [IntWalk.i64_in _ (by have := HX.out.2.1; omega)]; omega
 go_enter Tryz.func164, Tryz.ntmps164
 have HS : St w [] w := St.start
 go_upto_region 0 with fail
 refine rgT [] HS ?_
 refine bX t1.c ?_
 intro b1 _ _ hb1_r
 refine nZ ?_
 iterate 2 refine pR ?_
 refine dn1 b1 fun _ HS1=>?_
 clear HS
 go_upto_region 1 with fail
 have HP1 : St w [(b1, 27, t1.c)] _ := St.perm HS1 (by first | exact List.Perm.refl _ | exact List.Perm.swap _ _ _ | (simp [List.perm_cons, List.Perm.swap, List.perm_middle]))
 refine wp_seq_text [0] (StR.move (StR.no HP1)) ?_
 refine gV ?_
 refine cX rfl rfl (fit_w (k := k) HX.out.2.2 HR.out (by omega)) ?_
 refine cX rfl rfl (whole_q (k := k) HX.out.2.2 HX.out.1 rfl (by omega)) ?_
 refine sV (RC_one _) ?_
 refine dn1 b1 fun _ HS2=>?_
 clear HS1 HP1
 go_upto_region 2 with fail
 refine rgT [] HS2 ?_
 refine pR ?_
 refine lC (.string (S (Rat.num ((flQ x : Int) : Rat)).natAbs)) ?_
 refine cL (int_s _ HN.out) ?_
 iterate 5 refine pR ?_
 refine dnS fun _ HS3=>?_
 clear HS2
 go_upto_region 3 with fail
 refine rgT [] HS3 ?_
 refine pR ?_
 refine Seq.loadCell rfl rfl rfl rfl (by repeat first|exact mC|apply mT) (v := .bool true) (by rw [← hd]; rfl) (by kernel_rfl) rfl (nZ ?_)
 refine dnS fun _ HS4=>?_
 clear HS3
 go_upto_region 4 with fail
 refine rgT [] HS4 ?_
 iterate 3 refine pR ?_
 refine dnS fun _ HS5=>?_
 clear HS4
 go_upto_region 5 with fail
 refine rgT [] HS5 ?_
 iterate 4 refine pR ?_
 refine dnS fun _ HS6=>?_
 clear HS5
 go_wp2_with fail
 go_ret2
 exact ⟨by first | rfl | rw [hv], HS6.below⟩
theorem floor_w {k : Nat} {x : Rat} {g1 : Bool} {t1 : RT} {z : Int} (hT : Tab W) (hr : RawT k x g1 t1) (hz : flQ x = z) (hb : z.natAbs ≤ 9223372036854775807) (hk : k ≤ 4398046511104) (w : World) (h : St W l w) : Rt 164 #[.agg t1.c] w (.tuple #[.int .i64 z, .int .i64 0]) := by
 subst hz
 by_cases h0 : flQ x < 0
 ·exact floorw_neg w (tabS hT h) hr h0 hb hk
 ·exact floorw_pos w (tabS hT h) hr (by omega) hb hk
theorem on_q {x : Int} (h1 : -64 ≤ x) (h2 : x < 64) (w : World) (h : St W l w) : Calls Tryz.prog 165 #[.int .i64 x] w fun e w' => e = .returned (.bool true) ∧ Below w.heap.size w w' := by
 refine (on_yes x w h1 h2).mono ?_
 rintro e w' ⟨rfl, rfl⟩
 exact ⟨rfl, Below.refl _ _⟩
theorem neg_w1 {n : Int} (h : -64 ≤ -n - 1) (h2 : -n - 1 < 64) : IntKind.i64.wrap (-n) = -n := IntWalk.i64_in _ (by omega)
theorem neg_w2 {n f : Int} (h : -64 ≤ f) (h2 : f < 64) (e : f = -n - 1) : IntKind.i64.wrap (-n - 1) = f := by rw [← e]; exact IntWalk.i64_in _ (by omega)
theorem sides_w {k : Nat} {x : Rat} {x_g : Bool} {x_t : RT} {y : Rat} {y_g : Bool} {y_t : RT} {n0 f0 l0 : Int} (hT : Tab W) (Zx : RawT k x x_g x_t) (Zy : RawT k y y_g y_t) (hn : flQ (-x) = n0) (hl : flQ y = l0) (hf : f0 = -n0 - 1) (hf1 : -64 ≤ f0) (hf2 : f0 < 64) (hg1 : -64 ≤ l0) (hg2 : l0 < 64) (hk0 : 2 ≤ k) (hk : k ≤ 1099511627776) (w : World) (h : St W l w) : Rt 136 #[.agg x_t.c, .agg y_t.c] w (.tuple #[.int .i64 f0, .int .i64 l0, .bool true]) := by
 have HT := yh (tabS hT h); clear hT h
 have Z_x := yh Zx; clear Zx
 have Z_y := yh Zy; clear Zy
 have hn0 := yh hn
 have hl0 := yh hl
 have hn1 : Hid (n0.natAbs ≤ 9223372036854775807) := yh (by omega)
 have hl1 : Hid (l0.natAbs ≤ 9223372036854775807) := yh (by omega)
 have hw1 := yh (neg_w1 (n := n0) (by omega) (by omega))
 have hw2 := yh (neg_w2 (n := n0) hf1 hf2 hf)
 clear hn hl hf
 go_enter Tryz.func136, Tryz.ntmps136
 have HS : St w [] w := St.start
 go_upto_region 0 with fail
 refine rgT [] HS ?_
 refine bX (RT.c x_t) ?_
 intro bk2 _ _ e2
 refine nZ ?_
 refine bX (RT.c y_t) ?_
 intro bk3 _ _ e3
 obtain ⟨_, _, e3⟩ := Reg.ne2 e3
 refine nZ ?_
 iterate 3 refine pU ?_
 refine dn2 bk2 bk3 fun _ HS1=>?_
 clear HS
 go_upto_region 1 with fail
 refine rgT [] HS1 ?_
 refine lV ?_
 refine cX rfl rfl (floor_w (k := k) HT.out Z_y.out hl0.out hl1.out (by omega)) ?_
 refine pU ?_
 refine pV (.int .i64 l0) (fun w => rfl) ?_
 refine pV (.int .i64 0) (fun w => rfl) ?_
 iterate 2 refine pU ?_
 refine dnS fun _ HS2=>?_
 clear HS1
 go_upto_region 2 with fail
 refine rgT [] HS2 ?_
 refine lV ?_
 refine cX rfl rfl (neg_w (k := (1 * k + 2)) HT.out (Z_x.out.more (by omega)) rfl (by omega)) ?_
 refine cX rfl rfl (floor_q (k := k) HT.out Z_x.out.rz.neg hn0.out hn1.out (by omega)) ?_
 refine pU ?_
 refine pV (.int .i64 n0) (fun w => rfl) ?_
 refine pV (.int .i64 0) (fun w => rfl) ?_
 iterate 2 refine pU ?_
 refine dnS fun _ HS3=>?_
 clear HS2
 go_upto_region 3 with fail
 refine rgT [] HS3 ?_
 refine pU ?_
 refine pV (.int .i64 (-n0)) (by intro w; go_simp <;> (first | (rw [hw1.out]; done) | exact hw1.out | (simp [hw1.out]; done))) ?_
 refine pV (.int .i64 f0) (by intro w; go_simp <;> (first | (rw [hw2.out]; done) | exact hw2.out | (simp [hw2.out]; done))) ?_
 refine pU ?_
 refine dnS fun _ HS4=>?_
 clear HS3
 go_upto_region 4 with fail
 refine rgT [] HS4 ?_
 iterate 10 refine pU ?_
 refine cL (on_q hf1 hf2) ?_
 iterate 3 refine pU ?_
 refine cL (on_q hg1 hg2) ?_
 iterate 4 refine pU ?_
 refine dnS fun _ HS5=>?_
 clear HS4
 go_wp2_with fail
 go_ret3
 exact ⟨rfl, HS5.below⟩
def rowsL (x0 y0 : Int) (nX j : Nat) : List Ft := (List.range j).flatMap fun (q : Nat) => (List.range nX).map fun (i : Nat) => ⟨x0 + i, y0 + q⟩
theorem rowsL_succ (x0 y0 : Int) (nX j : Nat) : rowsL x0 y0 nX (j + 1) = rowsL x0 y0 nX j ++ (List.range nX).map fun (i : Nat) => ⟨x0 + i, y0 + j⟩ := by
 unfold rowsL
 rw [List.range_succ, List.flatMap_append]
 simp
theorem rowsL_len (x0 y0 : Int) (nX j : Nat) : (rowsL x0 y0 nX j).length = j * nX := by
 induction j with
 | zero => simp [rowsL]
 | succ j ih => rw [rowsL_succ, List.length_append, ih]; simp [Nat.succ_mul]
theorem rows_part {x0 y0 : Int} {nX j i : Nat} : rowsL x0 y0 nX j ++ ((List.range (i + 1)).map fun (i : Nat) => (⟨x0 + i, y0 + j⟩ : Ft)) = (rowsL x0 y0 nX j ++ (List.range i).map fun (i : Nat) => (⟨x0 + i, y0 + j⟩ : Ft)) ++ [⟨x0 + i, y0 + j⟩] := by
 rw [List.range_succ, List.map_append, List.append_assoc]; rfl
theorem rows_0 {w wr : World} {v : Value} {x0 y0 : Int} {nX j : Nat} (h : FRow w v (rowsL x0 y0 nX j) wr) : FRow w v (rowsL x0 y0 nX j ++ ((List.range 0).map fun (i : Nat) => (⟨x0 + i, y0 + j⟩ : Ft))) wr := by simpa using h
theorem rows_1 {w wr : World} {v : Value} {x0 y0 : Int} {nX j : Nat} (h : FRow w v (rowsL x0 y0 nX j ++ ((List.range nX).map fun (i : Nat) => (⟨x0 + i, y0 + j⟩ : Ft))) wr) : FRow w v (rowsL x0 y0 nX (j + 1)) wr := by rw [rowsL_succ]; exact h
theorem rows_le {nX nY j i : Nat} (h : nX * nY ≤ 400) (hj : j < nY) (hi : i ≤ nX) : j * nX + i ≤ 400 := by
 have h1 : (j + 1) * nX ≤ nY * nX := Nat.mul_le_mul_right _ hj
 rw [Nat.succ_mul] at h1
 rw [Nat.mul_comm] at h
 omega
theorem of_w {k : Nat} {x y z u : Rat} {x_g y_g z_g u_g : Bool} {x_t y_t z_t u_t : RT} {n0 n1 x0 x1 y0 y1 : Int} {nX nY : Nat} (w : World) (hT : Tab w) (Zx : RawT k x x_g x_t) (Zy : RawT k y y_g y_t) (Zz : RawT k z z_g z_t) (Zu : RawT k u u_g u_t) (hxz : x ≤ z) (hyu : y ≤ u)
  (hn0 : flQ (-x) = n0) (hl0 : flQ z = x1) (he0 : x0 = -n0 - 1) (h01 : -64 ≤ x0) (h02 : x0 < 64) (h03 : -64 ≤ x1) (h04 : x1 < 64) (hn1 : flQ (-y) = n1) (hl1 : flQ u = y1) (he1 : y0 = -n1 - 1) (h11 : -64 ≤ y0) (h12 : y0 < 64) (h13 : -64 ≤ y1) (h14 : y1 < 64)
  (hX : (nX : Int) = x1 - x0 + 1) (hY : (nY : Int) = y1 - y0 + 1) (hm : nX * nY ≤ 400) (hk0 : 2 ≤ k) (hk : k ≤ 1099511627776) :
  Calls Tryz.prog 86 #[.agg (QW x_t y_t z_t u_t)] w fun e w' => ∃ v, e = .returned (.tuple #[v, .int .i64 0]) ∧ FRow w v (rowsL x0 y0 nX nY) w' := by
 have HT := yh hT; clear hT
 have Z_x := yh Zx; clear Zx
 have Z_y := yh Zy; clear Zy
 have Z_z := yh Zz; clear Zz
 have Z_u := yh Zu; clear Zu
 replace hn0 := yh hn0
 replace hn1 := yh hn1
 replace hl0 := yh hl0
 replace hl1 := yh hl1
 replace he0 := yh he0
 replace he1 := yh he1
 have hw1 : Hid (IntKind.i64.wrap (x1 - x0) = x1 - x0) := yh (IntWalk.i64_in _ (by omega))
 have hw2 : Hid (IntKind.i64.wrap (x1 - x0 + 1) = (nX : Int)) := yh (by rw [hX]; exact IntWalk.i64_in _ (by omega))
 have hw3 : Hid (IntKind.i64.wrap (y1 - y0) = y1 - y0) := yh (IntWalk.i64_in _ (by omega))
 have hw4 : Hid (IntKind.i64.wrap (y1 - y0 + 1) = (nY : Int)) := yh (by rw [hY]; exact IntWalk.i64_in _ (by omega))
 have hm' : (nX : Int) * (nY : Int) ≤ 400 := by exact_mod_cast hm
 have hm0 : (0 : Int) ≤ (nX : Int) * (nY : Int) := by exact_mod_cast Nat.zero_le _
 have hw5 : Hid (IntKind.i64.wrap ((nX : Int) * (nY : Int)) = (nX : Int) * (nY : Int)) := yh (IntWalk.i64_in _ (by omega))
 have hw6 : Hid ((nX : Int) * (nY : Int) ≤ 400) := yh hm'
 have hM := yh hm
 have hXX := yh hX
 have hYY := yh hY
 have hb1 : nX ≤ 200 := by omega
 have hb2 : nY ≤ 200 := by omega
 clear hX hY hm hm' hm0
 go_enter Tryz.func86, Tryz.ntmps86
 have HS : St w [] w := St.start
 go_upto_region 0 with fail
 refine rgT [] HS ?_
 refine bX (QW x_t y_t z_t u_t) ?_
 intro bk1 _ _ e1
 refine nZ ?_
 iterate 2 refine pU ?_
 refine dn1 bk1 fun _ HS1=>?_
 clear HS
 obtain ⟨v1, hv1, r1, r1'⟩ : ∃ v, cmpQ x z = v ∧ decide (v > 0) = false ∧ decide (0 < v) = false := ⟨_, rfl, decide_eq_false (fun h => absurd ((cmpQ_gt _ _).1 h) (by grind)), decide_eq_false (fun h => absurd ((cmpQ_gt _ _).1 h) (by grind))⟩
 have C1 := yh hv1; clear hv1
 obtain ⟨v2, hv2, r2, r2'⟩ : ∃ v, cmpQ y u = v ∧ decide (v > 0) = false ∧ decide (0 < v) = false := ⟨_, rfl, decide_eq_false (fun h => absurd ((cmpQ_gt _ _).1 h) (by grind)), decide_eq_false (fun h => absurd ((cmpQ_gt _ _).1 h) (by grind))⟩
 have C2 := yh hv2; clear hv2
 clear hxz hyu
 go_upto_region 1 with fail
 refine rgT [] HS1 ?_
 iterate 2 refine pU ?_
 refine lA (RT.c x_t) ?_
 iterate 2 refine pU ?_
 refine lA (RT.c z_t) ?_
 refine cX rfl rfl (cmp_w (k := (1 * k + 2)) HT.out (Z_x.out.more (by omega)) (Z_z.out.more (by omega)) C1.out (by omega)) ?_
 iterate 4 refine pU ?_
 refine lA (RT.c y_t) ?_
 iterate 2 refine pU ?_
 refine lA (RT.c u_t) ?_
 refine cX rfl rfl (cmp_w (k := (1 * k + 2)) HT.out (Z_y.out.more (by omega)) (Z_u.out.more (by omega)) C2.out (by omega)) ?_
 iterate 2 refine pU ?_
 refine dnS fun _ HS2=>?_
 clear HS1
 go_upto_region 3 with fail
 refine rgT [] HS2 ?_
 iterate 2 refine pU ?_
 refine lA (RT.c x_t) ?_
 iterate 2 refine pU ?_
 refine lA (RT.c z_t) ?_
 refine cX rfl rfl (sides_w (k := k) HT.out Z_x.out Z_z.out hn0.out hl0.out he0.out h01 h02 h03 h04 (by omega) (by omega)) ?_
 refine pU ?_
 refine pV (.int .i64 x0) (fun w => rfl) ?_
 refine pV (.int .i64 x1) (fun w => rfl) ?_
 refine pV (.bool true) (fun w => rfl) ?_
 iterate 3 refine pU ?_
 refine dnS fun _ HS3=>?_
 clear HS2
 go_upto_region 4 with fail
 refine rgT [] HS3 ?_
 iterate 2 refine pU ?_
 refine lA (RT.c y_t) ?_
 iterate 2 refine pU ?_
 refine lA (RT.c u_t) ?_
 refine cX rfl rfl (sides_w (k := k) HT.out Z_y.out Z_u.out hn1.out hl1.out he1.out h11 h12 h13 h14 (by omega) (by omega)) ?_
 refine pU ?_
 refine pV (.int .i64 y0) (fun w => rfl) ?_
 refine pV (.int .i64 y1) (fun w => rfl) ?_
 refine pV (.bool true) (fun w => rfl) ?_
 iterate 3 refine pU ?_
 refine dnS fun _ HS4=>?_
 clear HS3
 go_upto_region 5 with fail
 refine rgT [] HS4 ?_
 iterate 6 refine pU ?_
 refine dnS fun _ HS5=>?_
 clear HS4
 go_upto_region 7 with fail
 refine rgT [] HS5 ?_
 iterate 2 refine pU ?_
 refine pV (.int .i64 (x1 - x0)) (by intro w; go_simp <;> (first | (rw [hw1.out]; done) | exact hw1.out | (simp [hw1.out]; done))) ?_
 refine pV (.int .i64 (nX : Int)) (by intro w; go_simp <;> (first | (rw [hw2.out]; done) | exact hw2.out | (simp [hw2.out]; done))) ?_
 iterate 2 refine pU ?_
 refine pV (.int .i64 (y1 - y0)) (by intro w; go_simp <;> (first | (rw [hw3.out]; done) | exact hw3.out | (simp [hw3.out]; done))) ?_
 refine pV (.int .i64 (nY : Int)) (by intro w; go_simp <;> (first | (rw [hw4.out]; done) | exact hw4.out | (simp [hw4.out]; done))) ?_
 refine pV (.int .i64 ((nX : Int) * (nY : Int))) (by intro w; go_simp <;> (first | (rw [hw5.out]; done) | exact hw5.out | (simp [hw5.out]; done))) ?_
 refine pV (.bool false) (by intro w; go_simp <;> (first | (rw [hw6.out]; done) | exact hw6.out | (simp [hw6.out]; done))) ?_
 refine dnS fun _ HS6=>?_
 clear HS5
 have HB := yh HS6.below
 clear HS6 Z_x Z_y Z_z Z_u hn0 hn1 hl0 hl1 he0 he1 hw1 hw2 hw3 hw4 hw5 hw6 HT
 go_wp2_with fail
 go_loopg [10, 11] nY (fun kx ov s11 wr => ∃ j : Nat, kx = nY - j ∧ j ≤ nY ∧ s11 = .int .i64 (y0 + (j : Int)) ∧ Hid (FRow w ov (rowsL x0 y0 nX j) wr))
 case atStart => exact ⟨0, by omega, Nat.zero_le _, by go_num, FRow.nil HB.out⟩
 case round =>
  obtain ⟨j, hgk, hj, rfl, HR⟩ := hrel
  have HGK := yh hgk; clear hgk
  have HYY := hYY.out
  by_cases hlt : j < nY
  ·have hc : y0 + (j : Int) ≤ y1 := by omega
   have HLT := yh hlt
   clear HYY
   have hwy : IntKind.i64.wrap (y0 + (j : Int) + 1) = y0 + (j : Int) + 1 := IntWalk.i64_in _ (by omega)
   go_wp2_with fail
   have HR0 := yh (rows_0 HR.out)
   clear HR
   go_loopg [10, 12] nX (fun kx oi s12 wi => ∃ i : Nat, kx = nX - i ∧ i ≤ nX ∧ s12 = .int .i64 (x0 + (i : Int)) ∧ Hid (FRow w oi (rowsL x0 y0 nX j ++ ((List.range i).map fun (i : Nat) => (⟨x0 + i, y0 + j⟩ : Ft))) wi))
   case atStart => exact ⟨0, by omega, Nat.zero_le _, by go_num, HR0⟩
   case round =>
    clear HR0
    obtain ⟨i, hgk2, hi, rfl, HR⟩ := hrel
    have HGK2 := yh hgk2; clear hgk2
    have HXX := hXX.out
    by_cases hlt2 : i < nX
    ·have hc2 : x0 + (i : Int) ≤ x1 := by omega
     have hwx : IntKind.i64.wrap (x0 + (i : Int) + 1) = x0 + (i : Int) + 1 := IntWalk.i64_in _ (by omega)
     have HN : Hid ((rowsL x0 y0 nX j ++ ((List.range i).map fun (i : Nat) => (⟨x0 + i, y0 + j⟩ : Ft))).length ≤ 400) := yh (by
      rw [List.length_append, rowsL_len]; simp only [List.length_map, List.length_range]; exact rows_le hM.out HLT.out hi)
     have HP := yh (rows_part (x0 := x0) (y0 := y0) (nX := nX) (j := j) (i := i))
     clear HXX
     obtain ⟨A5, c5, rfl, hl5, hm5, hI5⟩ := HR.out.facts
     clear hI5 hl5
     unfold maxLen at hm5
     generalize hxs : rowsL x0 y0 nX j ++ ((List.range i).map fun (i : Nat) => (⟨x0 + i, y0 + j⟩ : Ft)) = xs at *
     generalize hn5 : xs.length = n5 at *
     have HN5 := yh hn5; clear hn5 hxs
     have hn4 : n5 ≤ 400 := HN.out
     have hnm : n5 + 1 ≤ maxLen := by unfold maxLen; omega
     have hby : (n5 + 1) * 16 ≤ 140737488355328 := by omega
     go_wp2_with (
      at_builtin
      refine wpList_append_oneL rfl (.tmp 81) (.tmp 85) _ rfl Tryz.underlying117 infoFt rfl rfl (HR.out.row HN5.out) rfl rfl rfl (one_ft ⟨_, _⟩) hnm hby ?_
      intro v' w3 hR3 hb3)
     have HR3 := yh (FRow.add (x := ⟨x0 + (i : Int), y0 + (j : Int)⟩) HN5.out hR3)
     clear hR3 hb3
     go_roundg (nX - (i + 1))
     case measure => rw [HGK2.out]; omega
     case rel => exact ⟨i + 1, rfl, hlt2, by go_num, by rw [HP.out]; exact HR3⟩
    ·have hc2 : ¬ x0 + (i : Int) ≤ x1 := by omega
     have hc3 : decide (x0 + (i : Int) ≤ x1) = false := decide_eq_false hc2
     obtain rfl : i = nX := by omega
     have HR3 := yh (rows_1 HR.out)
     clear HR HXX hc2
     go_wp2_with fail
     go_roundg (nY - (j + 1))
     case measure => rw [HGK.out]; have := HLT.out; omega
     case rel => exact ⟨j + 1, rfl, HLT.out, by go_num, HR3⟩
  ·have hc : ¬ y0 + (j : Int) ≤ y1 := by omega
   have hc3 : decide (y0 + (j : Int) ≤ y1) = false := decide_eq_false hc
   obtain rfl : j = nY := by omega
   clear HYY hc
   go_wp2_with fail
   go_ret2
   exact ⟨_, rfl, HR.out⟩
end Go.Proofs.YtmchjmflkaiakaaGreatDoor
