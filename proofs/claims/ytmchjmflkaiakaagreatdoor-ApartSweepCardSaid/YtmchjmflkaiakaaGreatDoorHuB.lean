/- Joined texts: HuA HuL HuB. -/
import Derived.Test.YtmchjmflkaiakaaGreatDoorPo1
set_option maxHeartbeats 2000000
set_option maxRecDepth 20000
namespace Go.Proofs.YtmchjmflkaiakaaGreatDoor
open Go.RowKit
set_option linter.unusedVariables false
set_option linter.unusedSimpArgs false
abbrev P2 := Rat × Rat
def PX (J : List Value) (ps : Pts) : Array Value := ((PC ps).toList ++ J).toArray
def pv (p : P2) : List Value := (VC p.1 p.2).toList
def fl (ps : Pts) : List Value := ps.flatMap pv
theorem PX_list (J : List Value) (ps : Pts) : (PX J ps).toList = fl ps ++ J := rfl
theorem PX_nil (ps : Pts) : PX [] ps = PC ps := by
 apply Array.toList_inj.1
 rw [PX_list, List.append_nil]; rfl
theorem pv_len (p : P2) : (pv p).length = 6 := rfl
theorem fl_len (ps : Pts) : (fl ps).length = 6 * ps.length := by
 induction ps with
 | nil => rfl
 | cons p ps ih => rw [fl, List.flatMap_cons, List.length_append]; unfold fl at ih; rw [ih, pv_len, List.length_cons]; omega
theorem PX_size (J : List Value) (ps : Pts) : (PX J ps).size = 6 * ps.length + J.length := by
 show (PX J ps).toList.length = _
 rw [PX_list, List.length_append, fl_len]
theorem fl_take (ps : Pts) (i : Nat) : (fl ps).take (6 * i) = fl (ps.take i) := by
 induction i generalizing ps with
 | zero => simp [fl]
 | succ i ih =>
   cases ps with
   | nil => simp [fl]
   | cons p ps =>
     have := ih ps
     unfold fl at this ⊢
     rw [List.flatMap_cons, show 6 * (i + 1) = (pv p).length + 6 * i by rw [pv_len]; omega, List.take_append, List.take_succ_cons, List.flatMap_cons, ← this, List.take_of_length_le (by omega), Nat.add_sub_cancel_left]
theorem fl_drop (ps : Pts) (i : Nat) : (fl ps).drop (6 * i) = fl (ps.drop i) := by
 induction i generalizing ps with
 | zero => rfl
 | succ i ih =>
   cases ps with
   | nil => simp [fl]
   | cons p ps =>
     have := ih ps
     unfold fl at this ⊢
     rw [List.flatMap_cons, show 6 * (i + 1) = (pv p).length + 6 * i by rw [pv_len]; omega, List.drop_append, Nat.add_sub_cancel_left, List.drop_of_length_le (by omega), List.nil_append, this, List.drop_succ_cons]
theorem fl_app (a b : Pts) : fl (a ++ b) = fl a ++ fl b := by simp [fl]
theorem PX_room {J : List Value} {ps : Pts} {i : Nat} (h : i < ps.length) : 6 * i + 6 ≤ (PX J ps).size := by rw [PX_size]; omega
theorem PX_at {J : List Value} {ps : Pts} {i : Nat} (h : i < ps.length) : (PX J ps).extract (6 * i) (6 * i + 6) = VC (px ps i) (py ps i) := by
 apply Array.toList_inj.1
 rw [Array.toList_extract, List.extract_eq_take_drop, PX_list, List.drop_append, fl_drop, List.drop_eq_getElem_cons h, fl, List.flatMap_cons, show 6 * i + 6 - 6 * i = (pv ps[i]).length by rw [pv_len]; omega, List.append_assoc, List.take_left, getD_pt h]
 rfl
theorem PX_put {J : List Value} {ps : Pts} {i : Nat} {x y : Rat} (h : i < ps.length) : ((PX J ps).toList.take (6 * i) ++ (Value.agg (VC x y)).cells.toList ++ (PX J ps).toList.drop (6 * i + (Value.agg (VC x y)).cells.size)).toArray = PX J (ps.set i (x, y)) := by
 have hs : (Value.agg (VC x y)).cells.size = 6 := rfl
 have hc : (Value.agg (VC x y)).cells.toList = pv (x, y) := rfl
 rw [hs, hc, show 6 * i + 6 = 6 * (i + 1) by omega]
 apply Array.toList_inj.1
 show List.take (6 * i) (PX J ps).toList ++ pv (x, y) ++ List.drop (6 * (i + 1)) (PX J ps).toList = (PX J (ps.set i (x, y))).toList
 rw [PX_list, PX_list, List.take_append_of_le_length (by rw [fl_len]; omega), List.drop_append_of_le_length (by rw [fl_len]; omega), fl_take, fl_drop, List.set_eq_take_append_cons_drop, if_pos h, fl_app]
 have e : fl ((x, y) :: ps.drop (i + 1)) = pv (x, y) ++ fl (ps.drop (i + 1)) := by unfold fl; rw [List.flatMap_cons]
 rw [e]
 simp only [List.append_assoc]
theorem set_length (ps : Pts) (i : Nat) (v : P2) : (ps.set i v).length = ps.length := List.length_set
theorem px_set {ps : Pts} {i j : Nat} {v : P2} (h : i < ps.length) : px (ps.set i v) j = if i = j then v.1 else px ps j := by
 unfold px
 rw [List.getD_eq_getElem?_getD, List.getElem?_set]
 by_cases e : i = j
 ·subst e; simp [h]
 ·simp [e]
theorem py_set {ps : Pts} {i j : Nat} {v : P2} (h : i < ps.length) : py (ps.set i v) j = if i = j then v.2 else py ps j := by
 unfold py
 rw [List.getD_eq_getElem?_getD, List.getElem?_set]
 by_cases e : i = j
 ·subst e; simp [h]
 ·simp [e]
theorem Pz.set {k : Nat} {ps : Pts} {i : Nat} {v : P2} (h : Pz k ps) (hv : Rz k v.1 ∧ Rz k v.2) : Pz k (ps.set i v) := by
 intro p hp
 rcases List.mem_or_eq_of_mem_set hp with h1 | h1
 ·exact h p h1
 ·rw [h1]; exact hv
def lft (a b c : P2) : Rat := (b.1 - a.1) * (c.2 - a.2) - (b.2 - a.2) * (c.1 - a.1)
def lxl (a b : P2) : Prop := a.1 < b.1 ∨ (a.1 = b.1 ∧ a.2 < b.2)
theorem ltge (a b : Rat) : a < b ∨ b ≤ a := by grind
theorem lxl_irrefl (a : P2) : ¬ lxl a a := by unfold lxl; grind
theorem lxl_trans {a b c : P2} (h1 : lxl a b) (h2 : lxl b c) : lxl a c := by unfold lxl at *; grind
theorem lxl_total (a b : P2) : lxl a b ∨ a = b ∨ lxl b a := by
 obtain ⟨a1, a2⟩ := a; obtain ⟨b1, b2⟩ := b
 unfold lxl
 simp only [Prod.mk.injEq]
 grind
theorem lxl_asymm {a b : P2} (h1 : lxl a b) : ¬ lxl b a := fun h2 => lxl_irrefl a (lxl_trans h1 h2)
def dps (u v : Rat) : Prop := 0 < u ∨ (u = 0 ∧ 0 < v)
theorem dps_nn {u v : Rat} (h : dps u v) : 0 ≤ u := by unfold dps at h; grind
theorem dps_of {a b : P2} (h : lxl a b) : dps (b.1 - a.1) (b.2 - a.2) := by unfold lxl at h; unfold dps; grind
theorem mul_nn {a b : Rat} (h1 : 0 ≤ a) (h2 : 0 ≤ b) : 0 ≤ a * b := Rat.mul_nonneg h1 h2
theorem mul_ps {a b : Rat} (h1 : 0 < a) (h2 : 0 < b) : 0 < a * b := Rat.mul_pos h1 h2
theorem nn_of_mul {a b : Rat} (h : 0 ≤ a * b) (ha : 0 < a) : 0 ≤ b := by
 rcases ltge b 0 with h1 | h1
 ·have h2 := mul_ps ha (show 0 < -b by grind)
  grind
 ·exact h1
theorem ps_of_mul {a b : Rat} (h : 0 < a * b) (ha : 0 < a) : 0 < b := by
 rcases ltge 0 b with h1 | h1
 ·exact h1
 ·have h2 := mul_nn (Rat.le_of_lt ha) (show 0 ≤ -b by grind)
  grind
theorem crs_trans {ax ay bx bY cx cy : Rat} (ha : dps ax ay) (hb : dps bx bY) (hc : dps cx cy) (h1 : 0 ≤ ax * bY - ay * bx) (h2 : 0 ≤ bx * cy - bY * cx) : 0 ≤ ax * cy - ay * cx := by
 have a0 := dps_nn ha; have c0 := dps_nn hc
 rcases hb with hb | ⟨hb, hb'⟩
 ·refine nn_of_mul (a := bx) ?_ hb
  have e1 := mul_nn a0 h2
  have e2 := mul_nn c0 h1
  grind
 ·subst hb
  have e0 : cx = 0 := by
   rcases ltge 0 cx with h | h
   ·have := mul_ps hb' h; grind
   ·grind
  subst e0
  have hcy : 0 < cy := by unfold dps at hc; grind
  have := mul_nn a0 (Rat.le_of_lt hcy)
  grind
theorem crs_transL {ax ay bx bY cx cy : Rat} (ha : dps ax ay) (hb : dps bx bY) (hc : dps cx cy) (h1 : 0 < ax * bY - ay * bx) (h2 : 0 ≤ bx * cy - bY * cx) : 0 < ax * cy - ay * cx := by
 have a0 := dps_nn ha
 rcases hb with hb | ⟨hb, hb'⟩
 ·refine ps_of_mul (a := bx) ?_ hb
  have e1 := mul_nn a0 h2
  rcases hc with hc | ⟨hc, hc'⟩
  ·have e2 := mul_ps hc h1
   grind
  ·subst hc
   have hax : 0 < ax := by
    rcases ha with ha | ⟨ha, ha'⟩
    ·exact ha
    ·subst ha
     have := mul_ps ha' hb
     grind
   have := mul_ps hb (mul_ps hax hc')
   grind
 ·subst hb
  have e0 : cx = 0 := by
   have c0 := dps_nn hc
   rcases ltge 0 cx with h | h
   ·have := mul_ps hb' h; grind
   ·grind
  subst e0
  have hcy : 0 < cy := by unfold dps at hc; grind
  have hax : 0 < ax := by
   rcases ltge 0 ax with h | h
   ·exact h
   ·have : ax = 0 := by grind
    subst this
    grind
  have := mul_ps hax hcy
  grind
theorem lft_self1 (a b : P2) : lft a b a = 0 := by unfold lft; grind
theorem lft_rot (a b c : P2) : lft a b c = (b.1 - a.1) * (c.2 - b.2) - (b.2 - a.2) * (c.1 - b.1) := by unfold lft; grind
theorem turn_trans {a b c d : P2} (h1 : lxl a b) (h2 : lxl b c) (h3 : lxl c d) (t1 : 0 < lft a b c) (t2 : 0 < lft b c d) : 0 < lft a b d := by
 rw [lft_rot] at t1 t2
 have h := crs_transL (dps_of h1) (dps_of h2) (dps_of h3) t1 (Rat.le_of_lt t2)
 rw [lft_rot]
 grind
theorem turn_back {a b c d : P2} (h0 : lxl d a) (h1 : lxl a b) (h2 : lxl b c) (t0 : 0 < lft d a b) (t1 : 0 < lft a b c) : 0 < lft b c d := by
 have e0 := t0; have e1 := t1
 rw [lft_rot] at e0 e1
 have h := crs_transL (dps_of h0) (dps_of h1) (dps_of h2) e0 (Rat.le_of_lt e1)
 unfold lft at *
 grind
theorem off_edge {s t c v d : P2} (h : lxl s t) (hc : lxl v c) (hd : lxl d v) (tn : 0 < lft c v d) (e1 : 0 ≤ lft s t c) (e2 : 0 ≤ lft s t d) (e3 : 0 ≤ lft s t v) : 0 < lft s t v := by
 rcases ltge 0 (lft s t v) with h0 | h0
 ·exact h0
 ·exfalso
  have e : lft s t v = 0 := by grind
  have f1 : 0 ≤ (t.1 - s.1) * (c.2 - v.2) - (t.2 - s.2) * (c.1 - v.1) := by unfold lft at *; grind
  have f2 : 0 ≤ (v.1 - d.1) * (t.2 - s.2) - (v.2 - d.2) * (t.1 - s.1) := by unfold lft at *; grind
  have g := crs_trans (dps_of hd) (dps_of h) (dps_of hc) f2 f1
  unfold lft at tn
  grind
def Dsc : List P2 → Prop
 | b :: a :: r => lxl a b ∧ Dsc (a :: r)
 | _ => True
def Trn : List P2 → Prop
 | c :: b :: a :: r => 0 < lft a b c ∧ Trn (b :: a :: r)
 | _ => True
def Edg (Q : List P2) : List P2 → Prop
 | b :: a :: r => (∀ q ∈ Q, 0 ≤ lft a b q) ∧ Edg Q (a :: r)
 | _ => True
def pops (p : P2) : List P2 → List P2
 | b :: a :: r => if lft a b p ≤ 0 then pops p (a :: r) else b :: a :: r
 | s => s
def chn (l : List P2) : List P2 := l.foldl (fun s p => p :: pops p s) []
theorem Dsc.tail {b : P2} {r : List P2} (h : Dsc (b :: r)) : Dsc r := by
 cases r with
 | nil => trivial
 | cons a r => exact h.2
theorem Trn.tail {b : P2} {r : List P2} (h : Trn (b :: r)) : Trn r := by
 match r, h with
 | [], _ => trivial
 | [_], _ => trivial
 | _ :: _ :: _, h => exact h.2
theorem Edg.tail {Q : List P2} {b : P2} {r : List P2} (h : Edg Q (b :: r)) : Edg Q r := by
 cases r with
 | nil => trivial
 | cons a r => exact h.2
theorem Edg.add {Q : List P2} {p : P2} : ∀ {s : List P2}, Edg Q s → Edg [p] s → Edg (p :: Q) s
 | [], _, _ => trivial
 | [_], _, _ => trivial
 | b :: a :: r, h, h' => ⟨fun q hq => (List.mem_cons.1 hq).elim (fun e => h'.1 q (by simp [e])) (h.1 q), Edg.add h.2 h'.2⟩
theorem dsc_lt {b : P2} : ∀ {r : List P2}, Dsc (b :: r) → ∀ q ∈ r, lxl q b
 | [], _, q, hq => by cases hq
 | a :: r, h, q, hq => by
   rcases List.mem_cons.1 hq with rfl | hq
   ·exact h.1
   ·exact lxl_trans (dsc_lt h.2 q hq) h.1
theorem edg_new {p : P2} : ∀ {b a : P2} {r : List P2}, Dsc (b :: a :: r) → Trn (b :: a :: r) → lxl b p → 0 < lft a b p → Edg [p] (b :: a :: r)
 | b, a, [], hd, ht, hp, h => ⟨fun q hq => by simp at hq; subst hq; exact Rat.le_of_lt h, trivial⟩
 | b, a, c :: r, hd, ht, hp, h => ⟨fun q hq => by simp at hq; subst hq; exact Rat.le_of_lt h, edg_new hd.2 ht.tail (lxl_trans hd.1 hp) (turn_trans hd.2.1 hd.1 hp ht.1 h)⟩
structure Low (Q s : List P2) : Prop where
 sub : ∀ q ∈ s, q ∈ Q
 dsc : Dsc s
 trn : Trn s
 edg : Edg Q s
 top : ∃ b r, s = b :: r ∧ ∀ q ∈ Q, q = b ∨ lxl q b
 low : ∃ m, s.getLast? = some m ∧ ∀ q ∈ Q, q = m ∨ lxl m q
structure Pop (Q : List P2) (p : P2) (s : List P2) : Prop where
 sub : ∀ q ∈ s, q ∈ Q
 dsc : Dsc s
 trn : Trn s
 edg : Edg Q s
 low : ∃ m, s.getLast? = some m ∧ ∀ q ∈ Q, q = m ∨ lxl m q
 top : ∃ b r, s = b :: r ∧ ∀ q ∈ Q, (q = b ∨ lxl b q) → 0 ≤ lft b p q
theorem pop_step {Q : List P2} {p b a : P2} {r : List P2} (hp : ∀ q ∈ Q, lxl q p) (h : Pop Q p (b :: a :: r)) (hl : lft a b p ≤ 0) : Pop Q p (a :: r) := by
 obtain ⟨h1, h2, h3, h4, h5, b', r', he, h6⟩ := h
 cases he
 refine ⟨fun q hq => h1 q (List.mem_cons_of_mem _ hq), h2.tail, h3.tail, h4.tail, by simpa using h5, a, r, rfl, fun q hq hqa => ?_⟩
 have hb : lxl b p := hp b (h1 b (by simp))
 have hab : lxl a b := h2.1
 have hap : lxl a p := lxl_trans hab hb
 have hq0 := h4.1 q hq
 rcases hqa with rfl | hqa
 ·unfold lft; grind
 ·rcases lxl_total q b with hqb | hqb | hqb
  ·-- between a and b: p - a, b - a, q - a
   have f1 : 0 ≤ (p.1 - a.1) * (b.2 - a.2) - (p.2 - a.2) * (b.1 - a.1) := by unfold lft at hl; grind
   have f2 : 0 ≤ (b.1 - a.1) * (q.2 - a.2) - (b.2 - a.2) * (q.1 - a.1) := hq0
   exact crs_trans (dps_of hap) (dps_of hab) (dps_of hqa) f1 f2
  ·subst hqb
   unfold lft at *; grind
  ·have h7 := h6 q hq (.inr hqb)
   unfold lft at *; grind
theorem pop_all {Q : List P2} {p : P2} (hp : ∀ q ∈ Q, lxl q p) : ∀ {s : List P2}, Pop Q p s → Pop Q p (pops p s) ∧ (∀ b a r, pops p s = b :: a :: r → 0 < lft a b p)
 | [], h => by obtain ⟨_, _, _, _, _, b, r, he, _⟩ := h; cases he
 | [b], h => ⟨h, fun _ _ _ e => by simp [pops] at e⟩
 | b :: a :: r, h => by
   unfold pops
   by_cases hl : lft a b p ≤ 0
   ·rw [if_pos hl]
    exact pop_all hp (pop_step hp h hl)
   ·rw [if_neg hl]
    refine ⟨h, fun b' a' r' e => ?_⟩
    cases e
    grind
theorem low_step {Q s : List P2} {p : P2} (hp : ∀ q ∈ Q, lxl q p) (h : Low Q s) : Low (p :: Q) (p :: pops p s) := by
 obtain ⟨h1, h2, h3, h4, ⟨b, r, rfl, h5⟩, h6⟩ := h
 have hP : Pop Q p (b :: r) := ⟨h1, h2, h3, h4, h6, b, r, rfl, fun q hq hqb => by
  rcases h5 q hq with rfl | h7
  ·unfold lft; grind
  ·rcases hqb with rfl | h8
   ·unfold lft; grind
   ·exact absurd h7 (lxl_asymm h8)⟩
 have hA := pop_all hp hP
 generalize pops p (b :: r) = s2 at *
 obtain ⟨⟨g1, g2, g3, g4, g5, b2, r2, he, g6⟩, g7⟩ := hA
 subst he
 have hb : lxl b2 p := hp b2 (g1 b2 (by simp))
 refine ⟨fun q hq => ?_, ⟨hb, g2⟩, ?_, ⟨fun q hq => ?_, ?_⟩, ⟨p, _, rfl, fun q hq => ?_⟩, ?_⟩
 ·rcases List.mem_cons.1 hq with rfl | hq
  ·simp
  ·exact List.mem_cons_of_mem _ (g1 q hq)
 ·match r2, g7, g3 with
  | [], _, _ => trivial
  | a :: r3, g7, g3 => exact ⟨g7 b2 a r3 rfl, g3⟩
 ·rcases List.mem_cons.1 hq with rfl | hq
  ·unfold lft; grind
  ·match r2, g7, g4, g2, g5 with
   | [], _, _, _, g5 =>
     obtain ⟨m, hm, hm2⟩ := g5
     simp at hm; subst hm
     exact g6 q hq ((hm2 q hq).imp id id)
   | a :: r3, g7, g4, g2, _ =>
     rcases lxl_total q b2 with hqb | hqb | hqb
     ·have t := g7 b2 a r3 rfl
      have e := g4.1 q hq
      have f1 : 0 ≤ (b2.1 - q.1) * (b2.2 - a.2) - (b2.2 - q.2) * (b2.1 - a.1) := by unfold lft at e; grind
      rw [lft_rot] at t
      have := crs_trans (dps_of hqb) (dps_of g2.1) (dps_of hb) f1 (Rat.le_of_lt t)
      unfold lft; grind
     ·exact g6 q hq (.inl hqb)
     ·exact g6 q hq (.inr hqb)
 ·refine Edg.add g4 ?_
  match r2, g7, g3, g2 with
  | [], _, _, _ => trivial
  | a :: r3, g7, g3, g2 => exact edg_new g2 g3 hb (g7 b2 a r3 rfl)
 ·rcases List.mem_cons.1 hq with rfl | hq
  ·exact .inl rfl
  ·exact .inr (hp q hq)
 ·obtain ⟨m, hm, hm2⟩ := g5
  refine ⟨m, by simpa using hm, fun q hq => ?_⟩
  rcases List.mem_cons.1 hq with rfl | hq
  ·have : m ∈ b2 :: r2 := List.mem_of_getLast? hm
   exact .inr (hp m (g1 m this))
  ·exact hm2 q hq
theorem low_one (p : P2) : Low [p] [p] := ⟨fun q hq => hq, trivial, trivial, trivial, ⟨p, [], rfl, fun q hq => by simp at hq; exact .inl hq⟩, ⟨p, rfl, fun q hq => by simp at hq; exact .inl hq⟩⟩
theorem low_fold : ∀ (l : List P2) {Q s : List P2}, Low Q s → (l.Pairwise lxl) → (∀ q ∈ Q, ∀ x ∈ l, lxl q x) → Low (l.reverse ++ Q) (l.foldl (fun s p => p :: pops p s) s)
 | [], Q, s, h, _, _ => h
 | p :: l, Q, s, h, hs, hq => by
   have hs' := List.pairwise_cons.1 hs
   have := low_fold l (low_step (fun q h1 => hq q h1 p (by simp)) h) hs'.2 (fun q h1 x hx => by
    rcases List.mem_cons.1 h1 with rfl | h1
    ·exact hs'.1 x hx
    ·exact hq q h1 x (by simp [hx]))
   rw [List.reverse_cons, List.append_assoc]
   exact this
theorem chn_low {p : P2} {l : List P2} (h : (p :: l).Pairwise lxl) : Low ((p :: l).reverse) (chn (p :: l)) := by
 have h' := List.pairwise_cons.1 h
 have := low_fold l (low_one p) h'.2 (fun q hq x hx => by simp at hq; subst hq; exact h'.1 x hx)
 rw [List.reverse_cons]
 exact this
theorem trn_app {s : List P2} : ∀ {l1 : List P2}, Trn (l1 ++ s) → Trn s
 | [], h => h
 | c :: l1, h => trn_app (l1 := l1) (Trn.tail h)
theorem dsc_app' {s : List P2} : ∀ {l1 : List P2}, Dsc (l1 ++ s) → Dsc s
 | [], h => h
 | c :: l1, h => dsc_app' (l1 := l1) (Dsc.tail h)
theorem edg_at {Q : List P2} {a b : P2} {l2 : List P2} : ∀ {l1 : List P2}, Edg Q (l1 ++ b :: a :: l2) → ∀ q ∈ Q, 0 ≤ lft a b q
 | [], h => h.1
 | c :: l1, h => edg_at (l1 := l1) (Edg.tail h)
theorem between {v : P2} : ∀ {s : List P2}, Dsc s → (∃ b r, s = b :: r ∧ lxl v b) → (∃ m, s.getLast? = some m ∧ (v = m ∨ lxl m v)) → v ∈ s ∨ ∃ l1 t x l2, s = l1 ++ t :: x :: l2 ∧ lxl x v ∧ lxl v t
 | [], _, ⟨_, _, e, _⟩, _ => by cases e
 | [b], _, ⟨_, _, e, hb⟩, ⟨m, hm, h⟩ => by
   cases e
   simp at hm; subst hm
   rcases h with rfl | h
   ·exact .inl (by simp)
   ·exact absurd hb (lxl_asymm h)
 | b :: a :: r, hd, ⟨_, _, e, hb⟩, ⟨m, hm, h⟩ => by
   cases e
   rcases lxl_total a v with h1 | h1 | h1
   ·exact .inr ⟨[], b, a, r, rfl, h1, hb⟩
   ·left; simp [h1]
   ·rcases between hd.2 ⟨a, r, rfl, h1⟩ ⟨m, by simpa using hm, h⟩ with h2 | ⟨l1, t, x, l2, e, h3, h4⟩
    ·exact .inl (List.mem_cons_of_mem _ h2)
    ·exact .inr ⟨b :: l1, t, x, l2, by rw [e]; rfl, h3, h4⟩
theorem inner {v : P2} : ∀ {s : List P2}, v ∈ s → (∀ r, s ≠ v :: r) → s.getLast? ≠ some v → ∃ l1 t x l2, s = l1 ++ t :: v :: x :: l2
 | [], h, _, _ => by cases h
 | [b], h, h1, _ => by simp at h; subst h; exact absurd rfl (h1 [])
 | b :: a :: r, h, h1, h2 => by
   rcases List.mem_cons.1 h with rfl | h
   ·exact absurd rfl (h1 _)
   ·by_cases e : a = v
    ·subst e
     cases r with
     | nil => simp at h2
     | cons x r => exact ⟨[], b, x, r, rfl⟩
    ·obtain ⟨l1, t, x, l2, e2⟩ := inner h (fun r' e2 => e (by cases e2; rfl)) (by simpa using h2)
     exact ⟨b :: l1, t, x, l2, by rw [e2]; rfl⟩
theorem Low.head_of {Q s : List P2} {v : P2} {r : List P2} (h : Low Q s) (e : s = v :: r) : ∀ q ∈ Q, q = v ∨ lxl q v := by
 obtain ⟨b, r', e', h1⟩ := h.top
 rw [e] at e'; cases e'
 exact h1
theorem Low.last_of {Q s : List P2} {v : P2} (h : Low Q s) (e : s.getLast? = some v) : ∀ q ∈ Q, q = v ∨ lxl v q := by
 obtain ⟨b, e', h1⟩ := h.low
 rw [e] at e'; cases e'
 exact h1
theorem dsc_pw : ∀ {s : List P2}, Dsc s → s.Pairwise fun a b => lxl b a
 | [], _ => List.Pairwise.nil
 | b :: r, h => List.pairwise_cons.2 ⟨fun q hq => dsc_lt h q hq, dsc_pw h.tail⟩
def ng (p : P2) : P2 := (-p.1, -p.2)
theorem ng_ng (p : P2) : ng (ng p) = p := by unfold ng; simp
theorem lft_ng (a b c : P2) : lft (ng a) (ng b) (ng c) = lft a b c := by unfold lft ng; grind
theorem lxl_ng {a b : P2} : lxl (ng a) (ng b) ↔ lxl b a := by unfold lxl ng; grind
theorem map_ng_ng (l : List P2) : (l.map ng).map ng = l := by rw [List.map_map]; exact (List.map_congr_left fun a _ => ng_ng a).trans (List.map_id l)
theorem pops_ng (p : P2) : ∀ s : List P2, pops (ng p) (s.map ng) = (pops p s).map ng
 | [] => rfl
 | [_] => rfl
 | b :: a :: r => by
   show pops (ng p) (ng b :: ng a :: r.map ng) = _
   unfold pops
   rw [lft_ng]
   split
   ·exact pops_ng p (a :: r)
   ·rfl
theorem fold_ng : ∀ (l s : List P2), (l.map ng).foldl (fun s p => p :: pops p s) (s.map ng) = (l.foldl (fun s p => p :: pops p s) s).map ng
 | [], s => rfl
 | p :: l, s => by
   rw [List.map_cons, List.foldl_cons, List.foldl_cons, pops_ng]
   exact fold_ng l (p :: pops p s)
theorem chn_ng (l : List P2) : chn (l.map ng) = (chn l).map ng := fold_ng l []
def Upp (Q s : List P2) : Prop := Low (Q.map ng) (s.map ng)
theorem chn_upp {p : P2} {l : List P2} (h : (p :: l).Pairwise fun a b => lxl b a) : Upp ((p :: l).reverse) (chn (p :: l)) := by
 unfold Upp
 rw [← chn_ng, List.map_reverse]
 exact chn_low (p := ng p) (l := l.map ng) (by
  rw [← List.map_cons, List.pairwise_map]
  exact h.imp fun {a b} h1 => lxl_ng.2 h1)
theorem Low.perm {Q Q' s : List P2} (h : Low Q s) (hq : ∀ x, x ∈ Q ↔ x ∈ Q') : Low Q' s := by
 obtain ⟨h1, h2, h3, h4, ⟨b, r, e, h5⟩, ⟨m, hm, h6⟩⟩ := h
 have edg : ∀ {s : List P2}, Edg Q s → Edg Q' s := by
  intro s
  induction s with
  | nil => intro _; trivial
  | cons b r ih =>
    intro h
    cases r with
    | nil => trivial
    | cons a r => exact ⟨fun q hq' => h.1 q ((hq q).2 hq'), ih h.2⟩
 exact ⟨fun q hq' => (hq q).1 (h1 q hq'), h2, h3, edg h4, ⟨b, r, e, fun q hq' => h5 q ((hq q).2 hq')⟩, ⟨m, hm, fun q hq' => h6 q ((hq q).2 hq')⟩⟩
theorem before_edge {v : P2} : ∀ {a b : P2} {l2 : List P2}, Dsc (b :: a :: l2) → Trn (b :: a :: l2) → v ∈ l2 → 0 < lft a b v
 | a, b, [], _, _, h => by cases h
 | a, b, c :: r, hd, ht, h => by
   rcases List.mem_cons.1 h with rfl | h
   ·have := ht.1; unfold lft at *; grind
   ·have h1 := before_edge hd.2 ht.2 h
    have hv := dsc_lt (b := c) hd.2.2 v h
    refine turn_back hv hd.2.1 hd.1 ?_ ht.1
    unfold lft at *; grind
theorem after_edge {v : P2} : ∀ {b a : P2} {r : List P2}, Dsc (b :: a :: r) → Trn (b :: a :: r) → lxl b v → 0 < lft a b v → ∀ l1 t x l2, b :: a :: r = l1 ++ t :: x :: l2 → 0 < lft x t v
 | b, a, r, hd, ht, hp, h, [], t, x, l2, e => by cases e; exact h
 | b, a, [], hd, ht, hp, h, c :: l1, t, x, l2, e => by
   simp only [List.cons_append, List.cons.injEq] at e
   have := congrArg List.length e.2
   simp at this
   omega
 | b, a, c :: r, hd, ht, hp, h, _ :: l1, t, x, l2, e => by
   simp only [List.cons_append, List.cons.injEq] at e
   exact after_edge hd.2 ht.2 (lxl_trans hd.1 hp) (turn_trans hd.2.1 hd.1 hp ht.1 h) l1 t x l2 e.2
theorem own_edge {s : List P2} {a b v : P2} {l1 l2 : List P2} (hd : Dsc s) (ht : Trn s) (e : s = l1 ++ b :: a :: l2) (hv : v ∈ s) (ha : v ≠ a) (hb : v ≠ b) : 0 < lft a b v := by
 rw [e] at hv
 rcases List.mem_append.1 hv with h | h
 ·obtain ⟨m1, m2, e2⟩ := List.append_of_mem h
  rw [e, e2, List.append_assoc, List.cons_append] at hd ht
  have hd' := dsc_app' hd
  have ht' := trn_app ht
  cases m2 with
  | nil => exact ht'.1
  | cons c m2 =>
    cases m2 with
    | nil => exact after_edge hd'.2 ht'.tail hd'.1 ht'.1 [c] b a l2 rfl
    | cons d m2 => exact after_edge hd'.2 ht'.tail hd'.1 ht'.1 (c :: d :: m2) b a l2 rfl
 ·rcases List.mem_cons.1 h with h | h
  ·exact absurd h hb
  ·rcases List.mem_cons.1 h with h | h
   ·exact absurd h ha
   ·rw [e] at hd ht
    exact before_edge (dsc_app' hd) (trn_app ht) h
theorem ext_eq {Q : List P2} {a b : P2} (ha : a ∈ Q) (hb : b ∈ Q) (h1 : ∀ q ∈ Q, q = a ∨ lxl q a) (h2 : ∀ q ∈ Q, q = b ∨ lxl q b) : a = b := by
 rcases h2 a ha with h | h
 ·exact h
 ·rcases h1 b hb with h' | h'
  ·exact h'.symm
  ·exact absurd h (lxl_asymm h')
theorem ext_eq' {Q : List P2} {a b : P2} (ha : a ∈ Q) (hb : b ∈ Q) (h1 : ∀ q ∈ Q, q = a ∨ lxl a q) (h2 : ∀ q ∈ Q, q = b ∨ lxl b q) : a = b := by
 rcases h2 a ha with h | h
 ·exact h
 ·rcases h1 b hb with h' | h'
  ·exact h'.symm
  ·exact absurd h (lxl_asymm h')
theorem Upp.sub {Q s : List P2} (h : Upp Q s) : ∀ q ∈ s, q ∈ Q := fun q hq => by
 have := Low.sub h (ng q) (List.mem_map_of_mem hq)
 obtain ⟨x, hx, e⟩ := List.mem_map.1 this
 have : x = q := by rw [← ng_ng x, e, ng_ng]
 exact this ▸ hx
theorem Upp.head {Q s r : List P2} {v : P2} (h : Upp Q s) (e : s = v :: r) : ∀ q ∈ Q, q = v ∨ lxl v q := fun q hq => by
 have := Low.head_of h (v := ng v) (r := r.map ng) (by rw [e]; rfl) (ng q) (List.mem_map_of_mem hq)
 rcases this with h1 | h1
 ·left; rw [← ng_ng q, h1, ng_ng]
 ·exact .inr (lxl_ng.1 h1)
theorem Upp.last {Q s : List P2} {v : P2} (h : Upp Q s) (e : s.getLast? = some v) : ∀ q ∈ Q, q = v ∨ lxl q v := fun q hq => by
 have := Low.last_of h (v := ng v) (by rw [List.getLast?_map, e]; rfl) (ng q) (List.mem_map_of_mem hq)
 rcases this with h1 | h1
 ·left; rw [← ng_ng q, h1, ng_ng]
 ·exact .inr (lxl_ng.1 h1)
theorem cross_edge {Q lo up : List P2} {a b v : P2} {l1 l2 : List P2} (hl : Low Q lo) (hu : Upp Q up) (e : lo = l1 ++ b :: a :: l2) (hv : v ∈ up) (h1 : ∀ r, up ≠ v :: r) (h2 : up.getLast? ≠ some v) : 0 < lft a b v := by
 obtain ⟨k1, t, x, k2, e2⟩ := inner hv h1 h2
 have hd := Low.dsc hu
 have ht := Low.trn hu
 rw [e2, List.map_append] at hd ht
 have hd' := dsc_app' hd
 have ht' := trn_app ht
 have d1 := lxl_ng.1 hd'.1
 have d2 := lxl_ng.1 hd'.2.1
 have t1 := ht'.1
 rw [lft_ng] at t1
 have he := hl.edg; rw [e] at he
 have f := fun q hq => edg_at (l1 := l1) he q (Upp.sub hu q hq)
 have hab : lxl a b := by
  have := hl.dsc; rw [e] at this
  exact (dsc_app' this).1
 exact off_edge hab d2 d1 t1 (f x (by rw [e2]; simp)) (f t (by rw [e2]; simp)) (f v hv)
theorem strict_edge {Q lo up : List P2} {a b v : P2} {l1 l2 : List P2} (hl : Low Q lo) (hu : Upp Q up) (e : lo = l1 ++ b :: a :: l2) (hv : v ∈ lo ∨ v ∈ up) (ha : v ≠ a) (hb : v ≠ b) : 0 < lft a b v := by
 rcases hv with hv | hv
 ·exact own_edge hl.dsc hl.trn e hv ha hb
 ·by_cases h1 : ∃ r, up = v :: r
  ·obtain ⟨r, e1⟩ := h1
   obtain ⟨m, hm, hm2⟩ := hl.low
   have hml : m ∈ lo := List.mem_of_getLast? hm
   have : m = v := ext_eq' (hl.sub m hml) (Upp.sub hu v hv) hm2 (Upp.head hu e1)
   subst this
   exact own_edge hl.dsc hl.trn e hml ha hb
  ·by_cases h2 : up.getLast? = some v
   ·obtain ⟨m, r, hm, hm2⟩ := hl.top
    have hml : m ∈ lo := by rw [hm]; simp
    have : m = v := ext_eq (hl.sub m hml) (Upp.sub hu v hv) hm2 (Upp.last hu h2)
    subst this
    exact own_edge hl.dsc hl.trn e hml ha hb
   ·exact cross_edge hl hu e hv (fun r e1 => h1 ⟨r, e1⟩) h2
theorem ends {Q lo up : List P2} (hl : Low Q lo) (hu : Upp Q up) : ∃ mx mn r r', lo = mx :: r ∧ up = mn :: r' ∧ lo.getLast? = some mn ∧ up.getLast? = some mx ∧ (∀ q ∈ Q, q = mx ∨ lxl q mx) ∧ (∀ q ∈ Q, q = mn ∨ lxl mn q) ∧ mx ∈ Q ∧ mn ∈ Q := by
 obtain ⟨mx, r, e1, h1⟩ := hl.top
 obtain ⟨mn, e2, h2⟩ := hl.low
 have i1 : mx ∈ Q := hl.sub mx (by rw [e1]; simp)
 have i2 : mn ∈ Q := hl.sub mn (List.mem_of_getLast? e2)
 obtain ⟨b, r', e3, h3⟩ := Low.top hu
 cases up with
 | nil => cases e3
 | cons m r2 =>
   have i3 : m ∈ Q := Upp.sub hu m (by simp)
   have e4 : m = mn := ext_eq' i3 i2 (Upp.head hu rfl) h2
   subst e4
   refine ⟨mx, m, r, r2, e1, rfl, e2, ?_, h1, h2, i1, i2⟩
   cases e5 : (m :: r2).getLast? with
   | none => simp at e5
   | some z =>
     have i4 : z ∈ Q := Upp.sub hu z (List.mem_of_getLast? e5)
     rw [ext_eq i4 i1 (Upp.last hu e5) h1]
theorem split_at {a b : P2} : ∀ {t : List P2} {k : Nat}, t[k]? = some a → t[k+1]? = some b → ∃ l1 l2, t = l1 ++ a :: b :: l2
 | [], k, h, _ => by simp at h
 | x :: t, 0, h, h' => by
   simp at h; subst h
   cases t with
   | nil => simp at h'
   | cons y t => simp at h'; subst h'; exact ⟨[], t, rfl⟩
 | x :: t, k + 1, h, h' => by
   simp at h h'
   obtain ⟨l1, l2, e⟩ := split_at h h'
   exact ⟨x :: l1, l2, by rw [e]; rfl⟩
theorem rev_split {a b : P2} {s : List P2} {k : Nat} (h : s.reverse[k]? = some a) (h' : s.reverse[k+1]? = some b) : ∃ l1 l2, s = l1 ++ b :: a :: l2 := by
 obtain ⟨l1, l2, e⟩ := split_at h h'
 refine ⟨l2.reverse, l1.reverse, ?_⟩
 rw [← List.reverse_reverse s, e]
 simp
theorem cyc {A B : List P2} {x y : P2} (ha : 1 ≤ A.length) (hb : 1 ≤ B.length) (hx : B[0]? = some x) (hy : A[0]? = some y) {i n : Nat} (hn : n = A.length + B.length) (hi : i < n) :
  (∃ k a b, (A ++ [x])[k]? = some a ∧ (A ++ [x])[k+1]? = some b ∧ (A ++ B)[i]? = some a ∧ (A ++ B)[(i+1) % n]? = some b) ∨ (∃ k a b, (B ++ [y])[k]? = some a ∧ (B ++ [y])[k+1]? = some b ∧ (A ++ B)[i]? = some a ∧ (A ++ B)[(i+1) % n]? = some b) := by
 by_cases h1 : i < A.length
 ·left
  have e0 : (i + 1) % n = i + 1 := Nat.mod_eq_of_lt (by omega)
  rw [e0]
  have g1 : (A ++ [x])[i]? = some A[i] := by rw [List.getElem?_append_left h1, List.getElem?_eq_getElem h1]
  have g2 : (A ++ B)[i]? = some A[i] := by rw [List.getElem?_append_left h1, List.getElem?_eq_getElem h1]
  by_cases h2 : i + 1 < A.length
  ·exact ⟨i, A[i], A[i+1], g1, by rw [List.getElem?_append_left h2, List.getElem?_eq_getElem h2], g2, by rw [List.getElem?_append_left h2, List.getElem?_eq_getElem h2]⟩
  ·refine ⟨i, A[i], x, g1, ?_, g2, ?_⟩
   ·rw [List.getElem?_append_right (by omega), show i + 1 - A.length = 0 by omega]; rfl
   ·rw [List.getElem?_append_right (by omega), show i + 1 - A.length = 0 by omega]; exact hx
 ·right
  have h3 : i - A.length < B.length := by omega
  have g1 : (B ++ [y])[i - A.length]? = some B[i - A.length] := by rw [List.getElem?_append_left h3, List.getElem?_eq_getElem h3]
  have g2 : (A ++ B)[i]? = some B[i - A.length] := by rw [List.getElem?_append_right (by omega), List.getElem?_eq_getElem h3]
  by_cases h2 : i + 1 < n
  ·have h4 : i - A.length + 1 < B.length := by omega
   refine ⟨i - A.length, _, B[i - A.length + 1], g1, ?_, g2, ?_⟩
   ·rw [List.getElem?_append_left h4, List.getElem?_eq_getElem h4]
   ·rw [Nat.mod_eq_of_lt h2, List.getElem?_append_right (by omega), show i + 1 - A.length = i - A.length + 1 by omega, List.getElem?_eq_getElem h4]
  ·refine ⟨i - A.length, _, y, g1, ?_, g2, ?_⟩
   ·rw [List.getElem?_append_right (by omega), show i - A.length + 1 - B.length = 0 by omega]; rfl
   ·rw [show i + 1 = n by omega, Nat.mod_self, List.getElem?_append_left (by omega)]; exact hy
def pgon (lo up : List P2) : List P2 := lo.tail.reverse ++ up.tail.reverse
theorem rev_tail {m : P2} {r : List P2} : (m :: r).reverse = r.reverse ++ [m] := by simp
theorem hd_rev {r : List P2} {m : P2} (h : r.getLast? = some m) : r.reverse[0]? = some m := by
 rw [← List.head?_eq_getElem?, List.head?_reverse]; exact h
theorem pgon_edge {Q lo up : List P2} (hl : Low Q lo) (hu : Upp Q up) (h2 : ∃ p ∈ Q, ∃ q ∈ Q, p ≠ q) {i : Nat} (hi : i < (pgon lo up).length) :
  ∃ a b, (pgon lo up)[i]? = some a ∧ (pgon lo up)[(i + 1) % (pgon lo up).length]? = some b ∧ (∀ q ∈ Q, 0 ≤ lft a b q) ∧ (∀ v, (v ∈ lo ∨ v ∈ up) → v ≠ a → v ≠ b → 0 < lft a b v) := by
 obtain ⟨mx, mn, r, r', e1, e2, e3, e4, h3, h4, i1, i2⟩ := ends hl hu
 have hne : mx ≠ mn := by
  rintro rfl
  obtain ⟨p, hp, q, hq, hpq⟩ := h2
  have : ∀ z ∈ Q, z = mx := fun z hz => by
   rcases h3 z hz with h | h
   ·exact h
   ·rcases h4 z hz with h' | h'
    ·exact h'
    ·exact absurd h (lxl_asymm h')
  exact hpq ((this p hp).trans (this q hq).symm)
 have hr : r ≠ [] := by rintro rfl; rw [e1] at e3; simp at e3; exact hne e3
 have hr' : r' ≠ [] := by rintro rfl; rw [e2] at e4; simp at e4; exact hne e4.symm
 have l1 : 1 ≤ r.reverse.length := by rw [List.length_reverse]; exact List.length_pos_iff.2 hr
 have l2 : 1 ≤ r'.reverse.length := by rw [List.length_reverse]; exact List.length_pos_iff.2 hr'
 have z1 : r.reverse[0]? = some mn := by
  apply hd_rev
  rw [e1] at e3
  cases r with
  | nil => exact absurd rfl hr
  | cons a r => simpa using e3
 have z2 : r'.reverse[0]? = some mx := by
  apply hd_rev
  rw [e2] at e4
  cases r' with
  | nil => exact absurd rfl hr'
  | cons a r => simpa using e4
 have ep : pgon lo up = r.reverse ++ r'.reverse := by rw [e1, e2]; rfl
 rw [ep] at hi ⊢
 have hlen : (r.reverse ++ r'.reverse).length = r.reverse.length + r'.reverse.length := List.length_append
 rcases cyc l1 l2 z2 z1 hlen hi with ⟨k, a, b, g1, g2, g3, g4⟩ | ⟨k, a, b, g1, g2, g3, g4⟩
 ·rw [← rev_tail, ← e1] at g1 g2
  obtain ⟨m1, m2, e⟩ := rev_split g1 g2
  have he := hl.edg; rw [e] at he
  exact ⟨a, b, g3, g4, edg_at (l1 := m1) he, fun v hv ha hb => strict_edge hl hu e hv ha hb⟩
 ·rw [← rev_tail, ← e2] at g1 g2
  obtain ⟨m1, m2, e⟩ := rev_split g1 g2
  have e' : up.map ng = m1.map ng ++ ng b :: ng a :: m2.map ng := by rw [e]; simp
  have he := Low.edg hu; rw [e'] at he
  have hu' : Upp (Q.map ng) (lo.map ng) := by
   unfold Upp
   rw [map_ng_ng, map_ng_ng]; exact hl
  refine ⟨a, b, g3, g4, fun q hq => ?_, fun v hv ha hb => ?_⟩
  ·have := edg_at (l1 := m1.map ng) he (ng q) (List.mem_map_of_mem hq)
   rwa [lft_ng] at this
  ·have := strict_edge (v := ng v) hu hu' e' (hv.elim (fun h => .inr (List.mem_map_of_mem h)) (fun h => .inl (List.mem_map_of_mem h))) (fun h => ha (by rw [← ng_ng v, h, ng_ng])) (fun h => hb (by rw [← ng_ng v, h, ng_ng]))
   rwa [lft_ng] at this
theorem dsc_nodup {s : List P2} (h : Dsc s) : s.Nodup := (dsc_pw h).imp fun {a b} hab e => by subst e; exact lxl_irrefl a hab
theorem nodup_of_map {s : List P2} (h : (s.map ng).Nodup) : s.Nodup := by
 rw [List.nodup_iff_pairwise_ne] at h ⊢
 rw [List.pairwise_map] at h
 exact h.imp fun {a b} hab e => hab (by rw [e])
theorem pgon_nodup {Q lo up : List P2} (hl : Low Q lo) (hu : Upp Q up) : (pgon lo up).Nodup := by
 obtain ⟨mx, mn, r, r', e1, e2, e3, e4, h3, h4, i1, i2⟩ := ends hl hu
 have n1 := dsc_nodup hl.dsc
 have n2 := nodup_of_map (dsc_nodup (Low.dsc hu))
 rw [e1] at n1; rw [e2] at n2
 have n1' := List.nodup_cons.1 n1
 have n2' := List.nodup_cons.1 n2
 have ep : pgon lo up = r.reverse ++ r'.reverse := by rw [e1, e2]; rfl
 rw [ep, List.nodup_append]
 refine ⟨List.pairwise_reverse.2 (List.Pairwise.imp (fun h => Ne.symm h) n1'.2), List.pairwise_reverse.2 (List.Pairwise.imp (fun h => Ne.symm h) n2'.2), fun a ha b hb e => ?_⟩
 subst e
 have ha' : a ∈ r := List.mem_reverse.1 ha
 have hb' : a ∈ r' := List.mem_reverse.1 hb
 have hnx : a ≠ mx := fun e => n1'.1 (e ▸ ha')
 have hnn : a ≠ mn := fun e => n2'.1 (e ▸ hb')
 obtain ⟨k1, k2, e5⟩ := List.append_of_mem ha'
 have e6 : ∃ l1 b l2, lo = l1 ++ b :: a :: l2 := by
  rcases List.eq_nil_or_concat k1 with h | ⟨k, c, h⟩
  ·subst h
   exact ⟨[], mx, k2, by rw [e1, e5]; rfl⟩
  ·subst h
   exact ⟨mx :: k, c, k2, by rw [e1, e5]; simp⟩
 obtain ⟨l1, b, l2, e7⟩ := e6
 have := cross_edge hl hu e7 (v := a) (by rw [e2]; simp [hb']) (fun r2 e8 => hnn (by rw [e2] at e8; cases e8; rfl)) (fun e8 => hnx (by rw [e4] at e8; cases e8; rfl))
 rw [lft_self1] at this
 grind
theorem pgon_mem {Q lo up : List P2} (hl : Low Q lo) (hu : Upp Q up) (h2 : ∃ p ∈ Q, ∃ q ∈ Q, p ≠ q) (v : P2) : v ∈ pgon lo up ↔ v ∈ lo ∨ v ∈ up := by
 obtain ⟨mx, mn, r, r', e1, e2, e3, e4, h3, h4, i1, i2⟩ := ends hl hu
 have hne : mx ≠ mn := by
  rintro rfl
  obtain ⟨p, hp, q, hq, hpq⟩ := h2
  have : ∀ z ∈ Q, z = mx := fun z hz => by
   rcases h3 z hz with h | h
   ·exact h
   ·rcases h4 z hz with h' | h'
    ·exact h'
    ·exact absurd h (lxl_asymm h')
  exact hpq ((this p hp).trans (this q hq).symm)
 have ep : pgon lo up = r.reverse ++ r'.reverse := by rw [e1, e2]; rfl
 have f1 : mn ∈ r := by
  have := List.mem_of_getLast? e3
  rw [e1] at this
  exact (List.mem_cons.1 this).resolve_left (Ne.symm hne)
 have f2 : mx ∈ r' := by
  have := List.mem_of_getLast? e4
  rw [e2] at this
  exact (List.mem_cons.1 this).resolve_left hne
 rw [ep, e1, e2, List.mem_append, List.mem_reverse, List.mem_reverse, List.mem_cons, List.mem_cons]
 constructor
 ·rintro (h | h)
  ·exact .inl (.inr h)
  ·exact .inr (.inr h)
 ·rintro ((rfl | h) | (rfl | h))
  ·exact .inr f2
  ·exact .inl h
  ·exact .inl f1
  ·exact .inr h
def hullL (l : List P2) : List P2 := pgon (chn l) (chn l.reverse)
theorem two_of {l : List P2} (h : l.Pairwise lxl) (h2 : 2 ≤ l.length) : ∃ p ∈ l, ∃ q ∈ l, p ≠ q := by
 match l, h, h2 with
 | a :: b :: r, h, _ =>
   refine ⟨a, by simp, b, by simp, fun e => ?_⟩
   have := (List.pairwise_cons.1 h).1 b (by simp)
   rw [e] at this
   exact lxl_irrefl b this
theorem hull_chains {l : List P2} (h : l.Pairwise lxl) (h2 : 2 ≤ l.length) : Low l (chn l) ∧ Upp l (chn l.reverse) := by
 constructor
 ·match l, h, h2 with
  | a :: r, h, _ => exact (chn_low h).perm fun x => by simp [or_comm]
 ·have hr : l.reverse.Pairwise fun a b => lxl b a := List.pairwise_reverse.2 h
  cases e : l.reverse with
  | nil => simp at e; subst e; simp at h2
  | cons a r =>
    rw [e] at hr
    have := chn_upp hr
    unfold Upp at *
    refine this.perm fun x => ?_
    rw [← e, List.reverse_reverse]
variable {W : World} {l : List Own}
section
variable {P : Program} {ops : Array Oper} {W : World} {l : List Own} {Q : Exit → Act → World → Prop} {gs : List Nat} {k : Nat} {o : Oper} {rest : List Oper} {a : Act} {R : Reg}
theorem Seq.callF {f : FuncId} {y : Operand} {xs : List Operand} {ts : Array TypeId} {vs : Array Value} {v : Value} (ho : o.op = .call { callee := .value y, args := xs.toArray, argTypes := ts }) (hy : a.eval y = .func (.func f) #[] #[]) (hk : kd gs k o = .val) (hw : wants ops o a = true)
  (hx : xs.map a.eval = vs.toList) (hf : goesIn P f = true)
  (hc : ∀ w, St W l w → Calls P f vs w (fun e w' => e = .returned v ∧ Below w.heap.size w w'))
  (h : Seq P ops Q W l gs (k + 1) rest (a.put o.dst v) R) : Seq P ops Q W l gs k (o :: rest) a R := by
 refine .inl (.inr ⟨hw, ?_⟩)
 rw [hk]
 refine ⟨v, .inr ⟨by simp [isCall, ho], fun w hs => ?_⟩, h⟩
 have key : ∀ ρ : Operand → Value, ρ y = .func (.func f) #[] #[] → xs.map ρ = vs.toList → (execOp ρ o).run P w = .ok (.enter f vs) w := by
  intro ρ h1 h2
  unfold goesIn at hf
  cases hp : P.funcs[f]? with
  | none => simp [hp] at hf
  | some fn =>
    simp only [hp, Bool.and_eq_true, bne_iff_ne, ne_eq] at hf
    have hb : fn.body.isNone = false := by cases hq : fn.body <;> simp_all
    have hv : (xs.map ρ).toArray = vs := by rw [h2]
    simp [execOp, ho, resolve, invoke, callFunc, Deferred.ofValue, h1, hp, hf.1, hb, hv, go_sem]
    intro hq; rw [hq] at hb; cases hb
 have hr := key a.eval hy hx
 rw [hr]
 exact ⟨Below.refl _ _, hc w hs⟩
end
def ordQ (a1 a2 b1 b2 : Rat) : Int := if cmpQ a1 b1 = 0 then cmpQ a2 b2 else cmpQ a1 b1
theorem order_n {k : Nat} {a1 a2 b1 b2 : Rat} {v1 : Int} (hT : Tab W) (Za1 : Rz k a1) (Za2 : Rz k a2) (Zb1 : Rz k b1) (Zb2 : Rz k b2) (hv : cmpQ a1 b1 = v1) (hn : v1 ≠ 0) (hk : k ≤ 1000000000000) (w : World) (h : St W l w) : Rt 108 #[.agg (VC a1 a2), .agg (VC b1 b2)] w (.int .i64 v1) := by
 have HT := yh (tabS hT h); clear hT h
 have H1 := yh hv; clear hv
 have r1 : (v1 != 0) = true := by simp [hn]
 clear hn
 have Z_a1 := yh Za1; clear Za1
 have Z_a2 := yh Za2; clear Za2
 have Z_b1 := yh Zb1; clear Zb1
 have Z_b2 := yh Zb2; clear Zb2
 go_enter Tryz.func108, Tryz.ntmps108
 have HS : St w [] w := St.start
 go_upto_region 0 with fail
 refine rgT [] HS ?_
 refine bX (VC a1 a2) ?_
 intro bk2 _ _ e2
 refine nZ ?_
 refine bX (VC b1 b2) ?_
 intro bk3 _ _ e3
 obtain ⟨_, _, e3⟩ := Reg.ne2 e3
 refine nZ ?_
 refine pU ?_
 refine dn2 bk2 bk3 fun _ HS1=>?_
 clear HS
 go_upto_region 1 with fail
 refine rgT [] HS1 ?_
 refine pU ?_
 refine lA (RC a1) ?_
 refine pU ?_
 refine lA (RC b1) ?_
 refine cX rfl rfl (cmp_q (k := (1 * k + 0)) HT.out (zm Z_a1) (zm Z_b1) H1.out (by omega)) ?_
 refine pU ?_
 refine dnS fun _ HS2=>?_
 clear HS1
 go_upto_region 2 with fail
 refine rgT [] HS2 ?_
 iterate 2 refine pU ?_
 refine dnS fun _ HS3=>?_
 clear HS2
 go_upto_region 3 with fail
 refine rgT [] HS3 ?_
 iterate 2 refine pU ?_
 refine dnS fun _ HS4=>?_
 clear HS3
 go_wp2_with fail
 go_ret
 exact ⟨rfl, HS4.below⟩
theorem order_z {k : Nat} {a1 a2 b1 b2 : Rat} {v2 : Int} (hT : Tab W) (Za1 : Rz k a1) (Za2 : Rz k a2) (Zb1 : Rz k b1) (Zb2 : Rz k b2) (hv : cmpQ a1 b1 = 0) (hw : cmpQ a2 b2 = v2) (hk : k ≤ 1000000000000) (w : World) (h : St W l w) : Rt 108 #[.agg (VC a1 a2), .agg (VC b1 b2)] w (.int .i64 v2) := by
 have HT := yh (tabS hT h); clear hT h
 obtain ⟨v1, hv1, r1⟩ : ∃ v, cmpQ a1 b1 = v ∧ (v != 0) = false := ⟨_, rfl, by simp [hv]⟩
 have H1 := yh hv1; clear hv1 hv
 have H2 := yh hw; clear hw
 have Z_a1 := yh Za1; clear Za1
 have Z_a2 := yh Za2; clear Za2
 have Z_b1 := yh Zb1; clear Zb1
 have Z_b2 := yh Zb2; clear Zb2
 go_enter Tryz.func108, Tryz.ntmps108
 have HS : St w [] w := St.start
 go_upto_region 0 with fail
 refine rgT [] HS ?_
 refine bX (VC a1 a2) ?_
 intro bk2 _ _ e2
 refine nZ ?_
 refine bX (VC b1 b2) ?_
 intro bk3 _ _ e3
 obtain ⟨_, _, e3⟩ := Reg.ne2 e3
 refine nZ ?_
 refine pU ?_
 refine dn2 bk2 bk3 fun _ HS1=>?_
 clear HS
 go_upto_region 1 with fail
 refine rgT [] HS1 ?_
 refine pU ?_
 refine lA (RC a1) ?_
 refine pU ?_
 refine lA (RC b1) ?_
 refine cX rfl rfl (cmp_q (k := (1 * k + 0)) HT.out (zm Z_a1) (zm Z_b1) H1.out (by omega)) ?_
 refine pU ?_
 refine dnS fun _ HS2=>?_
 clear HS1
 go_upto_region 2 with fail
 refine rgT [] HS2 ?_
 iterate 2 refine pU ?_
 refine dnS fun _ HS3=>?_
 clear HS2
 go_upto_region 4 with fail
 refine rgT [] HS3 ?_
 refine pU ?_
 refine lA (RC a2) ?_
 refine pU ?_
 refine lA (RC b2) ?_
 refine cX rfl rfl (cmp_q (k := (1 * k + 0)) HT.out (zm Z_a2) (zm Z_b2) H2.out (by omega)) ?_
 refine pU ?_
 refine dnS fun _ HS4=>?_
 clear HS3
 go_wp2_with fail
 go_ret
 exact ⟨rfl, HS4.below⟩
theorem order_q {k : Nat} {a1 a2 b1 b2 : Rat} {v : Int} (hT : Tab W) (Za1 : Rz k a1) (Za2 : Rz k a2) (Zb1 : Rz k b1) (Zb2 : Rz k b2) (hv : ordQ a1 a2 b1 b2 = v) (hk : k ≤ 1000000000000) (w : World) (h : St W l w) : Rt 108 #[.agg (VC a1 a2), .agg (VC b1 b2)] w (.int .i64 v) := by
 unfold ordQ at hv
 by_cases h0 : cmpQ a1 b1 = 0
 ·rw [if_pos h0] at hv
  exact order_z hT Za1 Za2 Zb1 Zb2 h0 hv hk w h
 ·rw [if_neg h0] at hv
  exact order_n hT Za1 Za2 Zb1 Zb2 hv (by rw [← hv]; exact h0) hk w h
theorem ordQ_lt (a b : P2) : ordQ a.1 a.2 b.1 b.2 < 0 ↔ lxl a b := by unfold ordQ lxl cmpQ; grind
theorem same_tt {k : Nat} {a1 a2 b1 b2 : Rat} (hT : Tab W) (Za1 : Rz k a1) (Za2 : Rz k a2) (Zb1 : Rz k b1) (Zb2 : Rz k b2) (c1 : cmpQ a1 b1 = 0) (c2 : cmpQ a2 b2 = 0) (hk : k ≤ 1000000000000) (w : World) (h : St W l w) : Rt 110 #[.agg (VC a1 a2), .agg (VC b1 b2)] w (.bool true) := by
 have HT := yh (tabS hT h); clear hT h
 obtain ⟨v1, hv1, r1⟩ : ∃ v, cmpQ a1 b1 = v ∧ (v == 0) = true := ⟨_, rfl, by rw [beq_iff_eq]; exact c1⟩
 have H1 := yh hv1; clear hv1
 obtain ⟨v2, hv2, r2⟩ : ∃ v, cmpQ a2 b2 = v ∧ (v == 0) = true := ⟨_, rfl, by rw [beq_iff_eq]; exact c2⟩
 have H2 := yh hv2; clear hv2
 clear c1 c2
 have Z_a1 := yh Za1; clear Za1
 have Z_a2 := yh Za2; clear Za2
 have Z_b1 := yh Zb1; clear Zb1
 have Z_b2 := yh Zb2; clear Zb2
 go_enter Tryz.func110, Tryz.ntmps110
 have HS : St w [] w := St.start
 go_upto_region 0 with fail
 refine rgT [] HS ?_
 refine bX (VC a1 a2) ?_
 intro bk2 _ _ e2
 refine nZ ?_
 refine bX (VC b1 b2) ?_
 intro bk3 _ _ e3
 obtain ⟨_, _, e3⟩ := Reg.ne2 e3
 refine nZ ?_
 refine pU ?_
 refine dn2 bk2 bk3 fun _ HS1=>?_
 clear HS
 go_upto_region 1 with fail
 refine rgT [] HS1 ?_
 refine pU ?_
 refine lA (RC a1) ?_
 refine pU ?_
 refine lA (RC b1) ?_
 refine cX rfl rfl (cmp_q (k := (1 * k + 0)) HT.out (zm Z_a1) (zm Z_b1) H1.out (by omega)) ?_
 iterate 3 refine pU ?_
 refine lA (RC a2) ?_
 refine pU ?_
 refine lA (RC b2) ?_
 refine cX rfl rfl (cmp_q (k := (1 * k + 0)) HT.out (zm Z_a2) (zm Z_b2) H2.out (by omega)) ?_
 iterate 3 refine pU ?_
 refine dnS fun _ HS2=>?_
 clear HS1
 go_wp2_with fail
 go_ret
 exact ⟨rfl, HS2.below⟩
theorem same_tf {k : Nat} {a1 a2 b1 b2 : Rat} (hT : Tab W) (Za1 : Rz k a1) (Za2 : Rz k a2) (Zb1 : Rz k b1) (Zb2 : Rz k b2) (c1 : cmpQ a1 b1 = 0) (c2 : ¬ cmpQ a2 b2 = 0) (hk : k ≤ 1000000000000) (w : World) (h : St W l w) : Rt 110 #[.agg (VC a1 a2), .agg (VC b1 b2)] w (.bool false) := by
 have HT := yh (tabS hT h); clear hT h
 obtain ⟨v1, hv1, r1⟩ : ∃ v, cmpQ a1 b1 = v ∧ (v == 0) = true := ⟨_, rfl, by rw [beq_iff_eq]; exact c1⟩
 have H1 := yh hv1; clear hv1
 obtain ⟨v2, hv2, r2⟩ : ∃ v, cmpQ a2 b2 = v ∧ (v == 0) = false := ⟨_, rfl, by rw [beq_eq_false_iff_ne]; exact c2⟩
 have H2 := yh hv2; clear hv2
 clear c1 c2
 have Z_a1 := yh Za1; clear Za1
 have Z_a2 := yh Za2; clear Za2
 have Z_b1 := yh Zb1; clear Zb1
 have Z_b2 := yh Zb2; clear Zb2
 go_enter Tryz.func110, Tryz.ntmps110
 have HS : St w [] w := St.start
 go_upto_region 0 with fail
 refine rgT [] HS ?_
 refine bX (VC a1 a2) ?_
 intro bk2 _ _ e2
 refine nZ ?_
 refine bX (VC b1 b2) ?_
 intro bk3 _ _ e3
 obtain ⟨_, _, e3⟩ := Reg.ne2 e3
 refine nZ ?_
 refine pU ?_
 refine dn2 bk2 bk3 fun _ HS1=>?_
 clear HS
 go_upto_region 1 with fail
 refine rgT [] HS1 ?_
 refine pU ?_
 refine lA (RC a1) ?_
 refine pU ?_
 refine lA (RC b1) ?_
 refine cX rfl rfl (cmp_q (k := (1 * k + 0)) HT.out (zm Z_a1) (zm Z_b1) H1.out (by omega)) ?_
 iterate 3 refine pU ?_
 refine lA (RC a2) ?_
 refine pU ?_
 refine lA (RC b2) ?_
 refine cX rfl rfl (cmp_q (k := (1 * k + 0)) HT.out (zm Z_a2) (zm Z_b2) H2.out (by omega)) ?_
 iterate 3 refine pU ?_
 refine dnS fun _ HS2=>?_
 clear HS1
 go_wp2_with fail
 go_ret
 exact ⟨rfl, HS2.below⟩
theorem same_ff {k : Nat} {a1 a2 b1 b2 : Rat} (hT : Tab W) (Za1 : Rz k a1) (Za2 : Rz k a2) (Zb1 : Rz k b1) (Zb2 : Rz k b2) (c1 : ¬ cmpQ a1 b1 = 0) (hk : k ≤ 1000000000000) (w : World) (h : St W l w) : Rt 110 #[.agg (VC a1 a2), .agg (VC b1 b2)] w (.bool false) := by
 have HT := yh (tabS hT h); clear hT h
 obtain ⟨v1, hv1, r1⟩ : ∃ v, cmpQ a1 b1 = v ∧ (v == 0) = false := ⟨_, rfl, by rw [beq_eq_false_iff_ne]; exact c1⟩
 have H1 := yh hv1; clear hv1
 clear c1
 have Z_a1 := yh Za1; clear Za1
 have Z_a2 := yh Za2; clear Za2
 have Z_b1 := yh Zb1; clear Zb1
 have Z_b2 := yh Zb2; clear Zb2
 go_enter Tryz.func110, Tryz.ntmps110
 have HS : St w [] w := St.start
 go_upto_region 0 with fail
 refine rgT [] HS ?_
 refine bX (VC a1 a2) ?_
 intro bk2 _ _ e2
 refine nZ ?_
 refine bX (VC b1 b2) ?_
 intro bk3 _ _ e3
 obtain ⟨_, _, e3⟩ := Reg.ne2 e3
 refine nZ ?_
 refine pU ?_
 refine dn2 bk2 bk3 fun _ HS1=>?_
 clear HS
 go_upto_region 1 with fail
 refine rgT [] HS1 ?_
 refine pU ?_
 refine lA (RC a1) ?_
 refine pU ?_
 refine lA (RC b1) ?_
 refine cX rfl rfl (cmp_q (k := (1 * k + 0)) HT.out (zm Z_a1) (zm Z_b1) H1.out (by omega)) ?_
 iterate 2 refine pU ?_
 iterate 6 refine nW ?_
 iterate 2 refine pU ?_
 refine dnS fun _ HS2=>?_
 clear HS1
 go_wp2_with fail
 go_ret
 exact ⟨rfl, HS2.below⟩
theorem cmpQ_eq0 (x y : Rat) : cmpQ x y = 0 ↔ x = y := by unfold cmpQ; grind
theorem same_q {k : Nat} {a1 a2 b1 b2 : Rat} {r : Bool} (hT : Tab W) (Za1 : Rz k a1) (Za2 : Rz k a2) (Zb1 : Rz k b1) (Zb2 : Rz k b2) (hr : decide (((a1, a2) : P2) = (b1, b2)) = r) (hk : k ≤ 1000000000000) (w : World) (h : St W l w) : Rt 110 #[.agg (VC a1 a2), .agg (VC b1 b2)] w (.bool r) := by
 by_cases c1 : cmpQ a1 b1 = 0
 ·by_cases c2 : cmpQ a2 b2 = 0
  ·have e : r = true := by rw [← hr, decide_eq_true_eq, (cmpQ_eq0 _ _).1 c1, (cmpQ_eq0 _ _).1 c2]
   subst e
   exact same_tt hT Za1 Za2 Zb1 Zb2 c1 c2 hk w h
  ·have e : r = false := by rw [← hr, decide_eq_false_iff_not]; intro e; exact c2 ((cmpQ_eq0 _ _).2 (Prod.mk.inj e).2)
   subst e
   exact same_tf hT Za1 Za2 Zb1 Zb2 c1 c2 hk w h
 ·have e : r = false := by rw [← hr, decide_eq_false_iff_not]; intro e; exact c1 ((cmpQ_eq0 _ _).2 (Prod.mk.inj e).1)
  subst e
  exact same_ff hT Za1 Za2 Zb1 Zb2 c1 hk w h
end Go.Proofs.YtmchjmflkaiakaaGreatDoor
