/- Joined texts: StA StL StR. -/
import Derived.Test.YtmchjmflkaiakaaGreatDoorPo1
namespace Go.Proofs.YtmchjmflkaiakaaGreatDoor
open Go.RowKit
set_option linter.unusedVariables false
set_option linter.unusedSimpArgs false
abbrev Nums := List Rat
def rl (q : Rat) : List Value := (RC q).toList
def fr (p : Nums) : List Value := p.flatMap rl
def RX (J : List Value) (p : Nums) : Array Value := (fr p ++ J).toArray
def rx (p : Nums) (i : Nat) : Rat := p.getD i 0
def Qz (k : Nat) (p : Nums) : Prop := ∀ c ∈ p, Rz k c
theorem RX_list (J : List Value) (p : Nums) : (RX J p).toList = fr p ++ J := rfl
theorem rl_len (q : Rat) : (rl q).length = 3 := rfl
theorem fr_len (p : Nums) : (fr p).length = 3 * p.length := by
 induction p with
 | nil => rfl
 | cons c p ih => rw [fr, List.flatMap_cons, List.length_append]; unfold fr at ih; rw [ih, rl_len, List.length_cons]; omega
theorem RX_size (J : List Value) (p : Nums) : (RX J p).size = 3 * p.length + J.length := by
 show (RX J p).toList.length = _
 rw [RX_list, List.length_append, fr_len]
theorem fr_take (p : Nums) (i : Nat) : (fr p).take (3 * i) = fr (p.take i) := by
 induction i generalizing p with
 | zero => simp [fr]
 | succ i ih =>
   cases p with
   | nil => simp [fr]
   | cons c p =>
     have := ih p
     unfold fr at this ⊢
     rw [List.flatMap_cons, show 3 * (i + 1) = (rl c).length + 3 * i by rw [rl_len]; omega, List.take_append, List.take_succ_cons, List.flatMap_cons, ← this, List.take_of_length_le (by omega), Nat.add_sub_cancel_left]
theorem fr_drop (p : Nums) (i : Nat) : (fr p).drop (3 * i) = fr (p.drop i) := by
 induction i generalizing p with
 | zero => rfl
 | succ i ih =>
   cases p with
   | nil => simp [fr]
   | cons c p =>
     have := ih p
     unfold fr at this ⊢
     rw [List.flatMap_cons, show 3 * (i + 1) = (rl c).length + 3 * i by rw [rl_len]; omega, List.drop_append, Nat.add_sub_cancel_left, List.drop_of_length_le (by omega), List.nil_append, this, List.drop_succ_cons]
theorem fr_app (a b : Nums) : fr (a ++ b) = fr a ++ fr b := by simp [fr]
theorem rx_get {p : Nums} {i : Nat} (h : i < p.length) : p[i] = rx p i := by unfold rx; rw [List.getD_eq_getElem?_getD, List.getElem?_eq_getElem h]; rfl
theorem RX_room {J : List Value} {p : Nums} {i : Nat} (h : i < p.length) : 3 * i + 3 ≤ (RX J p).size := by rw [RX_size]; omega
theorem RX_at {J : List Value} {p : Nums} {i : Nat} (h : i < p.length) : (RX J p).extract (3 * i) (3 * i + 3) = RC (rx p i) := by
 apply Array.toList_inj.1
 rw [Array.toList_extract, List.extract_eq_take_drop, RX_list, List.drop_append, fr_drop, List.drop_eq_getElem_cons h, fr, List.flatMap_cons, show 3 * i + 3 - 3 * i = (rl p[i]).length by rw [rl_len]; omega, List.append_assoc, List.take_left, rx_get h]
 rfl
theorem RX_put {J : List Value} {p : Nums} {i : Nat} {x : Rat} (h : i < p.length) : ((RX J p).toList.take (3 * i) ++ (Value.agg (RC x)).cells.toList ++ (RX J p).toList.drop (3 * i + (Value.agg (RC x)).cells.size)).toArray = RX J (p.set i x) := by
 have hs : (Value.agg (RC x)).cells.size = 3 := rfl
 have hc : (Value.agg (RC x)).cells.toList = rl x := rfl
 rw [hs, hc, show 3 * i + 3 = 3 * (i + 1) by omega]
 apply Array.toList_inj.1
 show List.take (3 * i) (RX J p).toList ++ rl x ++ List.drop (3 * (i + 1)) (RX J p).toList = (RX J (p.set i x)).toList
 rw [RX_list, RX_list, List.take_append_of_le_length (by rw [fr_len]; omega), List.drop_append_of_le_length (by rw [fr_len]; omega), fr_take, fr_drop, List.set_eq_take_append_cons_drop, if_pos h, fr_app]
 have e : fr (x :: p.drop (i + 1)) = rl x ++ fr (p.drop (i + 1)) := by unfold fr; rw [List.flatMap_cons]
 rw [e]
 simp only [List.append_assoc]
theorem Qz.at_ {k : Nat} {p : Nums} (h : Qz k p) {i : Nat} (hi : i < p.length) : Rz k (rx p i) := by rw [← rx_get hi]; exact h _ (List.getElem_mem _)
theorem Qz.more {k l : Nat} {p : Nums} (h : Qz k p) (hk : k ≤ l) : Qz l p := fun c hc => (h c hc).more hk
theorem Qz.set {k : Nat} {p : Nums} {i : Nat} {v : Rat} (h : Qz k p) (hv : Rz k v) : Qz k (p.set i v) := by
 intro c hc
 rcases List.mem_or_eq_of_mem_set hc with h1 | h1
 ·exact h c h1
 ·rw [h1]; exact hv
def RAt (w : World) (A : Option Addr) (p : Nums) : Prop := p = [] ∨ ∃ g J, A = some ⟨g, 0, none⟩ ∧ Blk w g 27 (RX J p)
theorem RAt.get {w : World} {A : Option Addr} {p : Nums} (h : RAt w A p) {i : Nat} (hi : i < p.length) : ∃ g J, A = some ⟨g, 0, none⟩ ∧ Blk w g 27 (RX J p) := by
 rcases h with h | h
 ·subst h; exact absurd hi (Nat.not_lt_zero _)
 ·exact h
theorem RAt.next {w w' : World} {A : Option Addr} {p : Nums} (h : RAt w A p) (hb : Below w.heap.size w w') : RAt w' A p := by
 rcases h with h | ⟨g, J, h1, h2⟩
 ·exact .inl h
 ·exact .inr ⟨g, J, h1, h2.belowB hb⟩
def RNew (W : World) (q : Nums) (e : Ending) (w' : World) : Prop := ∃ g, e = .returned (.slice (some ⟨g, 0, none⟩) q.length q.length) ∧ St W [(g, 27, RX [] q)] w'
abbrev Ply := List Rat
def ev : Ply → Rat → Rat
 | [], _ => 0
 | c :: p, x => ev p x * x + c
def evd : Ply → Rat → Rat
 | [], _ => 0
 | _ :: p, x => ev p x + evd p x * x
theorem ev_cons (c : Rat) (p : Ply) (x : Rat) : ev (c :: p) x = ev p x * x + c := rfl
theorem evd_cons (c : Rat) (p : Ply) (x : Rat) : evd (c :: p) x = ev p x + evd p x * x := rfl
def Bd (M v : Rat) : Prop := -M ≤ v ∧ v ≤ M
theorem mul_nn' {a b : Rat} (h1 : 0 ≤ a) (h2 : 0 ≤ b) : 0 ≤ a * b := Rat.mul_nonneg h1 h2
theorem mul_le_l {a b c : Rat} (h : a ≤ b) (hc : 0 ≤ c) : c * a ≤ c * b := Rat.mul_le_mul_of_nonneg_left h hc
theorem Bd.nn {M v : Rat} (h : Bd M v) : 0 ≤ M := by unfold Bd at h; grind
theorem Bd.add {M N u v : Rat} (h1 : Bd M u) (h2 : Bd N v) : Bd (M + N) (u + v) := by unfold Bd at *; grind
theorem Bd.sub {M N u v : Rat} (h1 : Bd M u) (h2 : Bd N v) : Bd (M + N) (u - v) := by unfold Bd at *; grind
theorem Bd.neg {M u : Rat} (h1 : Bd M u) : Bd M (-u) := by unfold Bd at *; grind
theorem Bd.more {M N u : Rat} (h1 : Bd M u) (h : M ≤ N) : Bd N u := by unfold Bd at *; grind
theorem Bd.mul {M N u v : Rat} (h1 : Bd M u) (h2 : Bd N v) : Bd (M * N) (u * v) := by
 have hM := h1.nn
 have hN := h2.nn
 unfold Bd at *
 obtain ⟨a1, a2⟩ := h1
 obtain ⟨b1, b2⟩ := h2
 have p1 : 0 ≤ (M - u) * (N - v) := mul_nn' (by grind) (by grind)
 have p2 : 0 ≤ (M + u) * (N + v) := mul_nn' (by grind) (by grind)
 have p3 : 0 ≤ (M - u) * (N + v) := mul_nn' (by grind) (by grind)
 have p4 : 0 ≤ (M + u) * (N - v) := mul_nn' (by grind) (by grind)
 constructor <;> grind
theorem Bd.self (v : Rat) : ∃ M, 0 ≤ M ∧ Bd M v := by
 rcases (by grind : 0 ≤ v ∨ v ≤ 0) with h | h
 ·exact ⟨v, h, by unfold Bd; grind⟩
 ·exact ⟨-v, by grind, by unfold Bd; grind⟩
theorem ev_bd (B : Rat) (hB : 0 ≤ B) : ∀ p : Ply, ∃ M, 0 ≤ M ∧ ∀ x, Bd B x → Bd M (ev p x)
 | [] => ⟨0, by grind, fun x _ => by unfold ev Bd; grind⟩
 | c :: p => by
   obtain ⟨M, h0, h1⟩ := ev_bd B hB p
   obtain ⟨C, c0, c1⟩ := Bd.self c
   exact ⟨M * B + C, by have := mul_nn' h0 hB; grind, fun x hx => by unfold ev; exact ((h1 x hx).mul hx).add c1⟩
theorem evd_bd (B : Rat) (hB : 0 ≤ B) : ∀ p : Ply, ∃ M, 0 ≤ M ∧ ∀ x, Bd B x → Bd M (evd p x)
 | [] => ⟨0, by grind, fun x _ => by unfold evd Bd; grind⟩
 | c :: p => by
   obtain ⟨M, h0, h1⟩ := evd_bd B hB p
   obtain ⟨C, c0, c1⟩ := ev_bd B hB p
   exact ⟨C + M * B, by have := mul_nn' h0 hB; grind, fun x hx => by unfold evd; exact (c1 x hx).add ((h1 x hx).mul hx)⟩
theorem ev_lip (B : Rat) (hB : 0 ≤ B) : ∀ p : Ply, ∃ L, 0 ≤ L ∧ ∀ x y d, Bd B x → Bd B y → Bd d (y - x) → Bd (L * d) (ev p y - ev p x)
 | [] => ⟨0, by grind, fun x y d _ _ hd => by have := hd.nn; unfold ev Bd; grind⟩
 | c :: p => by
   obtain ⟨L, h0, h1⟩ := ev_lip B hB p
   obtain ⟨M, m0, m1⟩ := ev_bd B hB p
   refine ⟨L * B + M, by have := mul_nn' h0 hB; grind, fun x y d hx hy hd => ?_⟩
   have e : ev (c :: p) y - ev (c :: p) x = (ev p y - ev p x) * x + ev p y * (y - x) := by
    rw [ev_cons, ev_cons]; generalize ev p x = u; generalize ev p y = v; grind
   have e2 : (L * B + M) * d = L * d * B + M * d := by grind
   rw [e, e2]
   exact ((h1 x y d hx hy hd).mul hx).add ((m1 y hy).mul hd)
theorem ev_der (B : Rat) (hB : 0 ≤ B) : ∀ p : Ply, ∃ K, 0 ≤ K ∧ ∀ x y d, Bd B x → Bd B y → Bd d (y - x) → Bd (K * d * d) (ev p y - ev p x - (y - x) * evd p x)
 | [] => ⟨0, by grind, fun x y d _ _ hd => by have := hd.nn; unfold ev evd Bd; grind⟩
 | c :: p => by
   obtain ⟨K, h0, h1⟩ := ev_der B hB p
   obtain ⟨L, l0, l1⟩ := ev_lip B hB p
   refine ⟨K * B + L, by have := mul_nn' h0 hB; grind, fun x y d hx hy hd => ?_⟩
   have e : ev (c :: p) y - ev (c :: p) x - (y - x) * evd (c :: p) x = (ev p y - ev p x - (y - x) * evd p x) * x + (ev p y - ev p x) * (y - x) := by
    rw [ev_cons, ev_cons, evd_cons]; generalize ev p x = u; generalize ev p y = v; generalize evd p x = z; grind
   have e2 : (K * B + L) * d * d = K * d * d * B + L * d * d := by grind
   rw [e, e2]
   exact ((h1 x y d hx hy hd).mul hx).add ((l1 x y d hx hy hd).mul hd)
def chg : Int → List Int → Int
 | _, [] => 0
 | l, s :: r => (if s * l < 0 then 1 else 0) + chg (if s = 0 then l else s) r
inductive Rel : List Int → List Int → Prop
 | one (s : Int) (h : s ≠ 0) : Rel [s] [s]
 | same (s t : Int) (l m : List Int) (h : s ≠ 0) (r : Rel (t :: l) (t :: m)) : Rel (s :: t :: l) (s :: t :: m)
 | mid (s t u v : Int) (l m : List Int) (h : s * t < 0) (hu : u = 1 ∨ u = 0 ∨ u = -1) (hv : v = 1 ∨ v = 0 ∨ v = -1) (r : Rel (t :: l) (t :: m)) : Rel (s :: u :: t :: l) (s :: v :: t :: m)
theorem chg_cons (l s : Int) (r : List Int) : chg l (s :: r) = (if s * l < 0 then 1 else 0) + chg (if s = 0 then l else s) r := rfl
theorem mulneg {a b : Int} : a * b < 0 ↔ (a < 0 ∧ 0 < b) ∨ (0 < a ∧ b < 0) := by
 constructor
 ·intro h
  rcases Int.lt_trichotomy a 0 with ha | ha | ha
  ·left
   refine ⟨ha, ?_⟩
   rcases Int.lt_or_le 0 b with hb | hb
   ·exact hb
   ·have := Int.mul_nonneg_of_nonpos_of_nonpos (Int.le_of_lt ha) hb
    omega
  ·subst ha; simp at h
  ·right
   refine ⟨ha, ?_⟩
   rcases Int.lt_or_le b 0 with hb | hb
   ·exact hb
   ·have := Int.mul_nonneg (Int.le_of_lt ha) hb
    omega
 ·rintro (⟨h1, h2⟩ | ⟨h1, h2⟩)
  ·exact Int.mul_neg_of_neg_of_pos h1 h2
  ·exact Int.mul_neg_of_pos_of_neg h1 h2
theorem Rel.head {l m : List Int} (h : Rel l m) : ∃ s r q, l = s :: r ∧ m = s :: q ∧ s ≠ 0 := by
 cases h with
 | one s h => exact ⟨s, [], [], rfl, rfl, h⟩
 | same s t l m h r => exact ⟨s, _, _, rfl, rfl, h⟩
 | mid s t u v l m h hu hv r => exact ⟨s, _, _, rfl, rfl, fun e => by subst e; simp at h⟩
theorem chg_mid {s t w : Int} (h : s * t < 0) (hw : w = 1 ∨ w = 0 ∨ w = -1) (z : List Int) : chg s (w :: t :: z) = 1 + chg t z := by
 have ht : t ≠ 0 := fun e => by subst e; simp at h
 rw [chg_cons, chg_cons, if_neg ht]
 rcases mulneg.1 h with ⟨h1, h2⟩ | ⟨h1, h2⟩
 ·rcases hw with rfl | rfl | rfl
  ·rw [if_pos (show (1 : Int) * s < 0 by omega), if_neg (show ¬ (1 : Int) = 0 by decide), if_neg (show ¬ t * (1 : Int) < 0 by omega)]; omega
  ·rw [if_neg (show ¬ (0 : Int) * s < 0 by omega), if_pos (show (0 : Int) = 0 from rfl), if_pos (show t * s < 0 by rw [Int.mul_comm]; exact h)]; omega
  ·rw [if_neg (show ¬ (-1 : Int) * s < 0 by omega), if_neg (show ¬ (-1 : Int) = 0 by decide), if_pos (show t * (-1 : Int) < 0 by omega)]; omega
 ·rcases hw with rfl | rfl | rfl
  ·rw [if_neg (show ¬ (1 : Int) * s < 0 by omega), if_neg (show ¬ (1 : Int) = 0 by decide), if_pos (show t * (1 : Int) < 0 by omega)]; omega
  ·rw [if_neg (show ¬ (0 : Int) * s < 0 by omega), if_pos (show (0 : Int) = 0 from rfl), if_pos (show t * s < 0 by rw [Int.mul_comm]; exact h)]; omega
  ·rw [if_pos (show (-1 : Int) * s < 0 by omega), if_neg (show ¬ (-1 : Int) = 0 by decide), if_neg (show ¬ t * (-1 : Int) < 0 by omega)]; omega
theorem Rel.chg_eq {l m : List Int} (h : Rel l m) : ∀ k, chg k l = chg k m := by
 induction h with
 | one s h => intro k; rfl
 | same s t l m h r ih => intro k; rw [chg_cons k s (t :: l), chg_cons k s (t :: m), ih]
 | mid s t u v l m h hu hv r ih =>
   intro k
   have hs : s ≠ 0 := fun e => by subst e; simp at h
   have ht : t ≠ 0 := fun e => by subst e; simp at h
   have := ih 0
   rw [chg_cons, chg_cons, if_neg ht] at this
   rw [chg_cons k s (u :: t :: l), chg_cons k s (v :: t :: m), if_neg hs, chg_mid h hu, chg_mid h hv]
   omega
def sgR (x : Rat) : Int := if 0 < x then 1 else if x < 0 then -1 else 0
theorem sgR_three (x : Rat) : sgR x = 1 ∨ sgR x = 0 ∨ sgR x = -1 := by unfold sgR; split; exact .inl rfl; split; exact .inr (.inr rfl); exact .inr (.inl rfl)
theorem sgR_pos {x : Rat} : sgR x = 1 ↔ 0 < x := by unfold sgR; grind
theorem sgR_neg {x : Rat} : sgR x = -1 ↔ x < 0 := by unfold sgR; grind
theorem sgR_zero {x : Rat} : sgR x = 0 ↔ x = 0 := by unfold sgR; grind
def Far (B : Rat) (p : Ply) : Prop := ∃ e, 0 < e ∧ ∀ x, Bd B x → ¬ Bd e (ev p x)
def Chn (B : Rat) : List Ply → Prop
 | [] => False
 | [p] => Far B p
 | p :: q :: l => Chn B (q :: l) ∧ (∀ r l', l = r :: l' → ∃ (g : Ply) (a : Rat), 0 < a ∧ ∀ x, ev p x = ev g x * ev q x - a * ev r x)
def Std (p : Ply) (x y : Rat) : Prop := ev p x ≠ 0 ∧ sgR (ev p x) = sgR (ev p y)
theorem not_std {p : Ply} {x y L d : Rat} (h : ¬ Std p x y) (hl : Bd (L * d) (ev p y - ev p x)) : Bd (L * d) (ev p x) := by
 unfold Std at h
 have hn := hl.nn
 by_cases h0 : ev p x = 0
 ·rw [h0]; unfold Bd; grind
 ·have h1 : ¬ sgR (ev p x) = sgR (ev p y) := fun e => h ⟨h0, e⟩
  unfold sgR at h1
  unfold Bd at *
  grind
theorem mul_lt' {a b c : Rat} (h : a < b) (hc : 0 < c) : c * a < c * b := Rat.mul_lt_mul_of_pos_left h hc
theorem pdiv_ps {a b : Rat} (ha : 0 < a) (hb : 0 < b) : 0 < a / b := by
 have h : a / b * b = a := Rat.div_mul_cancel (by grind)
 rcases (by grind : 0 < a / b ∨ a / b ≤ 0) with h1 | h1
 ·exact h1
 ·have := mul_le_l h1 (by grind : (0 : Rat) ≤ b); grind
theorem small_of {L e : Rat} (hL : 0 ≤ L) (he : 0 < e) : ∃ d, 0 < d ∧ ∀ x, 0 ≤ x → x ≤ d → L * x < e := by
 refine ⟨e / (L + 1), pdiv_ps he (by grind), fun x hx hd => ?_⟩
 have h1 : (L + 1) * (e / (L + 1)) = e := by rw [Rat.mul_comm]; exact Rat.div_mul_cancel (by grind)
 have h2 : (L + 1) * x ≤ (L + 1) * (e / (L + 1)) := mul_le_l hd (by grind)
 rcases (by grind : x = 0 ∨ 0 < x) with h | h
 ·subst h; grind
 ·grind
theorem min_of {a b : Rat} (ha : 0 < a) (hb : 0 < b) : ∃ c, 0 < c ∧ c ≤ a ∧ c ≤ b := by
 rcases (by grind : a ≤ b ∨ b ≤ a) with h | h
 ·exact ⟨a, ha, by grind, h⟩
 ·exact ⟨b, hb, h, by grind⟩
theorem not_both (B : Rat) (hB : 0 ≤ B) : ∀ (l : List Ply) (p q : Ply), Chn B (p :: q :: l) → ∃ e, 0 < e ∧ ∀ x, Bd B x → ¬ (Bd e (ev p x) ∧ Bd e (ev q x))
 | [], p, q, h => by
   obtain ⟨e, he, h1⟩ := h.1
   exact ⟨e, he, fun x hx hb => h1 x hx hb.2⟩
 | r :: l, p, q, h => by
   obtain ⟨e, he, h1⟩ := not_both B hB l q r h.1
   obtain ⟨g, a, ha, hg⟩ := h.2 r l rfl
   obtain ⟨M, hM, hm⟩ := ev_bd B hB g
   obtain ⟨d, hd, hds⟩ := small_of (L := M + 1) (e := a * e) (by grind) (Rat.mul_pos ha he)
   obtain ⟨c, hc, c1, c2⟩ := min_of hd he
   refine ⟨c, hc, fun x hx hb => h1 x hx ⟨hb.2.more c2, ?_⟩⟩
   have h2 : Bd (M * c + c) (ev g x * ev q x - ev p x) := ((hm x hx).mul hb.2).sub hb.1
   have h3 : ev g x * ev q x - ev p x = a * ev r x := by have := hg x; grind
   rw [h3] at h2
   have h4 : (M + 1) * c < a * e := hds c (by grind) c1
   have h5 : M * c + c < a * e := by grind
   unfold Bd at h2 ⊢
   constructor
   ·rcases (by grind : -e ≤ ev r x ∨ ev r x < -e) with h | h
    ·exact h
    ·have := mul_lt' h ha; grind
   ·rcases (by grind : ev r x ≤ e ∨ e < ev r x) with h | h
    ·exact h
    ·have := mul_lt' h ha; grind
theorem tiny (B : Rat) (hB : 0 ≤ B) : ∀ l : List Ply, Chn B l → ∃ d0, 0 < d0 ∧ ∀ d x y, d ≤ d0 → Bd B x → Bd B y → Bd d (y - x) → (∀ p r, l = p :: r → Std p x y) → Rel (l.map fun p => sgR (ev p x)) (l.map fun p => sgR (ev p y))
 | [], h => absurd h (by unfold Chn; exact fun h => h)
 | [p], h => ⟨1, by grind, fun d x y _ _ _ _ hs => by
   have h1 := hs p [] rfl
   have e : sgR (ev p y) = sgR (ev p x) := h1.2.symm
   simp only [List.map_cons, List.map_nil, e]
   exact Rel.one _ (fun h => h1.1 (sgR_zero.1 h))⟩
 | [p, q], h => by
   obtain ⟨e, he, hq⟩ := h.1
   obtain ⟨Lq, hLq, lq⟩ := ev_lip B hB q
   obtain ⟨d3, hd3, k3⟩ := small_of hLq he
   refine ⟨d3, hd3, fun d x y hd hx hy hxy hs => ?_⟩
   have h1 := hs p [q] rfl
   have h2 : Std q x y := Classical.byContradiction fun h => hq x hx ((not_std h (lq x y d hx hy hxy)).more (by have := k3 d hxy.nn hd; grind))
   simp only [List.map_cons, List.map_nil, ← h1.2, ← h2.2]
   exact Rel.same _ _ _ _ (fun h => h1.1 (sgR_zero.1 h)) (Rel.one _ (fun h => h2.1 (sgR_zero.1 h)))
 | p :: q :: r :: l, h => by
   obtain ⟨d1, hd1, i1⟩ := tiny B hB (q :: r :: l) h.1
   obtain ⟨d2, hd2, i2⟩ := tiny B hB (r :: l) h.1.1
   obtain ⟨e, he, hnb⟩ := not_both B hB l q r h.1
   obtain ⟨g, a, ha, hg⟩ := h.2 r l rfl
   obtain ⟨M, hM, hm⟩ := ev_bd B hB g
   obtain ⟨Lq, hLq, lq⟩ := ev_lip B hB q
   obtain ⟨Lr, hLr, lr⟩ := ev_lip B hB r
   obtain ⟨d3, hd3, k3⟩ := small_of hLq he
   obtain ⟨d4, hd4, k4⟩ := small_of hLr he
   obtain ⟨d5, hd5, k5⟩ := small_of (L := M * Lq) (e := a * e) (mul_nn' hM hLq) (Rat.mul_pos ha he)
   obtain ⟨m1, hm1, n1, n2⟩ := min_of hd1 hd2
   obtain ⟨m2, hm2, n3, n4⟩ := min_of hd3 hd4
   obtain ⟨m3, hm3, n5, n6⟩ := min_of hm1 hm2
   obtain ⟨m4, hm4, n7, n8⟩ := min_of hm3 hd5
   refine ⟨m4, hm4, fun d x y hd hx hy hxy hs => ?_⟩
   have hp := hs p _ rfl
   have hdn := hxy.nn
   have hp0 : sgR (ev p x) ≠ 0 := fun h => hp.1 (sgR_zero.1 h)
   by_cases hq : Std q x y
   ·have hi := i1 d x y (by grind) hx hy hxy (fun p' r' e' => by injection e' with e1 e2; subst e1; exact hq)
    simp only [List.map_cons, ← hp.2, ← hq.2] at hi ⊢
    exact Rel.same _ _ _ _ hp0 hi
   ·have hq1 : Bd (Lq * d) (ev q x) := not_std hq (lq x y d hx hy hxy)
    have hqe : Bd e (ev q x) := hq1.more (by have := k3 d hdn (by grind); grind)
    have hr : Std r x y := by
     refine Classical.byContradiction fun hr => ?_
     have hr1 : Bd (Lr * d) (ev r x) := not_std hr (lr x y d hx hy hxy)
     exact hnb x hx ⟨hqe, hr1.more (by have := k4 d hdn (by grind); grind)⟩
    have hi := i2 d x y (by grind) hx hy hxy (fun p' r' e' => by injection e' with e1 e2; subst e1; exact hr)
    have hgq : Bd (M * (Lq * d)) (ev g x * ev q x) := (hm x hx).mul hq1
    have h5 : M * Lq * d < a * e := k5 d hdn (by grind)
    have h6 : M * (Lq * d) = M * Lq * d := by grind
    rw [h6] at hgq
    have hpx := hg x
    have hst : sgR (ev p x) * sgR (ev r x) < 0 := by
     have hre : ¬ Bd e (ev r x) := fun h => hnb x hx ⟨hqe, h⟩
     rcases (by unfold Bd at hre; grind : e < ev r x ∨ ev r x < -e) with h | h
     ·have := mul_lt' h ha
      have hpn : ev p x < 0 := by unfold Bd at hgq; grind
      have e1 : sgR (ev p x) = -1 := sgR_neg.2 hpn
      have e2 : sgR (ev r x) = 1 := sgR_pos.2 (by grind)
      rw [e1, e2]; decide
     ·have := mul_lt' h ha
      have hpn : 0 < ev p x := by unfold Bd at hgq; grind
      have e1 : sgR (ev p x) = 1 := sgR_pos.2 hpn
      have e2 : sgR (ev r x) = -1 := sgR_neg.2 (by grind)
      rw [e1, e2]; decide
    simp only [List.map_cons, ← hp.2, ← hr.2] at hi ⊢
    exact Rel.mid _ _ _ _ _ _ hst (sgR_three _) (sgR_three _) hi
def prd : List Rat → Rat → Rat
 | [], _ => 1
 | r :: l, x => prd l x * (x - r)
theorem prd_cons (r : Rat) (l : List Rat) (x : Rat) : prd (r :: l) x = prd l x * (x - r) := rfl
theorem prd_two (r : Rat) (l : List Rat) (x y : Rat) : prd (r :: l) x * prd (r :: l) y = prd l x * prd l y * ((x - r) * (y - r)) := by
 rw [prd_cons, prd_cons]; generalize prd l x = u; generalize prd l y = v; grind
def cnt : List Rat → Rat → Rat → Int
 | [], _, _ => 0
 | r :: l, x, y => (if x < r ∧ r ≤ y then 1 else 0) + cnt l x y
theorem cnt_cons (r : Rat) (l : List Rat) (x y : Rat) : cnt (r :: l) x y = (if x < r ∧ r ≤ y then 1 else 0) + cnt l x y := rfl
theorem prd_same {x y : Rat} : ∀ {rs : List Rat}, (∀ r ∈ rs, (x < r ∧ y < r) ∨ (r < x ∧ r < y)) → 0 < prd rs x * prd rs y
 | [], _ => by unfold prd; grind
 | r :: l, h => by
   have h1 := prd_same (rs := l) (fun q hq => h q (List.mem_cons_of_mem _ hq))
   have h2 : 0 < (x - r) * (y - r) := by
    rcases h r List.mem_cons_self with h | h
    ·have := Rat.mul_pos (by grind : 0 < r - x) (by grind : 0 < r - y); grind
    ·exact Rat.mul_pos (by grind) (by grind)
   have h3 := Rat.mul_pos h1 h2
   have e : prd (r :: l) x * prd (r :: l) y = prd l x * prd l y * ((x - r) * (y - r)) := prd_two _ _ _ _
   rw [e]; exact h3
theorem prd_zero {x : Rat} : ∀ {rs : List Rat}, prd rs x = 0 ↔ x ∈ rs
 | [] => by unfold prd; simp
 | r :: l => by
   have h1 := prd_zero (x := x) (rs := l)
   have e : prd (r :: l) x = prd l x * (x - r) := rfl
   rw [e, Rat.mul_eq_zero, List.mem_cons, h1]
   constructor
   ·rintro (h | h)
    ·exact .inr h
    ·exact .inl (by grind)
   ·rintro (h | h)
    ·exact .inr (by grind)
    ·exact .inl h
theorem prd_turn {x y r : Rat} (hx : x < r) (hy : r < y) : ∀ {rs : List Rat}, rs.Nodup → r ∈ rs → (∀ q ∈ rs, q ≠ r → (x < q ∧ y < q) ∨ (q < x ∧ q < y)) → prd rs x * prd rs y < 0
 | [], _, h, _ => by cases h
 | a :: l, hn, h, hs => by
   have hn' := List.nodup_cons.1 hn
   have e : prd (a :: l) x * prd (a :: l) y = prd l x * prd l y * ((x - a) * (y - a)) := prd_two _ _ _ _
   rw [e]
   by_cases ha : a = r
   ·subst ha
    have h1 := prd_same (x := x) (y := y) (rs := l) (fun q hq => hs q (List.mem_cons_of_mem _ hq) (fun e => hn'.1 (e ▸ hq)))
    have h2 : (x - a) * (y - a) < 0 := by have := Rat.mul_pos (by grind : 0 < a - x) (by grind : 0 < y - a); grind
    have := mul_lt' h2 h1
    grind
   ·have hr : r ∈ l := (List.mem_cons.1 h).elim (fun e => absurd e.symm ha) id
    have h1 := prd_turn hx hy (rs := l) hn'.2 hr (fun q hq => hs q (List.mem_cons_of_mem _ hq))
    have h2 : 0 < (x - a) * (y - a) := by
     rcases hs a List.mem_cons_self ha with h | h
     ·have := Rat.mul_pos (by grind : 0 < a - x) (by grind : 0 < a - y); grind
     ·exact Rat.mul_pos (by grind) (by grind)
    have := mul_lt' h1 h2
    grind
structure Fac (p : Ply) (rs : List Rat) (w : Rat → Rat) : Prop where
 eq : ∀ x, ev p x = w x * prd rs x
 sg : (∀ x, 0 < w x) ∨ (∀ x, w x < 0)
 nd : rs.Nodup
theorem Fac.zero {p : Ply} {rs : List Rat} {w : Rat → Rat} (h : Fac p rs w) {x : Rat} : ev p x = 0 ↔ x ∈ rs := by
 rw [h.eq, Rat.mul_eq_zero, prd_zero]
 constructor
 ·rintro (h1 | h1)
  ·rcases h.sg with h2 | h2
   ·have := h2 x; grind
   ·have := h2 x; grind
  ·exact h1
 ·exact .inr
theorem Fac.ww {p : Ply} {rs : List Rat} {w : Rat → Rat} (h : Fac p rs w) (x y : Rat) : 0 < w x * w y := by
 rcases h.sg with h2 | h2
 ·exact Rat.mul_pos (h2 x) (h2 y)
 ·have := Rat.mul_pos (by have := h2 x; grind : 0 < -w x) (by have := h2 y; grind : 0 < -w y); grind
theorem Fac.mul {p : Ply} {rs : List Rat} {w : Rat → Rat} (h : Fac p rs w) (x y : Rat) : ev p x * ev p y = (w x * w y) * (prd rs x * prd rs y) := by rw [h.eq, h.eq]; grind
theorem cnt_zero {rs : List Rat} {x y : Rat} (h : ∀ r ∈ rs, ¬ (x < r ∧ r ≤ y)) : cnt rs x y = 0 := by
 induction rs with
 | nil => rfl
 | cons a l ih => rw [cnt_cons, if_neg (h a List.mem_cons_self), ih (fun r hr => h r (List.mem_cons_of_mem _ hr))]; rfl
theorem cnt_one {rs : List Rat} (hn : rs.Nodup) {x y r : Rat} (hr : r ∈ rs) (h : x < r ∧ r ≤ y) (ho : ∀ q ∈ rs, q ≠ r → ¬ (x < q ∧ q ≤ y)) : cnt rs x y = 1 := by
 induction rs with
 | nil => cases hr
 | cons a l ih =>
   have hn' := List.nodup_cons.1 hn
   rw [cnt_cons]
   by_cases ha : a = r
   ·subst ha
    rw [if_pos h, cnt_zero (fun q hq => ho q (List.mem_cons_of_mem _ hq) (fun e => hn'.1 (e ▸ hq)))]
    rfl
   ·have hr' : r ∈ l := (List.mem_cons.1 hr).elim (fun e => absurd e.symm ha) id
    rw [if_neg (ho a List.mem_cons_self ha), ih hn'.2 hr' (fun q hq => ho q (List.mem_cons_of_mem _ hq))]
    rfl
theorem cnt_add {rs : List Rat} {x y z : Rat} (h1 : x ≤ y) (h2 : y ≤ z) : cnt rs x z = cnt rs x y + cnt rs y z := by
 induction rs with
 | nil => rfl
 | cons a l ih =>
   rw [cnt_cons, cnt_cons, cnt_cons, ih]
   by_cases c1 : x < a ∧ a ≤ y
   ·have c3 : x < a ∧ a ≤ z := ⟨c1.1, by grind⟩
    have c2 : ¬ (y < a ∧ a ≤ z) := by grind
    rw [if_pos c1, if_pos c3, if_neg c2]
    omega
   ·by_cases c2 : y < a ∧ a ≤ z
    ·have c3 : x < a ∧ a ≤ z := ⟨by grind, c2.2⟩
     rw [if_neg c1, if_pos c3, if_pos c2]
     omega
    ·have c3 : ¬ (x < a ∧ a ≤ z) := by grind
     rw [if_neg c1, if_neg c3, if_neg c2]
     omega
theorem apart_of : ∀ (rs : List Rat), rs.Nodup → ∃ s, 0 < s ∧ ∀ a ∈ rs, ∀ b ∈ rs, a < b → s < b - a
 | [], _ => ⟨1, by grind, fun a h => by cases h⟩
 | r :: l, hn => by
   have hn' := List.nodup_cons.1 hn
   obtain ⟨s, hs, h1⟩ := apart_of l hn'.2
   have : ∀ l : List Rat, r ∉ l → ∃ s, 0 < s ∧ ∀ a ∈ l, (a < r → s < r - a) ∧ (r < a → s < a - r) := by
    intro l
    induction l with
    | nil => intro _; exact ⟨1, by grind, fun a h => by cases h⟩
    | cons b l ih =>
      intro hb
      obtain ⟨s, hs, h2⟩ := ih (fun h => hb (List.mem_cons_of_mem _ h))
      have hne : b ≠ r := fun e => hb (e ▸ List.mem_cons_self)
      rcases (by grind : b < r ∨ r < b) with h | h
      ·obtain ⟨c, hc, c1, c2⟩ := min_of hs (pdiv_ps (by grind : 0 < r - b) (by grind : (0 : Rat) < 2))
       refine ⟨c, hc, fun a ha => ?_⟩
       have e : (r - b) / 2 * 2 = r - b := Rat.div_mul_cancel (by grind)
       rcases List.mem_cons.1 ha with h9 | h9
       ·subst h9; exact ⟨fun _ => by grind, fun _ => by grind⟩
       ·exact ⟨fun k => by have := (h2 a h9).1 k; grind, fun k => by have := (h2 a h9).2 k; grind⟩
      ·obtain ⟨c, hc, c1, c2⟩ := min_of hs (pdiv_ps (by grind : 0 < b - r) (by grind : (0 : Rat) < 2))
       refine ⟨c, hc, fun a ha => ?_⟩
       have e : (b - r) / 2 * 2 = b - r := Rat.div_mul_cancel (by grind)
       rcases List.mem_cons.1 ha with h9 | h9
       ·subst h9; exact ⟨fun _ => by grind, fun _ => by grind⟩
       ·exact ⟨fun k => by have := (h2 a h9).1 k; grind, fun k => by have := (h2 a h9).2 k; grind⟩
   obtain ⟨t, ht, h2⟩ := this l hn'.1
   obtain ⟨c, hc, c1, c2⟩ := min_of hs ht
   refine ⟨c, hc, fun a ha b hb hab => ?_⟩
   rcases List.mem_cons.1 ha with h8 | h8 <;> rcases List.mem_cons.1 hb with h9 | h9
   ·grind
   ·have := (h2 b h9).2 (h8 ▸ hab); rw [h8]; grind
   ·have := (h2 a h8).1 (h9 ▸ hab); rw [h9]; grind
   ·have := h1 a h8 b h9 hab; grind
def chgs (l : List Ply) (x : Rat) : Int := chg 0 (l.map fun p => sgR (ev p x))
theorem sg_mul_neg {u v : Rat} : sgR u * sgR v < 0 ↔ u * v < 0 := by
 rcases (by grind : u < 0 ∨ u = 0 ∨ 0 < u) with h | h | h
 ·rw [sgR_neg.2 h]
  rcases (by grind : v < 0 ∨ v = 0 ∨ 0 < v) with k | k | k
  ·rw [sgR_neg.2 k]; have := Rat.mul_pos (by grind : 0 < -u) (by grind : 0 < -v); constructor <;> intro h9 <;> first | (exfalso; revert h9; decide) | (exfalso; grind)
  ·subst k; rw [sgR_zero.2 rfl]; constructor <;> intro h9 <;> first | (exfalso; revert h9; decide) | (exfalso; grind)
  ·rw [sgR_pos.2 k]; have := Rat.mul_pos (by grind : 0 < -u) k; exact ⟨fun _ => by grind, fun _ => by decide⟩
 ·subst h; rw [sgR_zero.2 rfl]; constructor <;> intro h9 <;> first | (exfalso; simp at h9; done) | (exfalso; grind)
 ·rw [sgR_pos.2 h]
  rcases (by grind : v < 0 ∨ v = 0 ∨ 0 < v) with k | k | k
  ·rw [sgR_neg.2 k]; have := Rat.mul_pos h (by grind : 0 < -v); exact ⟨fun _ => by grind, fun _ => by decide⟩
  ·subst k; rw [sgR_zero.2 rfl]; constructor <;> intro h9 <;> first | (exfalso; revert h9; decide) | (exfalso; grind)
  ·rw [sgR_pos.2 k]; have := Rat.mul_pos h k; constructor <;> intro h9 <;> first | (exfalso; revert h9; decide) | (exfalso; grind)
theorem chg_two {s t : Int} (ht : t ≠ 0) (l : List Int) : chg 0 (s :: t :: l) = (if t * s < 0 then 1 else 0) + chg t l := by
 rw [chg_cons, chg_cons, if_neg (show ¬ s * 0 < 0 by simp), if_neg ht]
 by_cases hs : s = 0
 ·subst hs; simp
 ·rw [if_neg hs]; omega
theorem chg_one {t : Int} (ht : t ≠ 0) (l : List Int) : chg 0 (t :: l) = chg t l := by
 rw [chg_cons, if_neg (show ¬ t * 0 < 0 by simp), if_neg ht]; omega
theorem piece (B : Rat) (hB : 0 ≤ B) {p q : Ply} {l : List Ply} (hc : Chn B (p :: q :: l)) {rs : List Rat} {w : Rat → Rat} (hf : Fac p rs w) {a : Rat} (ha : 0 < a) (hd : ∀ x, evd p x = a * ev q x) :
  ∃ d0, 0 < d0 ∧ ∀ d x y, d ≤ d0 → Bd B x → Bd B y → x ≤ y → Bd d (y - x) → chgs (p :: q :: l) x - chgs (p :: q :: l) y = cnt rs x y := by
 obtain ⟨d1, hd1, i1⟩ := tiny B hB (p :: q :: l) hc
 obtain ⟨d2, hd2, i2⟩ := tiny B hB (q :: l) hc.1
 obtain ⟨e, he, hnb⟩ := not_both B hB l p q hc
 obtain ⟨Lp, hLp, lp⟩ := ev_lip B hB p
 obtain ⟨Lq, hLq, lq⟩ := ev_lip B hB q
 obtain ⟨K, hK, kd⟩ := ev_der B hB p
 obtain ⟨s, hs, hsep⟩ := apart_of rs hf.nd
 have he2 : e / 2 * 2 = e := Rat.div_mul_cancel (by grind)
 have he3 : 0 < e / 2 := pdiv_ps he (by grind)
 obtain ⟨d3, hd3, k3⟩ := small_of hLp he
 obtain ⟨d4, hd4, k4⟩ := small_of hLq he3
 obtain ⟨d5, hd5, k5⟩ := small_of hK (Rat.mul_pos ha he3)
 obtain ⟨m1, hm1, n1, n2⟩ := min_of hd1 hd2
 obtain ⟨m2, hm2, n3, n4⟩ := min_of hd3 hd4
 obtain ⟨m3, hm3, n5, n6⟩ := min_of hd5 hs
 obtain ⟨m4, hm4, n7, n8⟩ := min_of hm1 hm2
 obtain ⟨m5, hm5, n9, n10⟩ := min_of hm3 hm4
 refine ⟨m5, hm5, fun d x y hdd hx hy hxy hyx => ?_⟩
 have hdn := hyx.nn
 have q3 := k3 d hdn (by grind)
 have q4 := k4 d hdn (by grind)
 have q5 := k5 d hdn (by grind)
 -- at most one root
 have one : ∀ r ∈ rs, x ≤ r → r ≤ y → ∀ z ∈ rs, z ≠ r → (x < z ∧ y < z) ∨ (z < x ∧ z < y) := by
  intro r hr h1 h2 z hz hne
  have hyx2 := hyx.2
  rcases (by grind : z < r ∨ r < z) with h | h
  ·have := hsep z hz r hr h; right; grind
  ·have := hsep r hr z hz h; left; grind
 by_cases hp : Std p x y
 ·have hi := i1 d x y (by grind) hx hy hyx (fun p' r' e' => by injection e' with e1 e2; subst e1; exact hp)
  have e1 : chgs (p :: q :: l) x = chgs (p :: q :: l) y := hi.chg_eq 0
  rw [e1, Int.sub_self]
  symm
  refine cnt_zero fun r hr hxr => ?_
  have hpy : ev p y ≠ 0 := fun h => by
   have := hp.2
   rw [h, sgR_zero.2 rfl] at this
   exact hp.1 (sgR_zero.1 this)
  have hry : r < y := by
   rcases (by grind : r < y ∨ r = y) with h | h
   ·exact h
   ·exact absurd (hf.zero.2 (h ▸ hr)) hpy
  have h1 := prd_turn hxr.1 hry hf.nd hr (one r hr (by grind) hxr.2)
  have h2 := mul_lt' h1 (hf.ww x y)
  have h3 : ev p x * ev p y < 0 := by rw [hf.mul]; grind
  have h4 := sg_mul_neg.2 h3
  rw [← hp.2] at h4
  rcases sgR_three (ev p x) with h | h | h <;> rw [h] at h4 <;> revert h4 <;> decide
 ·have hpx : Bd (Lp * d) (ev p x) := not_std hp (lp x y d hx hy hyx)
  have hpe : Bd e (ev p x) := hpx.more (by grind)
  have hqe : ¬ Bd e (ev q x) := fun h => hnb x hx ⟨hpe, h⟩
  have hq2 : ∀ u, x ≤ u → u ≤ y → Bd (e / 2) (ev q u - ev q x) := fun u h1 h2 => by
   have h3 : Bd d (u - x) := by unfold Bd at hyx ⊢; grind
   have h4 : Bd B u := by unfold Bd at hx hy ⊢; grind
   exact (lq x u d hx h4 h3).more (by grind)
  have hqs : Std q x y := by
   have h1 := hq2 y hxy (by grind)
   unfold Std
   rcases (by unfold Bd at hqe; grind : e < ev q x ∨ ev q x < -e) with h | h
   ·refine ⟨by grind, ?_⟩
    rw [sgR_pos.2 (by grind), sgR_pos.2 (by unfold Bd at h1; grind)]
   ·refine ⟨by grind, ?_⟩
    rw [sgR_neg.2 (by grind), sgR_neg.2 (by unfold Bd at h1; grind)]
  have hi := (i2 d x y (by grind) hx hy hyx (fun p' r' e' => by injection e' with e1 e2; subst e1; exact hqs)).chg_eq 0
  have ht : sgR (ev q x) ≠ 0 := fun h => hqs.1 (sgR_zero.1 h)
  simp only [List.map_cons] at hi
  rw [← hqs.2, chg_one ht, chg_one ht] at hi
  have e1 : chgs (p :: q :: l) x - chgs (p :: q :: l) y = (if sgR (ev q x) * sgR (ev p x) < 0 then 1 else 0) - (if sgR (ev q x) * sgR (ev p y) < 0 then 1 else 0) := by
   unfold chgs
   simp only [List.map_cons]
   rw [← hqs.2, chg_two ht, chg_two ht, hi]
   omega
  rw [e1]
  -- the change between two places
  have mono : ∀ u v, x ≤ u → u < v → v ≤ y → (e < ev q x → ev p u < ev p v) ∧ (ev q x < -e → ev p v < ev p u) := by
   intro u v h1 h2 h3
   have hu : Bd B u := by unfold Bd at hx hy ⊢; grind
   have hv : Bd B v := by unfold Bd at hx hy ⊢; grind
   have h4 := kd u v (v - u) hu hv (by unfold Bd; grind)
   rw [hd u] at h4
   have h5 := hq2 u h1 (by grind)
   have h6 : K * (v - u) ≤ K * d := mul_le_l (by have := hyx.2; grind) hK
   have h7 : K * (v - u) < a * (e / 2) := by grind
   have h8 : 0 < (v - u) * (a * (e / 2) - K * (v - u)) := Rat.mul_pos (by grind) (by grind)
   constructor
   ·intro h
    have h9 : e / 2 ≤ ev q u := by unfold Bd at h5; grind
    have h10 : 0 ≤ (v - u) * (a * (ev q u - e / 2)) := mul_nn' (by grind) (mul_nn' (by grind) (by grind))
    unfold Bd at h4
    grind
   ·intro h
    have h9 : ev q u ≤ -(e / 2) := by unfold Bd at h5; grind
    have h10 : 0 ≤ (v - u) * (a * (-(e / 2) - ev q u)) := mul_nn' (by grind) (mul_nn' (by grind) (by grind))
    unfold Bd at h4
    grind
  have keep : (∀ r ∈ rs, ¬ (x < r ∧ r ≤ y)) → ev p x ≠ 0 → 0 < ev p x * ev p y := by
   intro h h0
   have h1 := prd_same (x := x) (y := y) (rs := rs) (fun r hr => by
    have h2 := h r hr
    have h3 : r ≠ x := fun e => h0 (hf.zero.2 (e ▸ hr))
    rcases (by grind : y < r ∨ r < x) with h | h
    ·left; grind
    ·right; grind)
   rw [hf.mul]
   exact Rat.mul_pos (hf.ww x y) h1
  have nstd : 0 < ev p x * ev p y → False := by
   intro h
   apply hp
   refine ⟨fun h0 => by rw [h0] at h; grind, ?_⟩
   rcases (by grind : ev p x < 0 ∨ ev p x = 0 ∨ 0 < ev p x) with k | k | k
   ·rcases (by grind : ev p y < 0 ∨ 0 ≤ ev p y) with j | j
    ·rw [sgR_neg.2 k, sgR_neg.2 j]
    ·have := mul_nn' (by grind : 0 ≤ -ev p x) j; grind
   ·rw [k] at h; grind
   ·rcases (by grind : ev p y ≤ 0 ∨ 0 < ev p y) with j | j
    ·have := mul_nn' (by grind : 0 ≤ ev p x) (by grind : 0 ≤ -ev p y); grind
    ·rw [sgR_pos.2 k, sgR_pos.2 j]
  by_cases hr : ∃ r ∈ rs, x < r ∧ r ≤ y
  ·obtain ⟨r, hr, h1, h2⟩ := hr
   have hz : ev p r = 0 := hf.zero.2 hr
   have hcn : cnt rs x y = 1 := cnt_one hf.nd hr ⟨h1, h2⟩ (fun z hz hne h => by
    rcases one r hr (by grind) h2 z hz hne with k | k
    ·grind
    ·grind)
   rw [hcn]
   rcases (by unfold Bd at hqe; grind : e < ev q x ∨ ev q x < -e) with h | h
   ·have m1 := (mono x r (by grind) h1 h2).1 h
    have hy0 : 0 ≤ ev p y := by
     rcases (by grind : r = y ∨ r < y) with k | k
     ·rw [← k, hz]; grind
     ·have := (mono r y (by grind) k (by grind)).1 h; grind
    have t1 : sgR (ev q x) = 1 := sgR_pos.2 (by grind)
    have t2 : sgR (ev p x) = -1 := sgR_neg.2 (by grind)
    rw [t1, t2, if_pos (by decide), if_neg (fun h9 => by
     rcases (by grind : ev p y = 0 ∨ 0 < ev p y) with k | k
     ·rw [sgR_zero.2 k] at h9; revert h9; decide
     ·rw [sgR_pos.2 k] at h9; revert h9; decide)]
    rfl
   ·have m1 := (mono x r (by grind) h1 h2).2 h
    have hy0 : ev p y ≤ 0 := by
     rcases (by grind : r = y ∨ r < y) with k | k
     ·rw [← k, hz]; grind
     ·have := (mono r y (by grind) k (by grind)).2 h; grind
    have t1 : sgR (ev q x) = -1 := sgR_neg.2 (by grind)
    have t2 : sgR (ev p x) = 1 := sgR_pos.2 (by grind)
    rw [t1, t2, if_pos (by decide), if_neg (fun h9 => by
     rcases (by grind : ev p y = 0 ∨ ev p y < 0) with k | k
     ·rw [sgR_zero.2 k] at h9; revert h9; decide
     ·rw [sgR_neg.2 k] at h9; revert h9; decide)]
    rfl
  ·have hr' : ∀ r ∈ rs, ¬ (x < r ∧ r ≤ y) := fun r h1 h2 => hr ⟨r, h1, h2⟩
   rw [cnt_zero hr']
   have h0 : ev p x = 0 := Classical.byContradiction fun h0 => nstd (keep hr' h0)
   rw [h0, sgR_zero.2 rfl, if_neg (by simp)]
   rcases (by grind : x = y ∨ x < y) with k | k
   ·rw [← k, h0, sgR_zero.2 rfl, if_neg (by simp)]; rfl
   ·rcases (by unfold Bd at hqe; grind : e < ev q x ∨ ev q x < -e) with h | h
    ·have m1 := (mono x y (by grind) k (by grind)).1 h
     rw [sgR_pos.2 (by grind : 0 < ev q x), sgR_pos.2 (by grind : 0 < ev p y), if_neg (by decide)]; rfl
    ·have m1 := (mono x y (by grind) k (by grind)).2 h
     rw [sgR_neg.2 (by grind : ev q x < 0), sgR_neg.2 (by grind : ev p y < 0), if_neg (by decide)]; rfl
theorem arch (z : Rat) : ∃ n : Nat, z ≤ (n : Rat) := by
 refine ⟨z.ceil.toNat, ?_⟩
 have h1 : z ≤ (z.ceil : Rat) := Rat.le_ceil
 have h2 : ((z.ceil : Int) : Rat) ≤ ((z.ceil.toNat : Int) : Rat) := by
  have : z.ceil ≤ (z.ceil.toNat : Int) := Int.self_le_toNat _
  exact_mod_cast this
 exact Rat.le_trans h1 h2
theorem bd_mid {B x y u : Rat} (hx : Bd B x) (hy : Bd B y) (h1 : x ≤ u) (h2 : u ≤ y) : Bd B u := by unfold Bd at *; grind
theorem steps {B d0 t : Rat} {V : Rat → Int} {rs : List Rat} (ht : 0 ≤ t) (htd : t ≤ d0) (h : ∀ x y, Bd B x → Bd B y → x ≤ y → Bd d0 (y - x) → V x - V y = cnt rs x y) :
  ∀ (n : Nat) (x : Rat), Bd B x → Bd B (x + (n : Rat) * t) → V x - V (x + (n : Rat) * t) = cnt rs x (x + (n : Rat) * t)
 | 0, x, _, _ => by
   have e : x + ((0 : Nat) : Rat) * t = x := by
    have : ((0 : Nat) : Rat) = 0 := by simp
    rw [this]; grind
   rw [e, cnt_zero (fun r _ h => by grind)]; omega
 | n + 1, x, hx, hy => by
   have e : x + ((n + 1 : Nat) : Rat) * t = (x + (n : Rat) * t) + t := by
    have : ((n + 1 : Nat) : Rat) = (n : Rat) + 1 := by simp
    rw [this]; grind
   rw [e] at hy ⊢
   have hn : 0 ≤ (n : Rat) := by exact_mod_cast Nat.zero_le n
   have h0 : 0 ≤ (n : Rat) * t := mul_nn' hn ht
   have hm : Bd B (x + (n : Rat) * t) := bd_mid hx hy (by grind) (by grind)
   have h1 := steps ht htd h n x hx hm
   have h2 := h (x + (n : Rat) * t) (x + (n : Rat) * t + t) hm hy (by grind) (by unfold Bd; grind)
   rw [cnt_add (y := x + (n : Rat) * t) (by grind) (by grind)]
   omega
theorem sturm_law {B : Rat} (hB : 0 ≤ B) {p : Ply} {l : List Ply} (hc : Chn B (p :: l)) {rs : List Rat} {w : Rat → Rat} (hf : Fac p rs w) (hd : ∀ q l', l = q :: l' → ∃ a, 0 < a ∧ ∀ x, evd p x = a * ev q x) {x y : Rat} (hx : Bd B x) (hy : Bd B y) (hxy : x ≤ y) :
  chgs (p :: l) x - chgs (p :: l) y = cnt rs x y := by
 cases l with
 | nil =>
   have h1 : ∀ z, chgs [p] z = 0 := fun z => by unfold chgs; simp only [List.map_cons, List.map_nil]; rw [chg_cons, if_neg (by simp)]; rfl
   obtain ⟨e, he, h2⟩ := hc
   rw [h1, h1, cnt_zero (fun r hr h => h2 r (bd_mid hx hy (by grind) h.2) (by rw [hf.zero.2 hr]; unfold Bd; grind))]
   rfl
 | cons q l =>
   obtain ⟨a, ha, hd'⟩ := hd q l rfl
   obtain ⟨d0, hd0, hp⟩ := piece B hB hc hf ha hd'
   obtain ⟨n, hn⟩ := arch ((y - x) / d0)
   have hn0 : 0 ≤ (n : Rat) := by exact_mod_cast Nat.zero_le n
   have e1 : ((n + 1 : Nat) : Rat) = (n : Rat) + 1 := by simp
   have e2 : (y - x) / d0 * d0 = y - x := Rat.div_mul_cancel (by grind)
   have e3 : (y - x) / ((n : Rat) + 1) * ((n : Rat) + 1) = y - x := Rat.div_mul_cancel (by grind)
   have h3 := mul_le_l hn (by grind : 0 ≤ d0)
   have ht0 : 0 ≤ (y - x) / ((n : Rat) + 1) := by
    rcases (by grind : 0 ≤ (y - x) / ((n : Rat) + 1) ∨ (y - x) / ((n : Rat) + 1) < 0) with h | h
    ·exact h
    ·have := mul_lt' h (by grind : 0 < (n : Rat) + 1); grind
   have htd : (y - x) / ((n : Rat) + 1) ≤ d0 := by
    rcases (by grind : (y - x) / ((n : Rat) + 1) ≤ d0 ∨ d0 < (y - x) / ((n : Rat) + 1)) with h | h
    ·exact h
    ·have := mul_lt' h (by grind : 0 < (n : Rat) + 1); grind
   have h4 := steps (V := chgs (p :: q :: l)) (rs := rs) (B := B) ht0 htd (fun x y hx hy hxy hb => hp d0 x y (by grind) hx hy hxy hb) (n + 1) x hx
   have e4 : x + ((n + 1 : Nat) : Rat) * ((y - x) / ((n : Rat) + 1)) = y := by rw [e1]; grind
   rw [e4] at h4
   exact h4 hy
def PF (f : Rat → Rat) : Prop := ∃ p : Ply, ∀ x, f x = ev p x
def addL : Ply → Ply → Ply
 | [], q => q
 | p, [] => p
 | a :: p, b :: q => (a + b) :: addL p q
theorem ev_nil (x : Rat) : ev [] x = 0 := rfl
theorem ev_add : ∀ (p q : Ply) (x : Rat), ev (addL p q) x = ev p x + ev q x
 | [], q, x => by unfold addL; rw [ev_nil]; grind
 | a :: p, [], x => by unfold addL; rw [ev_nil]; grind
 | a :: p, b :: q, x => by unfold addL; rw [ev_cons, ev_cons, ev_cons, ev_add p q x]; grind
def mulC (c : Rat) (p : Ply) : Ply := p.map (c * ·)
theorem ev_mulC (c : Rat) : ∀ (p : Ply) (x : Rat), ev (mulC c p) x = c * ev p x
 | [], x => by show (0 : Rat) = c * 0; grind
 | a :: p, x => by
   have := ev_mulC c p x
   show ev (mulC c p) x * x + c * a = _
   rw [this, ev_cons]; grind
def mulL : Ply → Ply → Ply
 | [], _ => []
 | a :: p, q => addL (mulC a q) (0 :: mulL p q)
theorem ev_mul : ∀ (p q : Ply) (x : Rat), ev (mulL p q) x = ev p x * ev q x
 | [], q, x => by unfold mulL; rw [ev_nil]; grind
 | a :: p, q, x => by unfold mulL; rw [ev_add, ev_mulC, ev_cons, ev_mul p q x, ev_cons]; grind
theorem PF.add {f g : Rat → Rat} (h1 : PF f) (h2 : PF g) : PF fun x => f x + g x := by
 obtain ⟨p, hp⟩ := h1
 obtain ⟨q, hq⟩ := h2
 exact ⟨addL p q, fun x => by rw [ev_add, ← hp, ← hq]⟩
theorem PF.mul {f g : Rat → Rat} (h1 : PF f) (h2 : PF g) : PF fun x => f x * g x := by
 obtain ⟨p, hp⟩ := h1
 obtain ⟨q, hq⟩ := h2
 exact ⟨mulL p q, fun x => by rw [ev_mul, ← hp, ← hq]⟩
theorem PF.con (c : Rat) : PF fun _ => c := ⟨[c], fun x => by rw [ev_cons, ev_nil]; grind⟩
theorem PF.ev (p : Ply) : PF (ev p) := ⟨p, fun _ => rfl⟩
theorem PF.scl {f : Rat → Rat} (c : Rat) (h : PF f) : PF fun x => c * f x := (PF.con c).mul h
def trimL : Ply → Ply
 | [] => []
 | c :: p => match trimL p with
   | [] => if c = 0 then [] else [c]
   | d :: q => c :: d :: q
theorem ev_trim : ∀ (p : Ply) (x : Rat), ev (trimL p) x = ev p x
 | [], x => rfl
 | c :: p, x => by
   have h := ev_trim p x
   unfold trimL
   split
   ·rename_i e
    rw [e, ev_nil] at h
    by_cases h0 : c = 0
    ·rw [if_pos h0, ev_nil, ev_cons, ← h, h0]; grind
    ·rw [if_neg h0, ev_cons, ev_cons, ev_nil, ← h]
   ·rename_i d q e
    rw [e] at h
    rw [ev_cons, h, ev_cons]
def Tr (p : Ply) : Prop := ∀ c, p.getLast? = some c → c ≠ 0
theorem trim_tr : ∀ p : Ply, Tr (trimL p)
 | [] => fun c h => by simp [trimL] at h
 | c :: p => by
   have h := trim_tr p
   unfold trimL
   split
   ·by_cases h0 : c = 0
    ·rw [if_pos h0]; intro d hd; simp at hd
    ·rw [if_neg h0]; intro d hd; simp at hd; rw [← hd]; exact h0
   ·rename_i d q e
    rw [e] at h
    intro z hz
    rw [List.getLast?_cons_cons] at hz
    exact h z hz
theorem trim_id : ∀ {p : Ply}, Tr p → trimL p = p
 | [], _ => rfl
 | [c], h => by
   have := h c rfl
   simp [trimL, this]
 | c :: d :: q, h => by
   have h1 : Tr (d :: q) := fun z hz => h z (by rw [List.getLast?_cons_cons]; exact hz)
   have h2 := trim_id h1
   show (match trimL (d :: q) with | [] => if c = 0 then [] else [c] | d' :: q' => c :: d' :: q') = _
   rw [h2]
theorem trim_len : ∀ p : Ply, (trimL p).length ≤ p.length
 | [] => Nat.le_refl _
 | c :: p => by
   have h := trim_len p
   unfold trimL
   split
   ·split <;> simp
   ·rename_i d q e
    rw [e] at h
    simp only [List.length_cons] at h ⊢
    omega
def dvL : Int → Ply → Ply
 | _, [] => []
 | k, c :: p => ((k : Rat) * c) :: dvL (k + 1) p
theorem ev_dv : ∀ (p : Ply) (k : Int) (x : Rat), ev (dvL k p) x = (k : Rat) * ev p x + x * evd p x
 | [], k, x => by show (0 : Rat) = (k : Rat) * 0 + x * 0; grind
 | c :: p, k, x => by
   have h := ev_dv p (k + 1) x
   have e : (((k + 1 : Int)) : Rat) = (k : Rat) + 1 := by simp
   unfold dvL
   rw [ev_cons, h, ev_cons, evd_cons, e]; grind
def deriveL (p : Ply) : Ply := trimL (dvL 1 p.tail)
theorem ev_derive (p : Ply) (x : Rat) : ev (deriveL p) x = evd p x := by
 unfold deriveL
 rw [ev_trim]
 cases p with
 | nil => rfl
 | cons c p =>
   have h := ev_dv p 1 x
   have e : (((1 : Int)) : Rat) = 1 := by simp
   rw [evd_cons]
   show ev (dvL 1 p) x = _
   rw [h, e]; grind
def subL (b : Rat) : Nat → Ply → Ply → Ply
 | _, rest, [] => rest
 | 0, r :: rest, c :: q => (r - b * c) :: subL b 0 rest q
 | k + 1, r :: rest, c :: q => r :: subL b k rest (c :: q)
 | _, [], _ :: _ => []
def pw' (x : Rat) : Nat → Rat
 | 0 => 1
 | n + 1 => pw' x n * x
theorem ev_sub (b : Rat) : ∀ (k : Nat) (rest q : Ply) (x : Rat), k + q.length ≤ rest.length → ev (subL b k rest q) x = ev rest x - b * pw' x k * ev q x
 | k, rest, [], x, _ => by
   have : subL b k rest [] = rest := by cases k <;> cases rest <;> rfl
   rw [this, ev_nil]; grind
 | 0, r :: rest, c :: q, x, h => by
   have := ev_sub b 0 rest q x (by simp at h; omega)
   unfold subL
   rw [ev_cons, this, ev_cons, ev_cons]
   show _ = _ - b * 1 * _
   have e : pw' x 0 = 1 := rfl
   rw [e]; grind
 | k + 1, r :: rest, c :: q, x, h => by
   have := ev_sub b k rest (c :: q) x (by simp at h ⊢; omega)
   have e : pw' x (k + 1) = pw' x k * x := rfl
   have e2 : ev (subL b (k + 1) (r :: rest) (c :: q)) x = ev (subL b k rest (c :: q)) x * x + r := rfl
   rw [e2, this, e, ev_cons r rest]
   generalize ev (c :: q) x = u
   generalize ev rest x = v
   grind
 | 0, [], c :: q, x, h => by simp at h
 | k + 1, [], c :: q, x, h => by simp at h
theorem sub_len (b : Rat) : ∀ (k : Nat) (rest q : Ply), k + q.length ≤ rest.length → (subL b k rest q).length = rest.length
 | k, rest, [], _ => by
   have : subL b k rest [] = rest := by cases k <;> cases rest <;> rfl
   rw [this]
 | 0, r :: rest, c :: q, h => by
   have := sub_len b 0 rest q (by simp at h; omega)
   unfold subL
   simp [this]
 | k + 1, r :: rest, c :: q, h => by
   have := sub_len b k rest (c :: q) (by simp at h ⊢; omega)
   unfold subL
   simp [this]
 | 0, [], c :: q, h => by simp at h
 | k + 1, [], c :: q, h => by simp at h
theorem sub_last (b : Rat) : ∀ (k : Nat) (rest q : Ply) (c d : Rat), k + q.length = rest.length → rest.getLast? = some c → q.getLast? = some d → (subL b k rest q).getLast? = some (c - b * d)
 | 0, [], [], c, d, _, h1, _ => by simp at h1
 | k, rest, [], c, d, _, _, h2 => by simp at h2
 | 0, r :: rest, a :: q, c, d, h, h1, h2 => by
   have hl : q.length = rest.length := by simp at h; omega
   cases q with
   | nil =>
     have hr : rest = [] := List.eq_nil_of_length_eq_zero (by simpa using hl.symm)
     subst hr
     simp at h1 h2
     subst h1; subst h2
     simp [subL]
   | cons a2 q =>
     cases rest with
     | nil => simp at hl
     | cons r2 rest =>
       rw [List.getLast?_cons_cons] at h1 h2
       have := sub_last b 0 (r2 :: rest) (a2 :: q) c d (by simp at hl ⊢; omega) h1 h2
       show ((r - b * a) :: subL b 0 (r2 :: rest) (a2 :: q)).getLast? = _
       rw [List.getLast?_cons, this]; rfl
 | k + 1, r :: rest, a :: q, c, d, h, h1, h2 => by
   have hl : k + (a :: q).length = rest.length := by simp at h ⊢; omega
   cases rest with
   | nil => simp at hl
   | cons r2 rest =>
     rw [List.getLast?_cons_cons] at h1
     have := sub_last b k (r2 :: rest) (a :: q) c d hl h1 h2
     show (r :: subL b k (r2 :: rest) (a :: q)).getLast? = _
     rw [List.getLast?_cons, this]; rfl
 | k + 1, [], a :: q, c, d, h, _, _ => by simp at h
theorem trim_short {p : Ply} (h : p.getLast? = some 0) : (trimL p).length < p.length := by
 induction p with
 | nil => simp at h
 | cons c p ih =>
   cases p with
   | nil =>
     simp at h
     subst h
     simp [trimL]
   | cons d q =>
     rw [List.getLast?_cons_cons] at h
     have := ih h
     show (match trimL (d :: q) with | [] => if c = 0 then [] else [c] | d' :: q' => c :: d' :: q').length < _
     split
     ·split <;> simp
     ·rename_i e
      rw [e] at this
      simp only [List.length_cons] at this ⊢
      omega
def leadB (rest q : Ply) : Rat := (rest.getLast?.getD 0) / (q.getLast?.getD 0)
def divL (q : Ply) : Nat → Ply → Ply → Ply × Ply
 | 0, by_, rest => (by_, rest)
 | n + 1, by_, rest => if q.length ≤ rest.length then divL q n (by_.set (rest.length - q.length) (leadB rest q)) (trimL (subL (leadB rest q) (rest.length - q.length) rest q)) else (by_, rest)
theorem ev_set (x : Rat) : ∀ (p : Ply) (k : Nat) (b : Rat), p[k]? = some 0 → ev (p.set k b) x = ev p x + b * pw' x k
 | [], k, b, h => by simp at h
 | a :: p, 0, b, h => by
   simp at h
   subst h
   show ev p x * x + b = ev p x * x + 0 + b * 1
   grind
 | a :: p, k + 1, b, h => by
   have := ev_set x p k b (by simpa using h)
   show ev (p.set k b) x * x + a = ev p x * x + a + b * (pw' x k * x)
   rw [this]; grind
theorem div_ok {q : Ply} (hq0 : q ≠ []) (hq : Tr q) : ∀ (n : Nat) (by_ rest : Ply), rest.length < n + q.length → Tr rest → (∀ j, j + q.length ≤ rest.length → by_[j]? = some 0) →
  (∀ x, ev by_ x * ev q x + ev rest x = ev (divL q n by_ rest).1 x * ev q x + ev (divL q n by_ rest).2 x) ∧ (divL q n by_ rest).2.length < q.length ∧ Tr (divL q n by_ rest).2 ∧ (divL q n by_ rest).1.length = by_.length
 | 0, by_, rest, h, hr, _ => ⟨fun x => rfl, by show rest.length < q.length; omega, hr, rfl⟩
 | n + 1, by_, rest, h, hr, hb => by
   unfold divL
   by_cases hle : q.length ≤ rest.length
   ·rw [if_pos hle]
    have hpos : 0 < q.length := List.length_pos_iff.2 hq0
    obtain ⟨d, hd⟩ : ∃ d, q.getLast? = some d := ⟨_, List.getLast?_eq_some_getLast hq0⟩
    have hr0 : rest ≠ [] := List.length_pos_iff.1 (by omega)
    obtain ⟨c, hc⟩ : ∃ c, rest.getLast? = some c := ⟨_, List.getLast?_eq_some_getLast hr0⟩
    have hd0 : d ≠ 0 := hq d hd
    have hB : leadB rest q = c / d := by unfold leadB; rw [hc, hd]; rfl
    have hBd : c / d * d = c := Rat.div_mul_cancel hd0
    generalize hk : rest.length - q.length = k
    have hkl : k + q.length = rest.length := by omega
    have hlast := sub_last (c / d) k rest q c d hkl hc hd
    have hz : c - c / d * d = 0 := by grind
    rw [hz] at hlast
    have hsh := trim_short hlast
    rw [sub_len (c / d) k rest q (by omega)] at hsh
    have hbk := hb k (by omega)
    rw [hB]
    obtain ⟨i1, i2, i3, i4⟩ := div_ok hq0 hq n (by_.set k (c / d)) (trimL (subL (c / d) k rest q)) (by omega) (trim_tr _) (fun j hj => by
     have hjk : j ≠ k := by omega
     rw [List.getElem?_set_ne (Ne.symm hjk)]
     exact hb j (by omega))
    refine ⟨fun x => ?_, i2, i3, by rw [i4, List.length_set]⟩
    rw [← i1 x, ev_set x by_ k (c / d) hbk, ev_trim, ev_sub (c / d) k rest q x (by omega)]
    grind
   ·rw [if_neg hle]
    exact ⟨fun x => rfl, by show rest.length < q.length; omega, hr, rfl⟩
theorem at_zero {p : Ply} (h : ∀ x, x ≠ 0 → ev p x = 0) : ev p 0 = 0 := by
 obtain ⟨L, hL, hl⟩ := ev_lip 1 (by grind) p
 refine Classical.byContradiction fun h0 => ?_
 obtain ⟨M, hM, hm⟩ := Bd.self (ev p 0)
 have key : ∀ e, 0 < e → Bd e (ev p 0) := by
  intro e he
  obtain ⟨d, hd, hs⟩ := small_of hL he
  obtain ⟨c, hc, c1, c2⟩ := min_of hd (by grind : (0 : Rat) < 1)
  have h1 := hl c 0 c (by unfold Bd; grind) (by unfold Bd; grind) (by unfold Bd; grind)
  rw [h c (by grind)] at h1
  have h2 := hs c (by grind) c1
  have e1 : ev p 0 - 0 = ev p 0 := by grind
  rw [e1] at h1
  exact h1.more (by grind)
 rcases (by grind : 0 < ev p 0 ∨ ev p 0 < 0) with h1 | h1
 ·have := (key (ev p 0 / 2) (pdiv_ps h1 (by grind))).2
  have e : ev p 0 / 2 * 2 = ev p 0 := Rat.div_mul_cancel (by grind)
  grind
 ·have := (key (-(ev p 0) / 2) (pdiv_ps (by grind) (by grind))).1
  have e : -(ev p 0) / 2 * 2 = -(ev p 0) := Rat.div_mul_cancel (by grind)
  grind
theorem tails_eq {c d : Rat} {p q : Ply} (h : ∀ x, ev (c :: p) x = ev (d :: q) x) : c = d ∧ ∀ x, ev p x = ev q x := by
 have h0 := h 0
 rw [ev_cons, ev_cons] at h0
 have hcd : c = d := by grind
 refine ⟨hcd, ?_⟩
 have hz : ∀ x, x ≠ 0 → ev (addL p (mulC (-1) q)) x = 0 := by
  intro x hx
  have h1 := h x
  rw [ev_cons, ev_cons, hcd] at h1
  rw [ev_add, ev_mulC]
  have h2 : (ev p x - ev q x) * x = 0 := by grind
  rcases Rat.mul_eq_zero.1 h2 with h3 | h3
  ·grind
  ·exact absurd h3 hx
 intro x
 by_cases hx : x = 0
 ·have := at_zero hz
  rw [ev_add, ev_mulC] at this
  rw [hx]; grind
 ·have := hz x hx
  rw [ev_add, ev_mulC] at this
  grind
theorem Tr.tail {c : Rat} {p : Ply} (h : Tr (c :: p)) : Tr p := by
 cases p with
 | nil => intro z hz; simp at hz
 | cons d q => intro z hz; exact h z (by rw [List.getLast?_cons_cons]; exact hz)
theorem ev_inj : ∀ {p q : Ply}, Tr p → Tr q → (∀ x, ev p x = ev q x) → p = q
 | [], [], _, _, _ => rfl
 | c :: p, d :: q, hp, hq, h => by
   obtain ⟨h1, h2⟩ := tails_eq h
   rw [h1, ev_inj hp.tail hq.tail h2]
 | c :: p, [], hp, hq, h => by
   obtain ⟨h1, h2⟩ := tails_eq (d := 0) (q := []) (fun x => by rw [h x, ev_cons, ev_nil]; grind)
   have h3 := ev_inj hp.tail (q := []) (fun z hz => by simp at hz) h2
   subst h3; subst h1
   exact absurd rfl (hp 0 rfl)
 | [], d :: q, hp, hq, h => by
   obtain ⟨h1, h2⟩ := tails_eq (c := 0) (p := []) (fun x => by rw [← h x, ev_cons, ev_nil]; grind)
   have h3 := ev_inj (p := []) (fun z hz => by simp at hz) hq.tail h2
   subst h3; subst h1
   exact absurd rfl (hq 0 rfl)
theorem add_len : ∀ {p q : Ply}, p.length < q.length → (addL p q).length = q.length ∧ (addL p q).getLast? = q.getLast?
 | [], q, _ => by unfold addL; exact ⟨rfl, rfl⟩
 | a :: p, [], h => by simp at h
 | a :: p, b :: q, h => by
   have hl : p.length < q.length := by simpa using h
   obtain ⟨h1, h2⟩ := add_len hl
   unfold addL
   refine ⟨by simp [h1], ?_⟩
   cases q with
   | nil => simp at hl
   | cons c q =>
     rw [List.getLast?_cons, h2, List.getLast?_cons_cons]
     cases hq : (c :: q).getLast? with
     | none => simp at hq
     | some z => rfl
theorem add_zero1 : ∀ {p : Ply}, p ≠ [] → addL p [0] = p
 | [], h => absurd rfl h
 | a :: p, _ => by
   unfold addL
   have e : addL p [] = p := by cases p <;> rfl
   rw [e]
   have : a + 0 = a := by grind
   rw [this]
theorem pmul_len : ∀ {f a : Ply} {c d : Rat}, f.getLast? = some c → a.getLast? = some d → (mulL f a).length + 1 = f.length + a.length ∧ (mulL f a).getLast? = some (c * d)
 | [], a, c, d, h, _ => by simp at h
 | [b], a, c, d, h1, h2 => by
   simp at h1
   subst h1
   have ha : mulC b a ≠ [] := fun e => by
    have : a = [] := by unfold mulC at e; simpa using e
    rw [this] at h2; simp at h2
   show (addL (mulC b a) [0]).length + 1 = _ ∧ (addL (mulC b a) [0]).getLast? = _
   rw [add_zero1 ha]
   unfold mulC
   refine ⟨by simp; omega, ?_⟩
   rw [List.getLast?_map, h2]; rfl
 | b :: b2 :: f, a, c, d, h1, h2 => by
   rw [List.getLast?_cons_cons] at h1
   obtain ⟨i1, i2⟩ := pmul_len h1 h2
   have hl : (mulC b a).length < (0 :: mulL (b2 :: f) a).length := by
    unfold mulC
    simp at i1 ⊢
    omega
   obtain ⟨j1, j2⟩ := add_len hl
   show (addL (mulC b a) (0 :: mulL (b2 :: f) a)).length + 1 = _ ∧ (addL (mulC b a) (0 :: mulL (b2 :: f) a)).getLast? = _
   refine ⟨by rw [j1]; simp at i1 ⊢; omega, ?_⟩
   rw [j2, List.getLast?_cons, i2]; rfl
theorem rest_nil {u : Ply} {a rest : Ply} (ha : Tr a) (ha0 : a ≠ []) (hr : Tr rest) (hl : rest.length < a.length) (h : ∀ x, ev u x * ev a x = ev rest x) : rest = [] ∧ ∀ x, ev u x = 0 := by
 obtain ⟨d, hd⟩ : ∃ d, a.getLast? = some d := ⟨_, List.getLast?_eq_some_getLast ha0⟩
 cases hu : trimL u with
 | nil =>
   have hz : ∀ x, ev u x = 0 := fun x => by rw [← ev_trim, hu]; rfl
   refine ⟨?_, hz⟩
   exact ev_inj hr (fun z hz => by simp at hz) (fun x => by rw [← h x, hz x, ev_nil]; grind)
 | cons b t =>
   exfalso
   have htr := trim_tr u
   rw [hu] at htr
   obtain ⟨c, hc⟩ : ∃ c, (b :: t).getLast? = some c := ⟨_, List.getLast?_eq_some_getLast (by simp)⟩
   obtain ⟨m1, m2⟩ := pmul_len hc hd
   have hm : Tr (mulL (b :: t) a) := fun z hz => by
    rw [m2] at hz
    injection hz with hz
    rw [← hz]
    intro e
    rcases Rat.mul_eq_zero.1 e with h3 | h3
    ·exact htr c hc h3
    ·exact ha d hd h3
   have := ev_inj hm hr (fun x => by rw [ev_mul, ← hu, ev_trim, h x])
   rw [← this] at hl
   simp at m1
   omega
def absQ' (x : Rat) : Rat := if x < 0 then -x else x
theorem absQ'_pos {x : Rat} (h : x ≠ 0) : 0 < absQ' x := by unfold absQ'; grind
def scaledL (p : Ply) : Ply := p.map fun c => c / absQ' (p.getLast?.getD 0)
theorem ev_div (c : Rat) (hc : c ≠ 0) : ∀ (p : Ply) (x : Rat), c * ev (p.map fun a => a / c) x = ev p x
 | [], x => by show c * (0 : Rat) = 0; grind
 | a :: p, x => by
   have := ev_div c hc p x
   show c * (ev (p.map fun a => a / c) x * x + a / c) = ev p x * x + a
   have e : a / c * c = a := Rat.div_mul_cancel hc
   grind
theorem scaled_ok {p : Ply} (hp : Tr p) (h0 : p ≠ []) : ∃ a, 0 < a ∧ (∀ x, ev p x = a * ev (scaledL p) x) ∧ Tr (scaledL p) ∧ (scaledL p).length = p.length := by
 obtain ⟨d, hd⟩ : ∃ d, p.getLast? = some d := ⟨_, List.getLast?_eq_some_getLast h0⟩
 have hd0 := hp d hd
 have ha := absQ'_pos hd0
 have e : scaledL p = p.map fun c => c / absQ' d := by unfold scaledL; rw [hd]; rfl
 refine ⟨absQ' d, ha, fun x => by rw [e, ev_div _ (by grind)], ?_, by unfold scaledL; simp⟩
 rw [e]
 intro z hz
 rw [List.getLast?_map, hd] at hz
 simp at hz
 rw [← hz]
 intro h9
 have : d / absQ' d * absQ' d = d := Rat.div_mul_cancel (by grind)
 rw [h9] at this
 grind
def zerosL (n : Nat) : Ply := List.replicate n 0
theorem ev_zeros (x : Rat) : ∀ n, ev (zerosL n) x = 0
 | 0 => rfl
 | n + 1 => by
   have := ev_zeros x n
   show ev (zerosL n) x * x + 0 = 0
   rw [this]; grind
def divideL (p q : Ply) : Ply × Ply := divL q ((trimL p).length + 1) (zerosL ((trimL p).length + 1 - q.length)) (trimL p)
theorem divide_ok (p : Ply) {q : Ply} (hq0 : q ≠ []) (hq : Tr q) : (∀ x, ev p x = ev (divideL p q).1 x * ev q x + ev (divideL p q).2 x) ∧ (divideL p q).2.length < q.length ∧ Tr (divideL p q).2 := by
 have hpos : 0 < q.length := List.length_pos_iff.2 hq0
 obtain ⟨h1, h2, h3, -⟩ := div_ok hq0 hq ((trimL p).length + 1) (zerosL ((trimL p).length + 1 - q.length)) (trimL p) (by omega) (trim_tr p) (fun j hj => by
  unfold zerosL
  rw [List.getElem?_replicate, if_pos (by omega)])
 refine ⟨fun x => ?_, h2, h3⟩
 have := h1 x
 rw [ev_zeros, ev_trim] at this
 show ev p x = ev (divideL p q).1 x * ev q x + ev (divideL p q).2 x
 unfold divideL
 rw [← this]; grind
def NB (B : Rat) (f g : Rat → Rat) : Prop := ∃ e, 0 < e ∧ ∀ x, Bd B x → ¬ (Bd e (f x) ∧ Bd e (g x))
theorem NB.far {B : Rat} {p : Ply} (h : NB B (ev p) (ev [])) : Far B p := by
 obtain ⟨e, he, h1⟩ := h
 exact ⟨e, he, fun x hx hb => h1 x hx ⟨hb, by rw [ev_nil]; unfold Bd; grind⟩⟩
theorem NB.next {B : Rat} (hB : 0 ≤ B) {f s r g : Rat → Rat} {a b : Rat} (hg : PF g) (ha : 0 < a) (hb : 0 < b) {q : Rat → Rat} (hq : ∀ x, q x = b * s x) (hf : ∀ x, f x = g x * s x + a * r x ∨ f x = g x * s x - a * r x) (h : NB B f q) : NB B s r := by
 obtain ⟨e, he, h1⟩ := h
 obtain ⟨p, hp⟩ := hg
 obtain ⟨M, hM, hm⟩ := ev_bd B hB p
 obtain ⟨d1, hd1, k1⟩ := small_of (L := M + a) (e := e) (by grind) he
 obtain ⟨d2, hd2, k2⟩ := small_of (L := b) (e := e) (by grind) he
 obtain ⟨c, hc, c1, c2⟩ := min_of hd1 hd2
 refine ⟨c, hc, fun x hx hb' => h1 x hx ⟨?_, ?_⟩⟩
 ·have h2 : Bd (M * c) (g x * s x) := by rw [hp]; exact (hm x hx).mul hb'.1
  have h3 : Bd (a * c) (a * r x) := (show Bd a a by unfold Bd; grind).mul hb'.2
  have h4 := k1 c (by grind) c1
  have h5 : M * c + a * c ≤ e := by grind
  rcases hf x with h | h
  ·rw [h]; exact (h2.add h3).more h5
  ·rw [h]; exact (h2.sub h3).more h5
 ·rw [hq]
  have h3 : Bd (b * c) (b * s x) := (show Bd b b by unfold Bd; grind).mul hb'.1
  have h4 := k2 c (by grind) c2
  exact h3.more (by grind)
def negL (p : Ply) : Ply := p.map fun c => -c
theorem ev_neg : ∀ (p : Ply) (x : Rat), ev (negL p) x = -ev p x
 | [], x => by show (0 : Rat) = -0; grind
 | a :: p, x => by
   have := ev_neg p x
   show ev (negL p) x * x + -a = -(ev p x * x + a)
   rw [this]; grind
theorem neg_tr {p : Ply} (h : Tr p) : Tr (negL p) := by
 intro z hz
 unfold negL at hz
 rw [List.getLast?_map] at hz
 cases hp : p.getLast? with
 | none => rw [hp] at hz; simp at hz
 | some d =>
   rw [hp] at hz
   simp at hz
   have := h d hp
   rw [← hz]; grind
def chainL : Nat → Ply → Ply → List Ply
 | 0, _, _ => []
 | n + 1, prev, q => if q = [] then [] else scaledL q :: chainL n (scaledL q) (negL (divideL prev (scaledL q)).2)
theorem chain_chn {B : Rat} (hB : 0 ≤ B) : ∀ (n : Nat) (prev q : Ply), q.length < n → Tr q → NB B (ev prev) (ev q) → Chn B (prev :: chainL n prev q)
 | 0, prev, q, h, _, _ => by omega
 | n + 1, prev, q, h, hq, hnb => by
   unfold chainL
   by_cases h0 : q = []
   ·rw [if_pos h0]
    subst h0
    exact hnb.far
   ·rw [if_neg h0]
    obtain ⟨b, hb, hs, hst, hsl⟩ := scaled_ok hq h0
    have hs0 : scaledL q ≠ [] := fun e => by
     have : q.length = 0 := by rw [← hsl, e]; rfl
     exact h0 (List.eq_nil_of_length_eq_zero this)
    obtain ⟨d1, d2, d3⟩ := divide_ok prev hs0 hst
    have hnt := neg_tr d3
    have hnl : (negL (divideL prev (scaledL q)).2).length < n := by unfold negL; rw [List.length_map]; omega
    have hnb2 : NB B (ev (scaledL q)) (ev (negL (divideL prev (scaledL q)).2)) :=
     NB.next hB (PF.ev (divideL prev (scaledL q)).1) (by grind : (0 : Rat) < 1) hb hs (fun x => .inr (by rw [ev_neg, d1 x]; grind)) hnb
    have ih := chain_chn hB n (scaledL q) _ hnl hnt hnb2
    refine ⟨ih, fun r l' e => ?_⟩
    cases n with
    | zero => simp [chainL] at e
    | succ n =>
      unfold chainL at e
      by_cases h1 : negL (divideL prev (scaledL q)).2 = []
      ·rw [if_pos h1] at e; cases e
      ·rw [if_neg h1] at e
       injection e with e1 e2
       obtain ⟨a, ha, hsr, -, -⟩ := scaled_ok hnt h1
       refine ⟨(divideL prev (scaledL q)).1, a, ha, fun x => ?_⟩
       rw [← e1, ← hsr x, ev_neg, d1 x]; grind
def gcdL : Nat → Ply → Ply → Ply
 | 0, a, _ => a
 | n + 1, a, b => if b = [] then a else gcdL n (scaledL b) (divideL a b).2
theorem evd_nil (x : Rat) : evd [] x = 0 := rfl
theorem evd_ext : ∀ {p q : Ply}, (∀ x, ev p x = ev q x) → ∀ x, evd p x = evd q x
 | [], [], _, _ => rfl
 | c :: p, d :: q, h, x => by
   obtain ⟨h1, h2⟩ := tails_eq h
   rw [evd_cons, evd_cons, h2 x, evd_ext h2 x]
 | c :: p, [], h, x => by
   obtain ⟨h1, h2⟩ := tails_eq (d := 0) (q := []) (fun x => by rw [h x, ev_cons, ev_nil]; grind)
   rw [evd_cons, h2 x, evd_ext (q := []) h2 x, ev_nil, evd_nil]; grind
 | [], d :: q, h, x => by
   obtain ⟨h1, h2⟩ := tails_eq (c := 0) (p := []) (fun x => by rw [← h x, ev_cons, ev_nil]; grind)
   rw [evd_cons, ← h2 x, ← evd_ext (p := []) h2 x, ev_nil, evd_nil]; grind
theorem evd_add : ∀ (p q : Ply) (x : Rat), evd (addL p q) x = evd p x + evd q x
 | [], q, x => by unfold addL; rw [evd_nil]; grind
 | a :: p, [], x => by unfold addL; rw [evd_nil]; grind
 | a :: p, b :: q, x => by unfold addL; rw [evd_cons, evd_cons, evd_cons, evd_add p q x, ev_add]; grind
theorem evd_mulC (c : Rat) : ∀ (p : Ply) (x : Rat), evd (mulC c p) x = c * evd p x
 | [], x => by show (0 : Rat) = c * 0; grind
 | a :: p, x => by
   have := evd_mulC c p x
   have h2 := ev_mulC c p x
   show ev (mulC c p) x + evd (mulC c p) x * x = _
   rw [this, h2, evd_cons]; grind
theorem evd_mul : ∀ (p q : Ply) (x : Rat), evd (mulL p q) x = evd p x * ev q x + ev p x * evd q x
 | [], q, x => by unfold mulL; rw [evd_nil, ev_nil]; grind
 | a :: p, q, x => by
   unfold mulL
   rw [evd_add, evd_mulC, evd_cons, evd_mul p q x, ev_mul, evd_cons, ev_cons]; grind
theorem NB.less {B B' : Rat} {f g : Rat → Rat} (h : B ≤ B') (hn : NB B' f g) : NB B f g := by
 obtain ⟨e, he, h1⟩ := hn
 exact ⟨e, he, fun x hx => h1 x (hx.more h)⟩
theorem div_bd {t s u v : Rat} (ht : 0 < t) (hs : 0 ≤ s) (hu : ¬ Bd t u) (h : Bd (t * s) (u * v)) : Bd s v := by
 refine Classical.byContradiction fun hv => ?_
 have hu' : t < u ∨ u < -t := by unfold Bd at hu; grind
 have hv' : s < v ∨ v < -s := by unfold Bd at hv; grind
 unfold Bd at h
 have key : ∀ a b : Rat, t < a → s < b → t * s < a * b := by
  intro a b ha hb
  have h1 : 0 < (a - t) * b := Rat.mul_pos (by grind) (by grind)
  have h2 : 0 < t * (b - s) := Rat.mul_pos ht (by grind)
  grind
 rcases hu' with h1 | h1 <;> rcases hv' with h2 | h2
 ·have := key u v h1 h2; grind
 ·have := key u (-v) h1 (by grind); grind
 ·have := key (-u) v (by grind) h2; grind
 ·have := key (-u) (-v) (by grind) (by grind); grind
theorem nb_lin {B : Rat} (hB : 0 ≤ B) {p Q : Ply} {r : Rat} (hr : Bd B r) (hp : ∀ x, ev p x = (x - r) * ev Q x) (h0 : ev Q r ≠ 0) (h : NB B (ev Q) (evd Q)) : NB B (ev p) (evd p) := by
 obtain ⟨eQ, heQ, h1⟩ := h
 obtain ⟨M, hM, hm⟩ := evd_bd B hB Q
 obtain ⟨L, hL, hl⟩ := ev_lip B hB Q
 have hd : ∀ x, evd p x = ev Q x + (x - r) * evd Q x := fun x => by
  have e : ∀ x, ev p x = ev (mulL [-r, 1] Q) x := fun x => by
   rw [ev_mul, hp, ev_cons, ev_cons, ev_nil]; grind
  have a1 : ev [-r, 1] x = x - r := by show (0 * x + 1) * x + -r = x - r; grind
  have a2 : evd [-r, 1] x = 1 := by show (0 * x + 1) + (0 + 0 * x) * x = 1; grind
  rw [evd_ext e, evd_mul, a1, a2]; grind
 have hq0 : ∃ q0, 0 < q0 ∧ (q0 ≤ ev Q r ∨ ev Q r ≤ -q0) := by
  rcases (by grind : 0 < ev Q r ∨ ev Q r < 0) with k | k
  ·exact ⟨ev Q r, k, .inl (by grind)⟩
  ·exact ⟨-ev Q r, by grind, .inr (by grind)⟩
 obtain ⟨q0, hq0, hqr⟩ := hq0
 have hq2 : q0 / 2 * 2 = q0 := Rat.div_mul_cancel (by grind)
 have hq3 : 0 < q0 / 2 := pdiv_ps hq0 (by grind)
 obtain ⟨t, ht, kt⟩ := small_of (L := L + M) (e := q0 / 2) (by grind) hq3
 have kt2 := kt t (by grind) (by grind)
 have htq : 0 < t * eQ / 2 := pdiv_ps (Rat.mul_pos ht heQ) (by grind)
 have htq2 : t * eQ / 2 * 2 = t * eQ := Rat.div_mul_cancel (by grind)
 obtain ⟨s1, hs1, a1, a2⟩ := min_of heQ htq
 obtain ⟨e1, he1, b1, b2⟩ := min_of (Rat.mul_pos ht hs1) htq
 obtain ⟨e, he, c1, c2⟩ := min_of he1 hq3
 refine ⟨e, he, fun x hx hb => ?_⟩
 by_cases hxt : Bd t (x - r)
 ·have g1 : Bd (L * t) (ev Q x - ev Q r) := hl r x t hr hx hxt
  have g2 : Bd (t * M) ((x - r) * evd Q x) := hxt.mul (hm x hx)
  have g3 := hb.2
  rw [hd] at g3
  have g4 : L * t + t * M < q0 / 2 := by grind
  generalize (x - r) * evd Q x = z at *
  generalize L * t = lt at *
  generalize t * M = tm at *
  have g5 : e < q0 / 2 ∨ e ≤ q0 / 2 := .inr c2
  obtain ⟨p1, p2⟩ := g1
  obtain ⟨p3, p4⟩ := g2
  obtain ⟨p5, p6⟩ := g3
  clear hb hxt hm hl hd h1 hp kt kt2
  rcases hqr with k | k
  ·grind
  ·grind
 ·have g1 : Bd (t * s1) ((x - r) * ev Q x) := by rw [← hp]; exact hb.1.more (by grind)
  have g2 : Bd s1 (ev Q x) := div_bd ht (by grind) hxt g1
  have g3 : Bd (t * eQ) ((x - r) * evd Q x) := by
   have g4 := hb.2.sub g2
   have e9 : evd p x - ev Q x = (x - r) * evd Q x := by rw [hd]; grind
   rw [e9] at g4
   exact g4.more (by grind)
  exact h1 x hx ⟨g2.more a1, div_bd ht (Rat.le_of_lt heQ) hxt g3⟩
def prdL : List Rat → Ply
 | [] => [1]
 | r :: l => mulL (prdL l) [-r, 1]
theorem ev_prd (x : Rat) : ∀ rs : List Rat, ev (prdL rs) x = prd rs x
 | [] => by show ev [1] x = 1; rw [ev_cons, ev_nil]; grind
 | r :: l => by
   show ev (mulL (prdL l) [-r, 1]) x = _
   rw [ev_mul, ev_prd x l, prd_cons, ev_cons, ev_cons, ev_nil]; grind
theorem nb_prd {W : Ply} (hW : ∀ B, 0 ≤ B → Far B W) : ∀ (rs : List Rat) (p : Ply), rs.Nodup → (∀ x, ev p x = ev W x * prd rs x) → ∀ B, 0 ≤ B → NB B (ev p) (evd p)
 | [], p, _, hp, B, hB => by
   obtain ⟨e, he, h1⟩ := hW B hB
   exact ⟨e, he, fun x hx hb => h1 x hx (by have := hb.1; rw [hp] at this; have e9 : ev W x * prd [] x = ev W x := by unfold prd; grind
                                            rw [e9] at this; exact this)⟩
 | r :: l, p, hn, hp, B, hB => by
   have hn' := List.nodup_cons.1 hn
   obtain ⟨M, hM, hm⟩ := Bd.self r
   have ih := nb_prd hW l (mulL W (prdL l)) hn'.2 (fun x => by rw [ev_mul, ev_prd]) (B + M) (by grind)
   refine NB.less (B' := B + M) (by grind) (nb_lin (by grind) (hm.more (by grind)) (fun x => ?_) ?_ ih)
   ·rw [hp, ev_mul, ev_prd, prd_cons]; grind
   ·rw [ev_mul, ev_prd]
    intro e
    rcases Rat.mul_eq_zero.1 e with h | h
    ·obtain ⟨e1, he1, h1⟩ := hW M hM
     exact h1 r hm (by rw [h]; unfold Bd; grind)
    ·exact hn'.1 (prd_zero.1 h)
theorem far_one : ∀ B, 0 ≤ B → Far B [1] := fun B _ => ⟨1 / 2, pdiv_ps (by grind) (by grind), fun x _ hb => by
 have e : ev [1] x = 1 := by rw [ev_cons, ev_nil]; grind
 have e2 : (1 : Rat) / 2 * 2 = 1 := Rat.div_mul_cancel (by grind)
 rw [e] at hb
 have := hb.2
 grind⟩
theorem sq_nn' (x : Rat) : 0 ≤ x * x := by
 rcases (by grind : 0 ≤ x ∨ x ≤ 0) with h | h
 ·exact mul_nn' h h
 ·have := mul_nn' (by grind : 0 ≤ -x) (by grind : 0 ≤ -x); grind
theorem far_sq : ∀ B, 0 ≤ B → Far B [1, 0, 1] := fun B _ => ⟨1 / 2, pdiv_ps (by grind) (by grind), fun x _ hb => by
 have e : ev [1, 0, 1] x = x * x + 1 := by rw [ev_cons, ev_cons, ev_cons, ev_nil]; grind
 have e2 : (1 : Rat) / 2 * 2 = 1 := Rat.div_mul_cancel (by grind)
 have h2 := sq_nn' x
 rw [e] at hb
 have := hb.2
 grind⟩
def countL (p : Ply) (c : List Ply) (lo hi : Rat) : Int := chgs (p :: c) lo - chgs (p :: c) hi + (if ev p lo = 0 then 1 else 0)
def cntC : List Rat → Rat → Rat → Int
 | [], _, _ => 0
 | r :: l, x, y => (if x ≤ r ∧ r ≤ y then 1 else 0) + cntC l x y
theorem cntC_cnt {x y : Rat} (hxy : x ≤ y) : ∀ {rs : List Rat}, rs.Nodup → cntC rs x y = cnt rs x y + (if x ∈ rs then 1 else 0)
 | [], _ => rfl
 | r :: l, hn => by
   have hn' := List.nodup_cons.1 hn
   have ih := cntC_cnt hxy (rs := l) hn'.2
   show (if x ≤ r ∧ r ≤ y then 1 else 0) + cntC l x y = _
   rw [cnt_cons, ih]
   by_cases h : x = r
   ·subst h
    rw [if_pos ⟨by grind, hxy⟩, if_neg (show ¬ (x < x ∧ x ≤ y) by grind), if_neg hn'.1, if_pos List.mem_cons_self]
    omega
   ·have e : (x ∈ r :: l) ↔ x ∈ l := by rw [List.mem_cons]; exact ⟨fun k => k.elim (fun e => absurd e h) id, .inr⟩
    by_cases h2 : x ∈ l
    ·rw [if_pos h2, if_pos (e.2 h2)]
     by_cases h3 : x ≤ r ∧ r ≤ y
     ·rw [if_pos h3, if_pos (show x < r ∧ r ≤ y by grind)]; omega
     ·rw [if_neg h3, if_neg (show ¬ (x < r ∧ r ≤ y) by grind)]; omega
    ·rw [if_neg h2, if_neg (fun k => h2 (e.1 k))]
     by_cases h3 : x ≤ r ∧ r ≤ y
     ·rw [if_pos h3, if_pos (show x < r ∧ r ≤ y by grind)]; omega
     ·rw [if_neg h3, if_neg (show ¬ (x < r ∧ r ≤ y) by grind)]; omega
theorem count_ok {p : Ply} {rs : List Rat} {w : Rat → Rat} (hf : Fac p rs w) (hnb : ∀ B, 0 ≤ B → NB B (ev p) (evd p)) {n : Nat} (hn : (deriveL p).length < n) {lo hi : Rat} (h : lo ≤ hi) : countL p (chainL n p (deriveL p)) lo hi = cntC rs lo hi := by
 obtain ⟨M, hM, hm⟩ := Bd.self lo
 obtain ⟨N, hN, hk⟩ := Bd.self hi
 have hB : 0 ≤ M + N := by grind
 have hnb2 : NB (M + N) (ev p) (ev (deriveL p)) := by
  obtain ⟨e, he, h1⟩ := hnb (M + N) hB
  exact ⟨e, he, fun x hx hb => h1 x hx ⟨hb.1, by rw [← ev_derive]; exact hb.2⟩⟩
 have hc := chain_chn hB n p (deriveL p) hn (trim_tr _) hnb2
 have hs := sturm_law hB hc hf (fun q l' e => by
  cases n with
  | zero => omega
  | succ n =>
    unfold chainL at e
    by_cases h0 : deriveL p = []
    ·rw [if_pos h0] at e; cases e
    ·rw [if_neg h0] at e
     injection e with e1 e2
     obtain ⟨a, ha, h2, -, -⟩ := scaled_ok (trim_tr (dvL 1 p.tail)) h0
     exact ⟨a, ha, fun x => by rw [← e1, ← ev_derive]; exact h2 x⟩) (hm.more (by grind)) (hk.more (by grind)) h
 unfold countL
 rw [hs, cntC_cnt h hf.nd]
 by_cases h0 : ev p lo = 0
 ·rw [if_pos h0, if_pos (hf.zero.1 h0)]
 ·rw [if_neg h0, if_neg (fun k => h0 (hf.zero.2 k))]
def sumA : Ply → Rat
 | [] => 0
 | c :: p => absQ' c + sumA p
theorem absQ'_nn (x : Rat) : 0 ≤ absQ' x := by unfold absQ'; grind
theorem sumA_nn : ∀ p : Ply, 0 ≤ sumA p
 | [] => by unfold sumA; grind
 | c :: p => by have := sumA_nn p; have := absQ'_nn c; unfold sumA; grind
theorem absQ'_neg {x : Rat} (h : x ≤ 0) : absQ' x = -x := by unfold absQ'; grind
theorem absQ'_ps {x : Rat} (h : 0 ≤ x) : absQ' x = x := by unfold absQ'; grind
theorem absQ'_mul (x y : Rat) : absQ' (x * y) = absQ' x * absQ' y := by
 rcases (by grind : x ≤ 0 ∨ 0 ≤ x) with h | h <;> rcases (by grind : y ≤ 0 ∨ 0 ≤ y) with k | k
 ·have := mul_nn' (by grind : 0 ≤ -x) (by grind : 0 ≤ -y)
  rw [absQ'_neg h, absQ'_neg k, absQ'_ps (by grind)]; grind
 ·have := mul_nn' (by grind : 0 ≤ -x) k
  rw [absQ'_neg h, absQ'_ps k, absQ'_neg (by grind)]; grind
 ·have := mul_nn' h (by grind : 0 ≤ -y)
  rw [absQ'_ps h, absQ'_neg k, absQ'_neg (by grind)]; grind
 ·have := mul_nn' h k
  rw [absQ'_ps h, absQ'_ps k, absQ'_ps this]
theorem absQ'_tri (x y : Rat) : absQ' x - absQ' y ≤ absQ' (x + y) := by unfold absQ'; grind
theorem root_bound : ∀ {p : Ply} {d x : Rat}, p.getLast? = some d → absQ' d = 1 → 1 + sumA p ≤ absQ' x → 1 ≤ absQ' (ev p x)
 | [], d, x, h, _, _ => by simp at h
 | [c], d, x, h, h1, _ => by
   simp at h
   subst h
   have e : ev [c] x = c := by rw [ev_cons, ev_nil]; grind
   rw [e, h1]; grind
 | c :: b :: p, d, x, h, h1, h2 => by
   rw [List.getLast?_cons_cons] at h
   have e : sumA (c :: b :: p) = absQ' c + sumA (b :: p) := rfl
   rw [e] at h2
   have hc := absQ'_nn c
   have hs := sumA_nn (b :: p)
   have ih := root_bound h h1 (x := x) (by grind)
   rw [ev_cons]
   have h3 := absQ'_tri (ev (b :: p) x * x) c
   rw [absQ'_mul] at h3
   have h4 := mul_le_l ih (absQ'_nn x)
   grind
theorem scaled_lead {p : Ply} (hp : Tr p) (h0 : p ≠ []) : ∃ d, (scaledL p).getLast? = some d ∧ absQ' d = 1 := by
 obtain ⟨d, hd⟩ : ∃ d, p.getLast? = some d := ⟨_, List.getLast?_eq_some_getLast h0⟩
 have hd0 := hp d hd
 refine ⟨d / absQ' d, ?_, ?_⟩
 ·unfold scaledL
  rw [List.getLast?_map, hd]; rfl
 ·have e : d / absQ' d * absQ' d = d := Rat.div_mul_cancel (by have := absQ'_pos hd0; grind)
  have h1 := absQ'_mul (d / absQ' d) (absQ' d)
  rw [e] at h1
  have h2 : absQ' (absQ' d) = absQ' d := by unfold absQ'; grind
  rw [h2] at h1
  have h3 := absQ'_pos hd0
  generalize absQ' (d / absQ' d) = z at *
  generalize absQ' d = y at *
  have h4 : (z - 1) * y = 0 := by grind
  rcases Rat.mul_eq_zero.1 h4 with k | k <;> grind
abbrev Spn := Rat × Rat
inductive DvR (K : Nat) (q : Nums) : Nat → Nums → Nums → Nums → Nums → Prop
 | stop {by_ rest : Nums} (h1 : Qz K rest) (h2 : rest.length < q.length) : DvR K q 0 by_ rest by_ rest
 | step {n : Nat} {by_ rest by2 rest2 : Nums} {b : Rat} (h1 : Qz K rest) (h2 : q.length ≤ rest.length) (h3 : leadB rest q = b) (h4 : Rz K b) (h5 : ∀ c ∈ q, Rz K (b * c)) (h6 : Qz K (subL b (rest.length - q.length) rest q))
   (h : DvR K q n (by_.set (rest.length - q.length) b) (trimL (subL b (rest.length - q.length) rest q)) by2 rest2) : DvR K q (n + 1) by_ rest by2 rest2
structure DivR (K : Nat) (p q by_ rest : Nums) : Prop where
 zp : Qz K p
 zq : Qz K q
 ne : q ≠ []
 ld : q.getLast?.getD 0 ≠ 0
 run : ∃ n, DvR K q n (zerosL ((trimL p).length + 1 - q.length)) (trimL p) by_ rest
inductive GcR (K : Nat) : Nat → Nums → Nums → Nums → Prop
 | stop {a : Nums} : GcR K 0 a [] a
 | step {n : Nat} {a b by_ rest g : Nums} (h0 : b ≠ []) (h1 : DivR K a b by_ rest) (h : GcR K n (scaledL b) rest g) : GcR K (n + 1) a b g
structure DerZ (K : Nat) (p : Nums) : Prop where
 two : 2 ≤ K
 zp : Qz K p
 len : p.length ≤ 1000
 zd : Qz K (dvL 1 p.tail)
structure PlR (K : Nat) (p o : Nums) : Prop where
 dz : DerZ K p
 run : ∃ n a by_ rest, GcR K n p (deriveL p) a ∧ DivR K p a by_ rest ∧ Qz K by_ ∧ o = scaledL (trimL by_)
inductive ChR (K : Nat) : Nat → Nums → Nums → List Nums → Prop
 | stop {prev : Nums} : ChR K 0 prev [] []
 | step {n : Nat} {prev q by_ rest : Nums} {cs : List Nums} (h0 : q ≠ []) (hz : Qz K q) (hl : q.getLast?.getD 0 ≠ 0) (h1 : DivR K prev (scaledL q) by_ rest) (h2 : Qz K rest) (h : ChR K n (scaledL q) (negL rest) cs) : ChR K (n + 1) prev q (scaledL q :: cs)
def EvZ (K : Nat) : Nums → Rat → Prop
 | [], _ => True
 | c :: p, x => EvZ K p x ∧ Rz K (ev p x) ∧ Rz K (ev p x * x) ∧ Rz K c
def ChZ (K : Nat) (cs : List Nums) (x : Rat) : Prop := Rz K x ∧ cs.length ≤ 1000 ∧ ∀ p ∈ cs, p.length ≤ 1000 ∧ EvZ K p x ∧ Rz K (ev p x)
def midQ (s : Spn) : Rat := 1 / 2 * (s.1 + s.2)
def MidZ (K : Nat) (s : Spn) : Prop := Rz K s.1 ∧ Rz K s.2 ∧ Rz K (s.1 + s.2) ∧ Rz K (midQ s)
def CtR (cs : List Nums) (s : Spn) : Int := chgs cs s.1 - chgs cs s.2 + (if ev (cs.headD []) s.1 = 0 then 1 else 0)
def halveL (cs : List Nums) (s : Spn) : Spn := if ev (cs.headD []) (midQ s) = 0 then (midQ s, midQ s) else if CtR cs (s.1, midQ s) = 1 then (s.1, midQ s) else (midQ s, s.2)
structure HvZ (K : Nat) (cs : List Nums) (s : Spn) : Prop where
 mid : MidZ K s
 low : ChZ K cs s.1
 at_ : ChZ K cs (midQ s)
inductive NrR (K : Nat) (cs : List Nums) (m : Rat) : Nat → Rat → Spn → Prop
 | stop {by_ b : Rat} (h0 : Rz K by_) (h1 : by_ * (1 / 2) = b) (h2 : Rz K b) (h3 : ChZ K cs (m - b)) (h4 : ChZ K cs (m + b)) (h5 : CtR cs (m - b, m + b) = 1) (h6 : ev (cs.headD []) (m - b) ≠ 0) (h7 : ev (cs.headD []) (m + b) ≠ 0) : NrR K cs m 0 by_ (m - b, m + b)
 | step {n : Nat} {by_ b : Rat} {s : Spn} (h0 : Rz K by_) (h1 : by_ * (1 / 2) = b) (h2 : Rz K b) (h3 : ChZ K cs (m - b)) (h4 : ChZ K cs (m + b)) (h5 : ¬ (CtR cs (m - b, m + b) = 1 ∧ ev (cs.headD []) (m - b) ≠ 0 ∧ ev (cs.headD []) (m + b) ≠ 0)) (h : NrR K cs m n b s) : NrR K cs m (n + 1) by_ s
inductive SpR (K : Nat) (cs : List Nums) : List Spn → Spn → List Spn → Prop
 | none {out : List Spn} {s : Spn} (h1 : ChZ K cs s.1) (h2 : ChZ K cs s.2) (h : CtR cs s = 0) : SpR K cs out s out
 | one {out : List Spn} {s : Spn} (h1 : ChZ K cs s.1) (h2 : ChZ K cs s.2) (h : CtR cs s = 1) (hl : out.length ≤ 1000) : SpR K cs out s (out ++ [s])
 | two {out o1 o2 : List Spn} {s : Spn} (h1 : ChZ K cs s.1) (h2 : ChZ K cs s.2) (h : CtR cs s ≠ 0) (h' : CtR cs s ≠ 1) (hm : MidZ K s) (hz : ChZ K cs (midQ s)) (h0 : ev (cs.headD []) (midQ s) ≠ 0)
   (ha : SpR K cs out (s.1, midQ s) o1) (hb : SpR K cs o1 (midQ s, s.2) o2) : SpR K cs out s o2
 | root {out o1 o2 : List Spn} {s t : Spn} {n : Nat} (h1 : ChZ K cs s.1) (h2 : ChZ K cs s.2) (h : CtR cs s ≠ 0) (h' : CtR cs s ≠ 1) (hm : MidZ K s) (hz : ChZ K cs (midQ s)) (h0 : ev (cs.headD []) (midQ s) = 0)
   (hn : NrR K cs (midQ s) n (s.2 - midQ s) t) (ha : SpR K cs out (s.1, t.1) o1) (hl : o1.length ≤ 1000) (hb : SpR K cs (o1 ++ [(midQ s, midQ s)]) (t.2, s.2) o2) : SpR K cs out s o2
inductive PtR (K : Nat) (cs : List Nums) : Nat → Spn → Spn → Spn → Spn → Prop
 | stop {a b : Spn} (h1 : Rz K a.2) (h2 : Rz K b.1) (h : a.2 < b.1) : PtR K cs 0 a b a b
 | step {n : Nat} {a b a2 b2 : Spn} (h1 : Rz K a.2) (h2 : Rz K b.1) (h : b.1 ≤ a.2) (ha : HvZ K cs a) (hb : HvZ K cs b) (hr : PtR K cs n (halveL cs a) (halveL cs b) a2 b2) : PtR K cs (n + 1) a b a2 b2
inductive FxR (K : Nat) (cs : List Nums) : Nat → List Spn → List Spn → Prop
 | stop {i : Nat} {l : List Spn} (h : l.length ≤ i) : FxR K cs i l l
 | step {i n : Nat} {l l2 : List Spn} {a b a2 b2 : Spn} (h : i + 1 < l.length) (ha : l[i]? = some a) (hb : l[i + 1]? = some b) (hp : PtR K cs n a b a2 b2) (hr : FxR K cs (i + 2) ((l.set i a2).set (i + 1) b2) l2) : FxR K cs (i + 1) l l2
structure RdR (K : Nat) (p : Nums) (cs : List Nums) : Prop where
 zp : Qz K p
 len : p.length ≤ 1000
 ne : trimL p ≠ []
 small : (trimL p).length ≤ 13
 run : ∃ o kn cs1, PlR K (trimL p) o ∧ DerZ K o ∧ ChR K kn o (deriveL o) cs1 ∧ kn ≤ 900 ∧ cs = o :: cs1
structure RtR (K : Nat) (p : Nums) (cs : List Nums) (l2 : List Spn) : Prop where
 two : 2 ≤ K
 rd : RdR K p cs
 ms : ∀ c ∈ cs.headD [], Rz K c
 mz : ∀ i, Rz K (1 + sumA ((cs.headD []).take i))
 run : ∃ out, SpR K cs [] (-(1 + sumA (cs.headD [])), 1 + sumA (cs.headD [])) out ∧ FxR K cs 1 out l2 ∧ out.length ≤ 1000
end Go.Proofs.YtmchjmflkaiakaaGreatDoor
