/- Joined texts: StA StL StR. -/
import Derived.Test.YtmchjmflkaiakaaGreatDoorPo1
namespace Go.Proofs.YtmchjmflkaiakaaGreatDoor
open Go.RowKit
set_option linter.unusedVariables false
set_option linter.unusedSimpArgs false
abbrev Nums := List Rat
def rl (q : Rat) : List Value := (RC q).toList
def fr (p : Nums) : List Value := p.flatMap rl
def RX (J : List Value) (p : Nums) : Array Value := (fr p ++ J).toArray
def rx (p : Nums) (i : Nat) : Rat := p.getD i 0
def Qz (k : Nat) (p : Nums) : Prop := ∀ c ∈ p, Rz k c
theorem RX_list (J : List Value) (p : Nums) : (RX J p).toList = fr p ++ J := rfl
theorem rl_len (q : Rat) : (rl q).length = 3 := rfl
theorem fr_len (p : Nums) : (fr p).length = 3 * p.length := by
 induction p with
 | nil => rfl
 | cons c p ih => rw [fr, List.flatMap_cons, List.length_append]; unfold fr at ih; rw [ih, rl_len, List.length_cons]; omega
theorem RX_size (J : List Value) (p : Nums) : (RX J p).size = 3 * p.length + J.length := by
 show (RX J p).toList.length = _
 rw [RX_list, List.length_append, fr_len]
theorem fr_take (p : Nums) (i : Nat) : (fr p).take (3 * i) = fr (p.take i) := by
 induction i generalizing p with
 | zero => simp [fr]
 | succ i ih =>
   cases p with
   | nil => simp [fr]
   | cons c p =>
     have := ih p
     unfold fr at this ⊢
     rw [List.flatMap_cons, show 3 * (i + 1) = (rl c).length + 3 * i by rw [rl_len]; omega, List.take_append, List.take_succ_cons, List.flatMap_cons, ← this, List.take_of_length_le (by omega), Nat.add_sub_cancel_left]
theorem fr_drop (p : Nums) (i : Nat) : (fr p).drop (3 * i) = fr (p.drop i) := by
 induction i generalizing p with
 | zero => rfl
 | succ i ih =>
   cases p with
   | nil => simp [fr]
   | cons c p =>
     have := ih p
     unfold fr at this ⊢
     rw [List.flatMap_cons, show 3 * (i + 1) = (rl c).length + 3 * i by rw [rl_len]; omega, List.drop_append, Nat.add_sub_cancel_left, List.drop_of_length_le (by omega), List.nil_append, this, List.drop_succ_cons]
theorem fr_app (a b : Nums) : fr (a ++ b) = fr a ++ fr b := by simp [fr]
theorem rx_get {p : Nums} {i : Nat} (h : i < p.length) : p[i] = rx p i := by unfold rx; rw [List.getD_eq_getElem?_getD, List.getElem?_eq_getElem h]; rfl
theorem RX_room {J : List Value} {p : Nums} {i : Nat} (h : i < p.length) : 3 * i + 3 ≤ (RX J p).size := by rw [RX_size]; omega
theorem RX_at {J : List Value} {p : Nums} {i : Nat} (h : i < p.length) : (RX J p).extract (3 * i) (3 * i + 3) = RC (rx p i) := by
 apply Array.toList_inj.1
 rw [Array.toList_extract, List.extract_eq_take_drop, RX_list, List.drop_append, fr_drop, List.drop_eq_getElem_cons h, fr, List.flatMap_cons, show 3 * i + 3 - 3 * i = (rl p[i]).length by rw [rl_len]; omega, List.append_assoc, List.take_left, rx_get h]
 rfl
theorem RX_put {J : List Value} {p : Nums} {i : Nat} {x : Rat} (h : i < p.length) : ((RX J p).toList.take (3 * i) ++ (Value.agg (RC x)).cells.toList ++ (RX J p).toList.drop (3 * i + (Value.agg (RC x)).cells.size)).toArray = RX J (p.set i x) := by
 have hs : (Value.agg (RC x)).cells.size = 3 := rfl
 have hc : (Value.agg (RC x)).cells.toList = rl x := rfl
 rw [hs, hc, show 3 * i + 3 = 3 * (i + 1) by omega]
 apply Array.toList_inj.1
 show List.take (3 * i) (RX J p).toList ++ rl x ++ List.drop (3 * (i + 1)) (RX J p).toList = (RX J (p.set i x)).toList
 rw [RX_list, RX_list, List.take_append_of_le_length (by rw [fr_len]; omega), List.drop_append_of_le_length (by rw [fr_len]; omega), fr_take, fr_drop, List.set_eq_take_append_cons_drop, if_pos h, fr_app]
 have e : fr (x :: p.drop (i + 1)) = rl x ++ fr (p.drop (i + 1)) := by unfold fr; rw [List.flatMap_cons]
 rw [e]
 simp only [List.append_assoc]
theorem Qz.at_ {k : Nat} {p : Nums} (h : Qz k p) {i : Nat} (hi : i < p.length) : Rz k (rx p i) := by rw [← rx_get hi]; exact h _ (List.getElem_mem _)
theorem Qz.more {k l : Nat} {p : Nums} (h : Qz k p) (hk : k ≤ l) : Qz l p := fun c hc => (h c hc).more hk
theorem Qz.set {k : Nat} {p : Nums} {i : Nat} {v : Rat} (h : Qz k p) (hv : Rz k v) : Qz k (p.set i v) := by
 intro c hc
 rcases List.mem_or_eq_of_mem_set hc with h1 | h1
 ·exact h c h1
 ·rw [h1]; exact hv
def RAt (w : World) (A : Option Addr) (p : Nums) : Prop := p = [] ∨ ∃ g J, A = some ⟨g, 0, none⟩ ∧ Blk w g 27 (RX J p)
theorem RAt.get {w : World} {A : Option Addr} {p : Nums} (h : RAt w A p) {i : Nat} (hi : i < p.length) : ∃ g J, A = some ⟨g, 0, none⟩ ∧ Blk w g 27 (RX J p) := by
 rcases h with h | h
 ·subst h; exact absurd hi (Nat.not_lt_zero _)
 ·exact h
theorem RAt.next {w w' : World} {A : Option Addr} {p : Nums} (h : RAt w A p) (hb : Below w.heap.size w w') : RAt w' A p := by
 rcases h with h | ⟨g, J, h1, h2⟩
 ·exact .inl h
 ·exact .inr ⟨g, J, h1, h2.belowB hb⟩
theorem RAt.of_own {W w : World} {g : Nat} {J : List Value} {p : Nums} (h : St W [(g, 27, RX J p)] w) : RAt w (some ⟨g, 0, none⟩) p := .inr ⟨g, J, rfl, (h.blk _ List.mem_cons_self).2⟩
def RNew (W : World) (q : Nums) (e : Ending) (w' : World) : Prop := ∃ g, e = .returned (.slice (some ⟨g, 0, none⟩) q.length q.length) ∧ St W [(g, 27, RX [] q)] w'
abbrev Ply := List Rat
def ev : Ply → Rat → Rat
 | [], _ => 0
 | c :: p, x => ev p x * x + c
def Bd (M v : Rat) : Prop := -M ≤ v ∧ v ≤ M
theorem mul_nn' {a b : Rat} (h1 : 0 ≤ a) (h2 : 0 ≤ b) : 0 ≤ a * b := Rat.mul_nonneg h1 h2
theorem Bd.nn {M v : Rat} (h : Bd M v) : 0 ≤ M := by unfold Bd at h; grind
theorem Bd.add {M N u v : Rat} (h1 : Bd M u) (h2 : Bd N v) : Bd (M + N) (u + v) := by unfold Bd at *; grind
theorem Bd.sub {M N u v : Rat} (h1 : Bd M u) (h2 : Bd N v) : Bd (M + N) (u - v) := by unfold Bd at *; grind
theorem Bd.neg {M u : Rat} (h1 : Bd M u) : Bd M (-u) := by unfold Bd at *; grind
theorem Bd.more {M N u : Rat} (h1 : Bd M u) (h : M ≤ N) : Bd N u := by unfold Bd at *; grind
theorem Bd.mul {M N u v : Rat} (h1 : Bd M u) (h2 : Bd N v) : Bd (M * N) (u * v) := by
 have hM := h1.nn
 have hN := h2.nn
 unfold Bd at *
 obtain ⟨a1, a2⟩ := h1
 obtain ⟨b1, b2⟩ := h2
 have p1 : 0 ≤ (M - u) * (N - v) := mul_nn' (by grind) (by grind)
 have p2 : 0 ≤ (M + u) * (N + v) := mul_nn' (by grind) (by grind)
 have p3 : 0 ≤ (M - u) * (N + v) := mul_nn' (by grind) (by grind)
 have p4 : 0 ≤ (M + u) * (N - v) := mul_nn' (by grind) (by grind)
 constructor <;> grind
def chg : Int → List Int → Int
 | _, [] => 0
 | l, s :: r => (if s * l < 0 then 1 else 0) + chg (if s = 0 then l else s) r
theorem chg_cons (l s : Int) (r : List Int) : chg l (s :: r) = (if s * l < 0 then 1 else 0) + chg (if s = 0 then l else s) r := rfl
def sgR (x : Rat) : Int := if 0 < x then 1 else if x < 0 then -1 else 0
def cnt : List Rat → Rat → Rat → Int
 | [], _, _ => 0
 | r :: l, x, y => (if x < r ∧ r ≤ y then 1 else 0) + cnt l x y
theorem cnt_cons (r : Rat) (l : List Rat) (x y : Rat) : cnt (r :: l) x y = (if x < r ∧ r ≤ y then 1 else 0) + cnt l x y := rfl
theorem cnt_zero {rs : List Rat} {x y : Rat} (h : ∀ r ∈ rs, ¬ (x < r ∧ r ≤ y)) : cnt rs x y = 0 := by
 induction rs with
 | nil => rfl
 | cons a l ih => rw [cnt_cons, if_neg (h a List.mem_cons_self), ih (fun r hr => h r (List.mem_cons_of_mem _ hr))]; rfl
theorem cnt_add {rs : List Rat} {x y z : Rat} (h1 : x ≤ y) (h2 : y ≤ z) : cnt rs x z = cnt rs x y + cnt rs y z := by
 induction rs with
 | nil => rfl
 | cons a l ih =>
   rw [cnt_cons, cnt_cons, cnt_cons, ih]
   by_cases c1 : x < a ∧ a ≤ y
   ·have c3 : x < a ∧ a ≤ z := ⟨c1.1, by grind⟩
    have c2 : ¬ (y < a ∧ a ≤ z) := by grind
    rw [if_pos c1, if_pos c3, if_neg c2]
    omega
   ·by_cases c2 : y < a ∧ a ≤ z
    ·have c3 : x < a ∧ a ≤ z := ⟨by grind, c2.2⟩
     rw [if_neg c1, if_pos c3, if_pos c2]
     omega
    ·have c3 : ¬ (x < a ∧ a ≤ z) := by grind
     rw [if_neg c1, if_neg c3, if_neg c2]
     omega
def chgs (l : List Ply) (x : Rat) : Int := chg 0 (l.map fun p => sgR (ev p x))
theorem bd_mid {B x y u : Rat} (hx : Bd B x) (hy : Bd B y) (h1 : x ≤ u) (h2 : u ≤ y) : Bd B u := by unfold Bd at *; grind
theorem steps {B d0 t : Rat} {V : Rat → Int} {rs : List Rat} (ht : 0 ≤ t) (htd : t ≤ d0) (h : ∀ x y, Bd B x → Bd B y → x ≤ y → Bd d0 (y - x) → V x - V y = cnt rs x y) :
  ∀ (n : Nat) (x : Rat), Bd B x → Bd B (x + (n : Rat) * t) → V x - V (x + (n : Rat) * t) = cnt rs x (x + (n : Rat) * t)
 | 0, x, _, _ => by
   have e : x + ((0 : Nat) : Rat) * t = x := by
    have : ((0 : Nat) : Rat) = 0 := by simp
    rw [this]; grind
   rw [e, cnt_zero (fun r _ h => by grind)]; omega
 | n + 1, x, hx, hy => by
   have e : x + ((n + 1 : Nat) : Rat) * t = (x + (n : Rat) * t) + t := by
    have : ((n + 1 : Nat) : Rat) = (n : Rat) + 1 := by simp
    rw [this]; grind
   rw [e] at hy ⊢
   have hn : 0 ≤ (n : Rat) := by exact_mod_cast Nat.zero_le n
   have h0 : 0 ≤ (n : Rat) * t := mul_nn' hn ht
   have hm : Bd B (x + (n : Rat) * t) := bd_mid hx hy (by grind) (by grind)
   have h1 := steps ht htd h n x hx hm
   have h2 := h (x + (n : Rat) * t) (x + (n : Rat) * t + t) hm hy (by grind) (by unfold Bd; grind)
   rw [cnt_add (y := x + (n : Rat) * t) (by grind) (by grind)]
   omega
def trimL : Ply → Ply
 | [] => []
 | c :: p => match trimL p with
   | [] => if c = 0 then [] else [c]
   | d :: q => c :: d :: q
def Tr (p : Ply) : Prop := ∀ c, p.getLast? = some c → c ≠ 0
theorem trim_tr : ∀ p : Ply, Tr (trimL p)
 | [] => fun c h => by simp [trimL] at h
 | c :: p => by
   have h := trim_tr p
   unfold trimL
   split
   ·by_cases h0 : c = 0
    ·rw [if_pos h0]; intro d hd; simp at hd
    ·rw [if_neg h0]; intro d hd; simp at hd; rw [← hd]; exact h0
   ·rename_i d q e
    rw [e] at h
    intro z hz
    rw [List.getLast?_cons_cons] at hz
    exact h z hz
theorem trim_id : ∀ {p : Ply}, Tr p → trimL p = p
 | [], _ => rfl
 | [c], h => by
   have := h c rfl
   simp [trimL, this]
 | c :: d :: q, h => by
   have h1 : Tr (d :: q) := fun z hz => h z (by rw [List.getLast?_cons_cons]; exact hz)
   have h2 := trim_id h1
   show (match trimL (d :: q) with | [] => if c = 0 then [] else [c] | d' :: q' => c :: d' :: q') = _
   rw [h2]
theorem trim_len : ∀ p : Ply, (trimL p).length ≤ p.length
 | [] => Nat.le_refl _
 | c :: p => by
   have h := trim_len p
   unfold trimL
   split
   ·split <;> simp
   ·rename_i d q e
    rw [e] at h
    simp only [List.length_cons] at h ⊢
    omega
def dvL : Int → Ply → Ply
 | _, [] => []
 | k, c :: p => ((k : Rat) * c) :: dvL (k + 1) p
def deriveL (p : Ply) : Ply := trimL (dvL 1 p.tail)
def subL (b : Rat) : Nat → Ply → Ply → Ply
 | _, rest, [] => rest
 | 0, r :: rest, c :: q => (r - b * c) :: subL b 0 rest q
 | k + 1, r :: rest, c :: q => r :: subL b k rest (c :: q)
 | _, [], _ :: _ => []
theorem sub_len (b : Rat) : ∀ (k : Nat) (rest q : Ply), k + q.length ≤ rest.length → (subL b k rest q).length = rest.length
 | k, rest, [], _ => by
   have : subL b k rest [] = rest := by cases k <;> cases rest <;> rfl
   rw [this]
 | 0, r :: rest, c :: q, h => by
   have := sub_len b 0 rest q (by simp at h; omega)
   unfold subL
   simp [this]
 | k + 1, r :: rest, c :: q, h => by
   have := sub_len b k rest (c :: q) (by simp at h ⊢; omega)
   unfold subL
   simp [this]
 | 0, [], c :: q, h => by simp at h
 | k + 1, [], c :: q, h => by simp at h
def leadB (rest q : Ply) : Rat := (rest.getLast?.getD 0) / (q.getLast?.getD 0)
theorem Tr.tail {c : Rat} {p : Ply} (h : Tr (c :: p)) : Tr p := by
 cases p with
 | nil => intro z hz; simp at hz
 | cons d q => intro z hz; exact h z (by rw [List.getLast?_cons_cons]; exact hz)
def absQ' (x : Rat) : Rat := if x < 0 then -x else x
def scaledL (p : Ply) : Ply := p.map fun c => c / absQ' (p.getLast?.getD 0)
def zerosL (n : Nat) : Ply := List.replicate n 0
def negL (p : Ply) : Ply := p.map fun c => -c
def sumA : Ply → Rat
 | [] => 0
 | c :: p => absQ' c + sumA p
abbrev Spn := Rat × Rat
inductive DvR (K : Nat) (q : Nums) : Nat → Nums → Nums → Nums → Nums → Prop
 | stop {by_ rest : Nums} (h1 : Qz K rest) (h2 : rest.length < q.length) : DvR K q 0 by_ rest by_ rest
 | step {n : Nat} {by_ rest by2 rest2 : Nums} {b : Rat} (h1 : Qz K rest) (h2 : q.length ≤ rest.length) (h3 : leadB rest q = b) (h4 : Rz K b) (h5 : ∀ c ∈ q, Rz K (b * c)) (h6 : Qz K (subL b (rest.length - q.length) rest q))
   (h : DvR K q n (by_.set (rest.length - q.length) b) (trimL (subL b (rest.length - q.length) rest q)) by2 rest2) : DvR K q (n + 1) by_ rest by2 rest2
structure DivR (K : Nat) (p q by_ rest : Nums) : Prop where
 zp : Qz K p
 zq : Qz K q
 ne : q ≠ []
 ld : q.getLast?.getD 0 ≠ 0
 run : ∃ n, DvR K q n (zerosL ((trimL p).length + 1 - q.length)) (trimL p) by_ rest
inductive GcR (K : Nat) : Nat → Nums → Nums → Nums → Prop
 | stop {a : Nums} : GcR K 0 a [] a
 | step {n : Nat} {a b by_ rest g : Nums} (h0 : b ≠ []) (h1 : DivR K a b by_ rest) (h : GcR K n (scaledL b) rest g) : GcR K (n + 1) a b g
structure DerZ (K : Nat) (p : Nums) : Prop where
 two : 2 ≤ K
 zp : Qz K p
 len : p.length ≤ 1000
 zd : Qz K (dvL 1 p.tail)
structure PlR (K : Nat) (p o : Nums) : Prop where
 dz : DerZ K p
 run : ∃ n a by_ rest, GcR K n p (deriveL p) a ∧ DivR K p a by_ rest ∧ Qz K by_ ∧ o = scaledL (trimL by_)
inductive ChR (K : Nat) : Nat → Nums → Nums → List Nums → Prop
 | stop {prev : Nums} : ChR K 0 prev [] []
 | step {n : Nat} {prev q by_ rest : Nums} {cs : List Nums} (h0 : q ≠ []) (hz : Qz K q) (hl : q.getLast?.getD 0 ≠ 0) (h1 : DivR K prev (scaledL q) by_ rest) (h2 : Qz K rest) (h : ChR K n (scaledL q) (negL rest) cs) : ChR K (n + 1) prev q (scaledL q :: cs)
def EvZ (K : Nat) : Nums → Rat → Prop
 | [], _ => True
 | c :: p, x => EvZ K p x ∧ Rz K (ev p x) ∧ Rz K (ev p x * x) ∧ Rz K c
def ChZ (K : Nat) (cs : List Nums) (x : Rat) : Prop := Rz K x ∧ cs.length ≤ 1000 ∧ ∀ p ∈ cs, p.length ≤ 1000 ∧ EvZ K p x ∧ Rz K (ev p x)
def midQ (s : Spn) : Rat := 1 / 2 * (s.1 + s.2)
def MidZ (K : Nat) (s : Spn) : Prop := Rz K s.1 ∧ Rz K s.2 ∧ Rz K (s.1 + s.2) ∧ Rz K (midQ s)
def CtR (cs : List Nums) (s : Spn) : Int := chgs cs s.1 - chgs cs s.2 + (if ev (cs.headD []) s.1 = 0 then 1 else 0)
def halveL (cs : List Nums) (s : Spn) : Spn := if ev (cs.headD []) (midQ s) = 0 then (midQ s, midQ s) else if CtR cs (s.1, midQ s) = 1 then (s.1, midQ s) else (midQ s, s.2)
structure HvZ (K : Nat) (cs : List Nums) (s : Spn) : Prop where
 mid : MidZ K s
 low : ChZ K cs s.1
 at_ : ChZ K cs (midQ s)
inductive SpR (K : Nat) (cs : List Nums) : List Spn → Spn → List Spn → Prop
 | none {out : List Spn} {s : Spn} (h1 : ChZ K cs s.1) (h2 : ChZ K cs s.2) (h : CtR cs s = 0) : SpR K cs out s out
 | one {out : List Spn} {s : Spn} (h1 : ChZ K cs s.1) (h2 : ChZ K cs s.2) (h : CtR cs s = 1) (hl : out.length ≤ 1000) : SpR K cs out s (out ++ [s])
 | two {out o1 o2 : List Spn} {s : Spn} (h1 : ChZ K cs s.1) (h2 : ChZ K cs s.2) (h : CtR cs s ≠ 0) (h' : CtR cs s ≠ 1) (hm : MidZ K s) (hz : ChZ K cs (midQ s)) (h0 : ev (cs.headD []) (midQ s) ≠ 0)
   (ha : SpR K cs out (s.1, midQ s) o1) (hb : SpR K cs o1 (midQ s, s.2) o2) : SpR K cs out s o2
inductive PtR (K : Nat) (cs : List Nums) : Nat → Spn → Spn → Spn → Spn → Prop
 | stop {a b : Spn} (h1 : Rz K a.2) (h2 : Rz K b.1) (h : a.2 < b.1) : PtR K cs 0 a b a b
 | step {n : Nat} {a b a2 b2 : Spn} (h1 : Rz K a.2) (h2 : Rz K b.1) (h : b.1 ≤ a.2) (ha : HvZ K cs a) (hb : HvZ K cs b) (hr : PtR K cs n (halveL cs a) (halveL cs b) a2 b2) : PtR K cs (n + 1) a b a2 b2
inductive FxR (K : Nat) (cs : List Nums) : Nat → List Spn → List Spn → Prop
 | stop {i : Nat} {l : List Spn} (h : l.length ≤ i) : FxR K cs i l l
 | step {i n : Nat} {l l2 : List Spn} {a b a2 b2 : Spn} (h : i + 1 < l.length) (ha : l[i]? = some a) (hb : l[i + 1]? = some b) (hp : PtR K cs n a b a2 b2) (hr : FxR K cs (i + 2) ((l.set i a2).set (i + 1) b2) l2) : FxR K cs (i + 1) l l2
structure RdR (K : Nat) (p : Nums) (cs : List Nums) : Prop where
 zp : Qz K p
 len : p.length ≤ 1000
 ne : trimL p ≠ []
 small : (trimL p).length ≤ 13
 run : ∃ o kn cs1, PlR K (trimL p) o ∧ DerZ K o ∧ ChR K kn o (deriveL o) cs1 ∧ kn ≤ 900 ∧ cs = o :: cs1
structure RtR (K : Nat) (p : Nums) (cs : List Nums) (l2 : List Spn) : Prop where
 two : 2 ≤ K
 rd : RdR K p cs
 ms : ∀ c ∈ cs.headD [], Rz K c
 mz : ∀ i, Rz K (1 + sumA ((cs.headD []).take i))
 run : ∃ out, SpR K cs [] (-(1 + sumA (cs.headD [])), 1 + sumA (cs.headD [])) out ∧ FxR K cs 1 out l2 ∧ out.length ≤ 1000
end Go.Proofs.YtmchjmflkaiakaaGreatDoor
