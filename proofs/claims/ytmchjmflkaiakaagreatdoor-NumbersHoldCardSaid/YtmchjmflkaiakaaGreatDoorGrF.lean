/- Joined texts: Ints GrowI GrA GrL GrG GrX GrC RatZ RwA GrZ GrF. -/
import Derived.Test.YtmchjmflkaiakaaGreatDoorBunLib
import Derived.Test.YtmchjmflkaiakaaGreatDoorChecked
import Derived.Test.YtmchjmflkaiakaaGreatDoorGrow
import Derived.Deep.LoopGhost
import Derived.Deep.QuietTactic
import Derived.BigQuiet
import Derived.WalkSpells
import Derived.ChangeKeysEq
import Derived.Lib.SlicesCompact
import Derived.Lib.AppendZerosOnto
import Derived.Lib.AppendZeros
import Derived.Test.YtmchjmflkaiakaaGreatDoorRatT
import Derived.Test.YtmchjmflkaiakaaGreatDoorSpQ
import Derived.LoopN
namespace Go.Proofs.YtmchjmflkaiakaaGreatDoor
open Go.RowKit Go.ChangeShapes Go.WideShapes Go.Deep
set_option linter.unusedVariables false

section
variable {w w' : World} {B B' : Nat} {A : Option Addr} {xs : List Int}
end


open Go.RowKit
section
variable {w wr w' : World} {v v' : Value} {xs : List Int} {n : Nat}
end
set_option linter.unusedSimpArgs false
structure Ft where
 x : Int
 y : Int
deriving DecidableEq
instance : Inhabited Ft := ⟨⟨0, 0⟩⟩
def valG (s : Ft) : List Value := [.int .i64 s.x, .int .i64 s.y]


def FLt (f g : Ft) : Prop := f.y < g.y ∨ (f.y = g.y ∧ f.x < g.x)
instance (f g : Ft) : Decidable (FLt f g) := by unfold FLt; infer_instance
def cellsF (ss : List Ft) : List Value := ss.flatMap valG
theorem cellsF_length (ss : List Ft) : (cellsF ss).length = ss.length*2 := by
 induction ss with
 | nil => rfl
 | cons a l ih => rw [show cellsF (a :: l) = valG a ++ cellsF l from rfl, List.length_append, ih]; simp [valG]; omega
theorem cellsF_get {ss : List Ft} {k j : Nat} {s : Ft} {v : Value} (h : ss[k]? = some s) (hj : (valG s)[j]? = some v) : (cellsF ss)[k*2+j]? = some v := by
 have hj3 : j < 2 := by
  have := (List.getElem?_eq_some_iff.1 hj).1
  simpa [valG] using this
 induction ss generalizing k with
 | nil => simp at h
 | cons a l ih =>
   rw [show cellsF (a :: l) = valG a ++ cellsF l from rfl]
   cases k with
   | zero =>
     simp at h; subst h
     rw [Nat.zero_mul, Nat.zero_add, List.getElem?_append_left (by simpa [valG] using hj3)]
     exact hj
   | succ k =>
     simp at h
     rw [List.getElem?_append_right (by simp [valG]; omega)]
     rw [show (k + 1)*2 + j - (valG a).length = k*2 + j by simp [valG]; omega]
     exact ih h
def FactsAt (w : World) (B : Nat) (A : Option Addr) (ss : List Ft) : Prop :=
 ∀ k s, ss[k]? = some s → ∃ b off, A = some ⟨b, off, none⟩ ∧ b < B ∧ ∀ j v, (valG s)[j]? = some v → w.cell? ⟨b, off + (k*2+j), none⟩ = some v
section
variable {w w' : World} {B B' : Nat} {A : Option Addr} {ss : List Ft}
theorem FactsAt.below (h : FactsAt w B A ss) (hb : Below B' w w') (hB : B ≤ B') : FactsAt w' B A ss := by
 intro k x hx
 obtain ⟨b, off, hA, hlt, h0⟩ := h k x hx
 exact ⟨b, off, hA, hlt, fun j v hj => (hb.cell (p := ⟨b, _, none⟩) (Nat.lt_of_lt_of_le hlt hB)).trans (h0 j v hj)⟩
theorem FactsAt.more (h : FactsAt w B A ss) (hB : B ≤ B') : FactsAt w B' A ss := by
 intro k x hx
 obtain ⟨b, off, hA, hlt, h0⟩ := h k x hx
 exact ⟨b, off, hA, Nat.lt_of_lt_of_le hlt hB, h0⟩
theorem FactsAt.nil : FactsAt w B A [] := fun k x h => by simp at h
theorem FactsAt.next (h : FactsAt w w.heap.size A ss) (hb : Below w.heap.size w w') : FactsAt w' w'.heap.size A ss := (h.below hb (Nat.le_refl _)).more hb.size
theorem FactsAt.two (h : FactsAt w B A ss) {k : Nat} {s : Ft} (hk : ss[k]? = some s) : ∃ b off, A = some ⟨b, off, none⟩ ∧ b < B ∧
  w.cell? ⟨b, off + k*2, none⟩ = some (.int .i64 s.x) ∧ w.cell? ⟨b, off + k*2+1, none⟩ = some (.int .i64 s.y) := by
 obtain ⟨b, off, hA, hb, h0⟩ := h k s hk
 exact ⟨b, off, hA, hb, h0 0 _ rfl, h0 1 _ rfl⟩
theorem FactsAt.take (h : FactsAt w B A ss) (j : Nat) : FactsAt w B A (ss.take j) := by
 intro k s hk
 rw [List.getElem?_take] at hk
 split at hk
 ·exact h k s hk
 ·cases hk
theorem FactsAt.of_own {base : Nat} {e : TypeId} {v : Value} (h : w.ownsRow base e 2 v ss.length (cellsF ss)) :
  ∃ A c, v = .slice A ss.length c ∧ ss.length ≤ c ∧ c ≤ maxLen ∧ FactsAt w w.heap.size A ss := by
 obtain ⟨h1, h2⟩ := h
 rcases h2 with ⟨rfl, hx⟩ | ⟨g, cap, cur, rfl, hg, hh, hnc, hm, hs, hc⟩
 ·have : ss = [] := by
   have := cellsF_length ss; rw [hx] at this; simp at this
   exact List.eq_nil_of_length_eq_zero (by omega)
  subst this
  exact ⟨none, 0, rfl, Nat.le_refl _, by unfold maxLen; omega, fun k u hu => by simp at hu⟩
 ·refine ⟨some ⟨g, 0, none⟩, cap, rfl, by assumption, by assumption, fun k u hu => ?_⟩
  have hglt : g < w.heap.size := by
   rcases Nat.lt_or_ge g w.heap.size with h' | h'
   ·exact h'
   ·rw [Array.getElem?_eq_none h'] at hh; cases hh
  have H := World.ownsRow.cells (w := w) (base := base) (e := e) (size := 2) (v := .slice (some ⟨g, 0, none⟩) ss.length cap) (n := ss.length) (xs := cellsF ss) ⟨h1, .inr ⟨g, cap, cur, rfl, hg, hh, hnc, hm, hs, hc⟩⟩ (g := g) rfl
  refine ⟨g, 0, rfl, hglt, fun j v hj => ?_⟩
  have := H _ _ (cellsF_get hu hj)
  rwa [Addr.add_lit] at this
end

theorem infoFt : (Tryz.prog.info? 166).map (fun i => (i.zero, i.size, i.bytes)) = some (some (.agg #[.int .i64 0, .int .i64 0]), 2, 16) := by kernel_rfl
theorem one_ft (x : Ft) : ∀ u ∈ (#[.int .i64 x.x, .int .i64 x.y] : Array Value).toList, u.oneCell' = true := by
 intro u hu; simp at hu; rcases hu with rfl | rfl <;> rfl
def FRow (w : World) (v : Value) (xs : List Ft) (wr : World) : Prop := Rws w [⟨v, 166, 2, xs.length, cellsF xs⟩] wr
section
variable {w wr w' : World} {v v' : Value} {xs : List Ft} {n : Nat}
theorem FRow.facts (h : FRow w v xs wr) : ∃ A c, v = .slice A xs.length c ∧ xs.length ≤ c ∧ c ≤ maxLen ∧ FactsAt wr wr.heap.size A xs := FactsAt.of_own (Rws.head h)
theorem FRow.row (h : FRow w v xs wr) (hn : xs.length = n) : Rws w (⟨v, 166, 2, n, cellsF xs⟩ :: []) wr := by subst hn; exact h
theorem FRow.add {x : Ft} (hn : xs.length = n) (h : Rws w [⟨v', 166, 2, n + 1, cellsF xs ++ (#[.int .i64 x.x, .int .i64 x.y] : Array Value).toList⟩] wr) : FRow w v' (xs ++ [x]) wr := by
 subst hn
 have e : cellsF (xs ++ [x]) = cellsF xs ++ [.int .i64 x.x, .int .i64 x.y] := by simp [cellsF, valG]
 unfold FRow
 rw [e, List.length_append]
 exact h
theorem FRow.nil (h : Below w.heap.size w wr) : FRow w (.slice none 0 0) [] wr := (Rws.begin h).nil _ _
theorem FRow.next (h : FRow w v xs wr) (hb : Below wr.heap.size wr w') : FRow w v xs w' := Rws.next h hb
theorem FRow.drewN (h : FRow w v xs wr) (n : Nat) : FRow w v xs (wr.drewN n) := Rws.drewN h n
theorem FRow.bel (h : FRow w v xs wr) : Below w.heap.size w wr := Rws.below h
end
theorem FactsAt.reads {w : World} {B : Nat} {A : Option Addr} {xs : List Ft} (h : FactsAt w B A xs) : Reads w B 2 A xs.length (cellsF xs) := by
 refine ⟨by rw [cellsF_length], fun hn => ?_⟩
 obtain ⟨u0, hu0⟩ := get_of_lt rfl hn
 obtain ⟨b, off, hA, hb, _⟩ := h 0 u0 hu0
 refine ⟨_, hA, hb, fun j v hv => ?_⟩
 have hjl : j < xs.length*2 := by have := (List.getElem?_eq_some_iff.1 hv).1; rwa [cellsF_length] at this
 obtain ⟨u, hu⟩ := get_of_lt (k := j / 2) (l := xs) rfl (by omega)
 obtain ⟨b', off', hA', _, hc⟩ := h _ u hu
 rw [hA] at hA'; cases hA'
 have hm : j % 2 < (valG u).length := by simp [valG]; omega
 have hg := cellsF_get hu (List.getElem?_eq_getElem hm)
 rw [show j / 2*2 + j % 2 = j by omega] at hg
 rw [hv] at hg
 have := hc (j % 2) v (by rw [List.getElem?_eq_getElem hm]; exact hg.symm)
 rw [Addr.add_lit]
 rwa [show j / 2*2 + j % 2 = j by omega] at this

set_option maxHeartbeats 1000000 in
theorem on_yes (x : Int) (w : World) (h1 : -64 ≤ x) (h2 : x < 64) : Calls Tryz.prog 165 #[.int .i64 x] w fun e w' => e = .returned (.bool true) ∧ w' = w := by
 have e1 : decide (x ≥ -64) = true := decide_eq_true h1
 have e2 : decide (x < 64) = true := decide_eq_true h2
 go_enter Tryz.func165, Tryz.ntmps165
 go_wp2_with fail
 go_ret
 exact ⟨by first | rfl | (congr 2; simp; omega) | simp_all, rfl⟩
def BadT (s : Bool) (a d : ByteArray) : Prop :=
 d.size = 0 ∨ (∃ h : 0 < d.size, d[0] = 0) ∨ (∃ m, m ≠ 0 ∧ d = S m ∧ ((a = S 0 ∧ (s = true ∨ m ≠ 1)) ∨ (∃ h : 0 < a.size, a[0] = 0) ∨ ∃ n, n ≠ 0 ∧ a = S n ∧ Nat.gcd n m ≠ 1))
structure RawQ (k : Nat) (q : Rat) (g : Bool) (s : Bool) (a d : ByteArray) : Prop where
 or : (g = true ∧ RIs q s a d) ∨ (g = false ∧ q = 0 ∧ BadT s a d)
 rz : Rz k q
 sa : a.size ≤ k
 sd : d.size ≤ k
theorem S_of_head {d : ByteArray} (h : 0 < d.size) (hd : d[0] ≠ 0) : ∃ m, m ≠ 0 ∧ d = S m := by
 have hb : Bare (toL d) := by
  have h2 := toL_get d 0 h
  unfold Bare
  rw [List.head?_eq_getElem?, h2]
  intro e
  exact hd (Option.some.inj e)
 refine ⟨bval (toL d), ?_, S_of hb⟩
 intro e
 have h3 := S_of hb
 rw [e] at h3
 rw [h3] at h
 simp [S, bstr_zero, ByteArray.size] at h
theorem S_zero_of {d : ByteArray} (h : d.size = 0) : d = S 0 := by
 have hb : Bare (toL d) := by
  unfold Bare
  have : toL d = [] := List.eq_nil_of_length_eq_zero (by rw [toL_length]; exact h)
  rw [this]; simp
 have h2 := S_of hb
 have : toL d = [] := List.eq_nil_of_length_eq_zero (by rw [toL_length]; exact h)
 rw [this] at h2
 exact h2
theorem S_sz {k n : Nat} (h : (S n).size ≤ k) : Sz k n := by
 unfold Sz
 rwa [S_size] at h
theorem RIs_of {s : Bool} {n m : Nat} (hn : n ≠ 0) (hm : m ≠ 0) (hg : Nat.gcd n m = 1) : RIs (mkRat (sg s n) m) s (S n) (S m) := by
 have h := R_eq s n m hn hm
 rw [hg, Nat.div_one, Nat.div_one] at h
 unfold R at h
 simp only [Value.agg.injEq, Array.mk.injEq, List.cons.injEq, Value.bool.injEq, Value.string.injEq, and_true] at h
 exact ⟨h.1.symm, h.2.1.symm, h.2.2.symm⟩
theorem RIs_zero : RIs 0 false (S 0) (S 1) := ⟨rfl, rfl, rfl⟩
theorem raw_any (s : Bool) (a d : ByteArray) (k : Nat) (hk : 1 ≤ k) (ha : a.size ≤ k) (hd : d.size ≤ k) : ∃ q g, RawQ k q g s a d := by
 have z1 : Rz k 0 := Rz.zero.more hk
 rcases Nat.eq_zero_or_pos d.size with h0 | h0
 ·exact ⟨0, false, .inr ⟨rfl, rfl, .inl h0⟩, z1, ha, hd⟩
 by_cases h1 : d[0] = 0
 ·exact ⟨0, false, .inr ⟨rfl, rfl, .inr (.inl ⟨h0, h1⟩)⟩, z1, ha, hd⟩
 obtain ⟨m, hm, rfl⟩ := S_of_head h0 h1
 rcases Nat.eq_zero_or_pos a.size with h2 | h2
 ·obtain rfl := S_zero_of h2
  by_cases h3 : s = true ∨ m ≠ 1
  ·exact ⟨0, false, .inr ⟨rfl, rfl, .inr (.inr ⟨m, hm, rfl, .inl ⟨rfl, h3⟩⟩)⟩, z1, ha, hd⟩
  ·have h4 : s = false ∧ m = 1 := by
    cases s <;> simp_all
   obtain ⟨rfl, rfl⟩ := h4
   exact ⟨0, true, .inl ⟨rfl, RIs_zero⟩, z1, ha, hd⟩
 by_cases h3 : a[0] = 0
 ·exact ⟨0, false, .inr ⟨rfl, rfl, .inr (.inr ⟨m, hm, rfl, .inr (.inl ⟨h2, h3⟩)⟩)⟩, z1, ha, hd⟩
 obtain ⟨n, hn, rfl⟩ := S_of_head h2 h3
 by_cases h4 : Nat.gcd n m = 1
 ·have h5 := RIs_of (s := s) hn hm h4
  refine ⟨_, true, .inl ⟨rfl, h5⟩, ⟨?_, ?_⟩, ha, hd⟩
  ·have := h5.a; exact S_sz (by rw [← this]; exact ha)
  ·have := h5.d; exact S_sz (by rw [← this]; exact hd)
 ·exact ⟨0, false, .inr ⟨rfl, rfl, .inr (.inr ⟨m, hm, rfl, .inr (.inr ⟨n, hn, rfl, h4⟩)⟩)⟩, z1, ha, hd⟩
theorem RawQ.of {k : Nat} {q : Rat} {s : Bool} {a d : ByteArray} (h : RIs q s a d) (hz : Rz k q) : RawQ k q true s a d :=
 ⟨.inl ⟨rfl, h⟩, hz, by rw [h.a, S_size]; exact hz.1, by rw [h.d, S_size]; exact hz.2⟩
theorem RawQ.RC {k : Nat} {q : Rat} (hz : Rz k q) : RawQ k q true (decide (q.num < 0)) (S q.num.natAbs) (S q.den) := RawQ.of ⟨rfl, rfl, rfl⟩ hz
theorem head_zero {d : ByteArray} (h : 0 < d.size) (h1 : d[0] = 0) : ((d[0].toNat : Int) == 0) = true ∧ ¬ d.toList = [] ∧ d.toList.isEmpty = false := by
 have hl : d.toList.length = d.size := by rw [Lib.toList_data]; exact Array.length_toList
 refine ⟨by rw [h1]; rfl, fun e => ?_, ?_⟩
 ·rw [e, List.length_nil] at hl; omega
 ·cases hh : d.toList with
  | nil => rw [hh, List.length_nil] at hl; omega
  | cons x r => rfl
theorem good_bad (s : Bool) (a d : ByteArray) (k : Nat) (w : World) (h : BadT s a d) (ha : a.size ≤ k) (hdk : d.size ≤ k) (hk : k ≤ 35184372088832) (hT : Tab w) :
  Calls Tryz.prog 125 #[.agg #[.bool s, .string a, .string d]] w fun e w' => e = .returned (.bool false) ∧ Below w.heap.size w w' := by
 rcases h with h | ⟨h, h1⟩ | ⟨m, hm, rfl, h⟩
 ·obtain rfl := S_zero_of h
  have hz1 : (S 0).toList = [] := by rw [S_list]; rfl
  have hz2 : (S 0).toList.isEmpty = true := by rw [S_list]; rfl
  clear h ha hdk hk hT
  go_enter Tryz.func125, Tryz.ntmps125
  go_wp2_with fail
  go_ret
  exact ⟨rfl, (Below.refl _ _).alloc (Nat.le_refl _) _⟩
 ·obtain ⟨e1, e2, e3⟩ := head_zero h h1
  clear h1 ha hdk hk hT
  go_enter Tryz.func125, Tryz.ntmps125
  go_wp2_with fail
  go_ret
  exact ⟨rfl, (Below.refl _ _).alloc (Nat.le_refl _) _⟩
 ·rcases h with ⟨rfl, h⟩ | ⟨h, h1⟩ | ⟨n, hn, rfl, hg⟩
  ·have he := S_empty_of hm
   obtain ⟨hd1, hd2⟩ := S_head hm
   have hd3 := S_nil hm
   have hz1 : (S 0).toList = [] := by rw [S_list]; rfl
   have hz2 : (S 0).toList.isEmpty = true := by rw [S_list]; rfl
   cases s with
   | true =>
     clear h ha hdk hk hT
     go_enter Tryz.func125, Tryz.ntmps125
     go_wp2_with fail
     go_ret
     exact ⟨rfl, (Below.refl _ _).alloc (Nat.le_refl _) _⟩
   | false =>
     have hm1 : m ≠ 1 := by simpa using h
     have hd4 := S_ne_one hm1
     clear h hm1 ha hdk hk hT
     go_enter Tryz.func125, Tryz.ntmps125
     go_wp2_with fail
     go_ret
     exact ⟨rfl, (Below.refl _ _).alloc (Nat.le_refl _) _⟩
  ·have he := S_empty_of hm
   obtain ⟨hd1, hd2⟩ := S_head hm
   have hd3 := S_nil hm
   obtain ⟨e1, e2, e3⟩ := head_zero h h1
   clear h1 ha hdk hk hT
   go_enter Tryz.func125, Tryz.ntmps125
   go_wp2_with fail
   go_ret
   exact ⟨rfl, (Below.refl _ _).alloc (Nat.le_refl _) _⟩
  ·exact good_no s n m k w hm hn hg (S_sz ha) (S_sz hdk) hk hT
theorem fit_raw {k : Nat} {q : Rat} {g s : Bool} {a d : ByteArray} (w : World) (h : RawQ k q g s a d) (hk : k ≤ 35184372088832) (hT : Tab w) :
  Calls Tryz.prog 77 #[.agg #[.bool s, .string a, .string d]] w fun e w' => e = .returned (R q) ∧ Below w.heap.size w w' := by
 rcases h.or with ⟨rfl, h1⟩ | ⟨rfl, rfl, h1⟩
 ·have := fit_R k q w h.rz hk hT
  rwa [h1.val] at this ⊢
 ·have HH := Lib.hid (And.intro h1 (And.intro h.sa (And.intro h.sd (And.intro hk hT)))); clear h h1 hk hT
  have HB0 := Lib.hid (show Below w.heap.size w ((w.alloc (.cells #[.bool s, .string a, .string d] 27)).alloc (.cells #[.bool false, .string ⟨#[]⟩, .string ⟨#[]⟩] 27)) from ((Below.refl _ _).alloc (Nat.le_refl _) _).alloc (by simp) _)
  go_enter Tryz.func77, Tryz.ntmps77
  go_wp2_with fail
  refine (good_bad s a d k _ HH.out.1 HH.out.2.1 HH.out.2.2.1 HH.out.2.2.2.1 (HH.out.2.2.2.2.next HB0.out)).mono ?_
  rintro e w1 ⟨rfl, hb1⟩
  have HB1 := Lib.hid (below_next HB0.out hb1)
  have HK1 := Lib.hid (show Blk w1 (w.heap.size + 1) 27 #[.bool false, .string ⟨#[]⟩, .string ⟨#[]⟩] from (Blk.at_ (by simp)).belowB hb1)
  clear hb1
  obtain ⟨d0, d1, d2, f0, f1, f2⟩ := HK1.out.three
  go_wp2_with (go_at_call 126; refine (zero_V _).mono ?_; rintro e w2 ⟨rfl, hb2⟩; have HB2 := Lib.hid (below_next HB1.out hb2); have HK2 := Lib.hid (HK1.out.belowB hb2); obtain ⟨g0, g1, g2, i0, i1, i2⟩ := HK2.out.three; clear hb2)
  have hW := put3 HK2.out (.bool false) (.string (S 0)) (.string (S 1))
  have hWb := put3_below (g := w.heap.size + 1) HB2.out (Nat.le_succ _) (.bool false) (.string (S 0)) (.string (S 1))
  obtain ⟨e0, e1, e2, -, -, -⟩ := hW.three
  refine bodyPost_ret (v := R 0) (by simp [results, Tryz.results77, go_sem, e0, e1, e2]; rfl) rfl ⟨rfl, hWb⟩
universe u
set_option maxHeartbeats 4000000
set_option maxRecDepth 20000
variable {W : World} {l : List Own}
structure RT where
 s : Bool
 a : ByteArray
 d : ByteArray
def RT.c (t : RT) : Array Value := #[.bool t.s, .string t.a, .string t.d]
def rt (q : Rat) : RT := ⟨decide (q.num < 0), S q.num.natAbs, S q.den⟩
def RawT (k : Nat) (q : Rat) (g : Bool) (t : RT) : Prop := RawQ k q g t.s t.a t.d
theorem RawT.rc {k : Nat} {q : Rat} (h : Rz k q) : RawT k q true (rt q) := RawQ.RC h
theorem RawT.rz {k : Nat} {q : Rat} {g : Bool} {t : RT} (h : RawT k q g t) : Rz k q := RawQ.rz h
theorem RawT.good {k : Nat} {q : Rat} {t : RT} (h : RawT k q true t) : t = rt q := by
 rcases RawQ.or h with ⟨_, h1⟩ | ⟨h1, _⟩
 ·cases t
  obtain ⟨e1, e2, e3⟩ := h1
  dsimp only at e1 e2 e3
  unfold rt
  rw [e1, e2, e3]
 ·cases h1
theorem RawT.any (t : RT) (k : Nat) (hk : 1 ≤ k) (ha : t.a.size ≤ k) (hd : t.d.size ≤ k) : ∃ q g, RawT k q g t := raw_any t.s t.a t.d k hk ha hd
theorem RawT.more {k l : Nat} {q : Rat} {g : Bool} {t : RT} (h : RawT k q g t) (hk : k ≤ l) : RawT l q g t := ⟨RawQ.or h, h.rz.more hk, Nat.le_trans (RawQ.sa h) hk, Nat.le_trans (RawQ.sd h) hk⟩
section
variable {W : World} {l : List Own} {k : Nat} {x y : Rat} {g1 g2 : Bool} {t1 t2 : RT}
theorem fit_w (hT : Tab W) (h1 : RawT k x g1 t1) (hk : k ≤ 4398046511104) (w : World) (h : St W l w) :
  Calls Tryz.prog 77 #[.agg t1.c] w fun e w' => e = .returned (.agg (RC x)) ∧ Below w.heap.size w w' := fit_raw w h1 (by omega) (tabS hT h)
theorem fit_c {s : Bool} {a d : ByteArray} (hT : Tab W) (h1 : RawT k x g1 t1) (hr : RIs x s a d) (hk : k ≤ 4398046511104) (w : World) (h : St W l w) :
  Calls Tryz.prog 77 #[.agg #[.bool t1.s, .string t1.a, .string t1.d]] w fun e w' => e = .returned (.agg #[.bool s, .string a, .string d]) ∧ Below w.heap.size w w' := by
 have := fit_raw (k := k) (q := x) (g := g1) (s := t1.s) (a := t1.a) (d := t1.d) w h1 (by omega) (tabS hT h)
 rwa [hr.val] at this
end
section
variable {W : World} {l : List Own} {k : Nat} {x y : Rat} {g1 g2 : Bool} {t1 t2 : RT}
theorem cmp_w {v : Int} (hT : Tab W) (h1 : RawT k x g1 t1) (h2 : RawT k y g2 t2) (hv : cmpQ x y = v) (hk : k ≤ 4398046511104) (w : World) (h : St W l w) :
  Calls Tryz.prog 29 #[.agg t1.c, .agg t2.c] w fun e w' => e = .returned (.int .i64 v) ∧ Below w.heap.size w w' := by
 subst hv
 have HT := Lib.hid (tabS hT h); clear hT h
 have H1 := Lib.hid h1; clear h1
 have H2 := Lib.hid h2; clear h2
 obtain ⟨s1, a1, d1, r1⟩ := R_parts x
 have R1 := Lib.hid r1; clear r1
 obtain ⟨s2, a2, d2, r2⟩ := R_parts y
 have R2 := Lib.hid r2; clear r2
 have HS1 := Lib.hid R1.out.s
 have HS2 := Lib.hid R2.out.s
 unfold RT.c
 cases s1 <;> cases s2
 ·have hn1 := of_decide_eq_false HS1.out.symm
  have hn2 := of_decide_eq_false HS2.out.symm
  obtain ⟨cz, hcz⟩ : ∃ cz, cz = cmpZ (x.num.natAbs * y.den) (y.num.natAbs * x.den) := ⟨_, rfl⟩
  have HQ := Lib.hid (show cz = cmpQ x y from by rw [hcz]; exact cmpZ_mul x y (by omega) (by omega)); clear hn1 hn2
  have hcl : -1 ≤ cz ∧ cz ≤ 1 := by rw [hcz]; unfold cmpZ; split <;> (try split) <;> omega
  obtain ⟨l1, l2⟩ := hcl
  have HCZ := Lib.hid (show Ending.returned (.int .i64 (cmpZ (x.num.natAbs * y.den) (y.num.natAbs * x.den))) = .returned (.int .i64 cz) from by rw [hcz]); clear hcz
  go_enter Tryz.func29, Tryz.ntmps29
  have HS : St w [] w := St.start
  go_upto_region 0 with fail
  refine rgT [] HS ?_
  refine bX (#[.bool t1.s, .string t1.a, .string t1.d]) ?_
  intro bk2 _ _ hbk2_r
  refine nZ ?_
  refine bX (#[.bool t2.s, .string t2.a, .string t2.d]) ?_
  intro bk3 _ _ hbk3_r
  obtain ⟨_, _, hbk3_r⟩ := Reg.ne2 hbk3_r
  refine nZ ?_
  refine pU ?_
  refine Go.Proofs.YtmchjmflkaiakaaGreatDoor.d2 bk2 bk3 fun ws1 HS1=>?_
  clear HS
  go_upto_region 1 with fail
  have HPbk3 := HS1.p1
  have HPbk2 := HPbk3.p1
  refine wS [0, 4] (Reg.fin.put (Reg.fin.put Reg.fin_no _ _) _ _) (StR.move (StR.move (StR.no HPbk2))) ?_
  refine gV ?_
  refine cX rfl rfl (fit_c HT.out H1.out R1.out (by omega)) ?_
  refine gV ?_
  refine cX rfl rfl (fit_c HT.out H2.out R2.out (by omega)) ?_
  refine Seq.store rfl rfl rfl rfl rfl (by repeat first|exact rS|refine rN ‹_› ?_) (n := 3) rfl rfl (by kernel_rfl) (by intro u hu; simp at hu; rcases hu with rfl | rfl | rfl <;> rfl) (nZ ?_)
  refine Seq.store rfl rfl rfl rfl rfl (by repeat first|exact rS|refine rN ‹_› ?_) (n := 3) rfl rfl (by kernel_rfl) (by intro u hu; simp at hu; rcases hu with rfl | rfl | rfl <;> rfl) (nZ ?_)
  refine Go.Proofs.YtmchjmflkaiakaaGreatDoor.d2 bk2 bk3 fun ws2 HS2=>?_
  clear HS1 HPbk3 HPbk2
  go_upto_region 2 with fail
  refine rgT [] HS2 ?_
  refine pU ?_
  refine lC (.bool false) ?_
  refine pU ?_
  refine lC (.bool false) ?_
  refine pU ?_
  refine Go.Proofs.YtmchjmflkaiakaaGreatDoor.dS fun ws3 HS3=>?_
  clear HS2
  go_upto_region 6 with fail
  refine rgW [] HS3 ?_
  refine pU ?_
  refine lC (.string a1) ?_
  refine pU ?_
  refine lC (.string d2) ?_
  refine cX rfl rfl (fun w h => mul_G x.num.natAbs y.den k w R1.out.a R2.out.d H1.out.rz.1 H2.out.rz.2 (by omega)) ?_
  refine pU ?_
  refine lC (.string a2) ?_
  refine pU ?_
  refine lC (.string d1) ?_
  refine cX rfl rfl (fun w h => mul_G y.num.natAbs x.den k w R2.out.a R1.out.d H2.out.rz.1 H1.out.rz.2 (by omega)) ?_
  refine cX rfl rfl (fun w h => (cmp_G _ _ k w (H1.out.rz.1.mul H2.out.rz.2) (H2.out.rz.1.mul H1.out.rz.2) (by omega)).mono (fun e w2 hh => ⟨hh.1.trans HCZ.out, hh.2 ▸ Below.refl _ _⟩)) ?_
  refine pU ?_
  refine Go.Proofs.YtmchjmflkaiakaaGreatDoor.dS fun ws4 HS4=>?_
  clear HS3
  go_upto_region 7 with fail
  refine rgT [] HS4 ?_
  refine pU ?_
  refine lC (.bool false) ?_
  refine Go.Proofs.YtmchjmflkaiakaaGreatDoor.dS fun ws5 HS5=>?_
  clear HS4
  go_upto_region 9 with fail
  refine rgT [] HS5 ?_
  iterate 2 refine pU ?_
  refine Go.Proofs.YtmchjmflkaiakaaGreatDoor.dS fun ws6 HS6=>?_
  clear HS5
  go_wp2_with fail
  go_ret
  exact ⟨by rw [← HQ.out]; first | rfl | exact congrArg (fun z => Ending.returned (Value.int .i64 z)) hwr, HS6.below⟩
 ·have hn1 := of_decide_eq_false HS1.out.symm
  have hn2 := of_decide_eq_true HS2.out.symm
  have HQ := Lib.hid (cmpQ_pn x y (by omega) hn2); clear hn1 hn2
  go_enter Tryz.func29, Tryz.ntmps29
  have HS : St w [] w := St.start
  go_upto_region 0 with fail
  refine rgT [] HS ?_
  refine bX (#[.bool t1.s, .string t1.a, .string t1.d]) ?_
  intro bk2 _ _ hbk2_r
  refine nZ ?_
  refine bX (#[.bool t2.s, .string t2.a, .string t2.d]) ?_
  intro bk3 _ _ hbk3_r
  obtain ⟨_, _, hbk3_r⟩ := Reg.ne2 hbk3_r
  refine nZ ?_
  refine pU ?_
  refine Go.Proofs.YtmchjmflkaiakaaGreatDoor.d2 bk2 bk3 fun ws1 HS1=>?_
  clear HS
  go_upto_region 1 with fail
  have HPbk3 := HS1.p1
  have HPbk2 := HPbk3.p1
  refine wS [0, 4] (Reg.fin.put (Reg.fin.put Reg.fin_no _ _) _ _) (StR.move (StR.move (StR.no HPbk2))) ?_
  refine gV ?_
  refine cX rfl rfl (fit_c HT.out H1.out R1.out (by omega)) ?_
  refine gV ?_
  refine cX rfl rfl (fit_c HT.out H2.out R2.out (by omega)) ?_
  refine Seq.store rfl rfl rfl rfl rfl (by repeat first|exact rS|refine rN ‹_› ?_) (n := 3) rfl rfl (by kernel_rfl) (by intro u hu; simp at hu; rcases hu with rfl | rfl | rfl <;> rfl) (nZ ?_)
  refine Seq.store rfl rfl rfl rfl rfl (by repeat first|exact rS|refine rN ‹_› ?_) (n := 3) rfl rfl (by kernel_rfl) (by intro u hu; simp at hu; rcases hu with rfl | rfl | rfl <;> rfl) (nZ ?_)
  refine Go.Proofs.YtmchjmflkaiakaaGreatDoor.d2 bk2 bk3 fun ws2 HS2=>?_
  clear HS1 HPbk3 HPbk2
  go_upto_region 2 with fail
  refine rgT [] HS2 ?_
  refine pU ?_
  refine lC (.bool false) ?_
  refine pU ?_
  refine lC (.bool true) ?_
  refine pU ?_
  refine Go.Proofs.YtmchjmflkaiakaaGreatDoor.dS fun ws3 HS3=>?_
  clear HS2
  go_upto_region 3 with fail
  refine rgT [] HS3 ?_
  refine pU ?_
  refine lC (.bool false) ?_
  refine Go.Proofs.YtmchjmflkaiakaaGreatDoor.dS fun ws4 HS4=>?_
  clear HS3
  go_upto_region 5 with fail
  refine rgT [] HS4 ?_
  refine pU ?_
  refine Go.Proofs.YtmchjmflkaiakaaGreatDoor.dS fun ws5 HS5=>?_
  clear HS4
  go_wp2_with fail
  go_ret
  exact ⟨by rw [← HQ.out]; first | rfl | exact congrArg (fun z => Ending.returned (Value.int .i64 z)) hwr, HS5.below⟩
 ·have hn1 := of_decide_eq_true HS1.out.symm
  have hn2 := of_decide_eq_false HS2.out.symm
  have HQ := Lib.hid (cmpQ_np x y hn1 (by omega)); clear hn1 hn2
  go_enter Tryz.func29, Tryz.ntmps29
  have HS : St w [] w := St.start
  go_upto_region 0 with fail
  refine rgT [] HS ?_
  refine bX (#[.bool t1.s, .string t1.a, .string t1.d]) ?_
  intro bk2 _ _ hbk2_r
  refine nZ ?_
  refine bX (#[.bool t2.s, .string t2.a, .string t2.d]) ?_
  intro bk3 _ _ hbk3_r
  obtain ⟨_, _, hbk3_r⟩ := Reg.ne2 hbk3_r
  refine nZ ?_
  refine pU ?_
  refine Go.Proofs.YtmchjmflkaiakaaGreatDoor.d2 bk2 bk3 fun ws1 HS1=>?_
  clear HS
  go_upto_region 1 with fail
  have HPbk3 := HS1.p1
  have HPbk2 := HPbk3.p1
  refine wS [0, 4] (Reg.fin.put (Reg.fin.put Reg.fin_no _ _) _ _) (StR.move (StR.move (StR.no HPbk2))) ?_
  refine gV ?_
  refine cX rfl rfl (fit_c HT.out H1.out R1.out (by omega)) ?_
  refine gV ?_
  refine cX rfl rfl (fit_c HT.out H2.out R2.out (by omega)) ?_
  refine Seq.store rfl rfl rfl rfl rfl (by repeat first|exact rS|refine rN ‹_› ?_) (n := 3) rfl rfl (by kernel_rfl) (by intro u hu; simp at hu; rcases hu with rfl | rfl | rfl <;> rfl) (nZ ?_)
  refine Seq.store rfl rfl rfl rfl rfl (by repeat first|exact rS|refine rN ‹_› ?_) (n := 3) rfl rfl (by kernel_rfl) (by intro u hu; simp at hu; rcases hu with rfl | rfl | rfl <;> rfl) (nZ ?_)
  refine Go.Proofs.YtmchjmflkaiakaaGreatDoor.d2 bk2 bk3 fun ws2 HS2=>?_
  clear HS1 HPbk3 HPbk2
  go_upto_region 2 with fail
  refine rgT [] HS2 ?_
  refine pU ?_
  refine lC (.bool true) ?_
  refine pU ?_
  refine lC (.bool false) ?_
  refine pU ?_
  refine Go.Proofs.YtmchjmflkaiakaaGreatDoor.dS fun ws3 HS3=>?_
  clear HS2
  go_upto_region 3 with fail
  refine rgT [] HS3 ?_
  refine pU ?_
  refine lC (.bool true) ?_
  refine Go.Proofs.YtmchjmflkaiakaaGreatDoor.dS fun ws4 HS4=>?_
  clear HS3
  go_upto_region 4 with fail
  refine rgT [] HS4 ?_
  refine pU ?_
  refine Go.Proofs.YtmchjmflkaiakaaGreatDoor.dS fun ws5 HS5=>?_
  clear HS4
  go_wp2_with fail
  go_ret
  exact ⟨by rw [← HQ.out]; first | rfl | exact congrArg (fun z => Ending.returned (Value.int .i64 z)) hwr, HS5.below⟩
 ·have hn1 := of_decide_eq_true HS1.out.symm
  have hn2 := of_decide_eq_true HS2.out.symm
  obtain ⟨cz, hcz⟩ : ∃ cz, cz = cmpZ (x.num.natAbs * y.den) (y.num.natAbs * x.den) := ⟨_, rfl⟩
  have HQ := Lib.hid (show -cz = cmpQ x y from by rw [hcz]; exact cmpZ_neg x y hn1 hn2); clear hn1 hn2
  have hcl : -1 ≤ cz ∧ cz ≤ 1 := by rw [hcz]; unfold cmpZ; split <;> (try split) <;> omega
  obtain ⟨l1, l2⟩ := hcl
  have HCZ := Lib.hid (show Ending.returned (.int .i64 (cmpZ (x.num.natAbs * y.den) (y.num.natAbs * x.den))) = .returned (.int .i64 cz) from by rw [hcz]); clear hcz
  go_enter Tryz.func29, Tryz.ntmps29
  have HS : St w [] w := St.start
  go_upto_region 0 with fail
  refine rgT [] HS ?_
  refine bX (#[.bool t1.s, .string t1.a, .string t1.d]) ?_
  intro bk2 _ _ hbk2_r
  refine nZ ?_
  refine bX (#[.bool t2.s, .string t2.a, .string t2.d]) ?_
  intro bk3 _ _ hbk3_r
  obtain ⟨_, _, hbk3_r⟩ := Reg.ne2 hbk3_r
  refine nZ ?_
  refine pU ?_
  refine Go.Proofs.YtmchjmflkaiakaaGreatDoor.d2 bk2 bk3 fun _ HS1=>?_
  clear HS
  go_upto_region 1 with fail
  have HPbk3 := HS1.p1
  have HPbk2 := HPbk3.p1
  refine wS [0, 4] (Reg.fin.put (Reg.fin.put Reg.fin_no _ _) _ _) (StR.move (StR.move (StR.no HPbk2))) ?_
  refine gV ?_
  refine cX rfl rfl (fit_c HT.out H1.out R1.out (by omega)) ?_
  refine gV ?_
  refine cX rfl rfl (fit_c HT.out H2.out R2.out (by omega)) ?_
  refine Seq.store rfl rfl rfl rfl rfl (by repeat first|exact rS|refine rN ‹_› ?_) (n := 3) rfl rfl (by kernel_rfl) (by intro u hu; simp at hu; rcases hu with rfl | rfl | rfl <;> rfl) (nZ ?_)
  refine Seq.store rfl rfl rfl rfl rfl (by repeat first|exact rS|refine rN ‹_› ?_) (n := 3) rfl rfl (by kernel_rfl) (by intro u hu; simp at hu; rcases hu with rfl | rfl | rfl <;> rfl) (nZ ?_)
  refine Go.Proofs.YtmchjmflkaiakaaGreatDoor.d2 bk2 bk3 fun _ HS2=>?_
  clear HS1 HPbk3 HPbk2
  go_upto_region 2 with fail
  refine rgT [] HS2 ?_
  refine pU ?_
  refine lC (.bool true) ?_
  refine pU ?_
  refine lC (.bool true) ?_
  refine pU ?_
  refine Go.Proofs.YtmchjmflkaiakaaGreatDoor.dS fun _ HS3=>?_
  clear HS2
  go_upto_region 6 with fail
  refine rgW [] HS3 ?_
  refine pU ?_
  refine lC (.string a1) ?_
  refine pU ?_
  refine lC (.string d2) ?_
  refine cX rfl rfl (fun w h => mul_G x.num.natAbs y.den k w R1.out.a R2.out.d H1.out.rz.1 H2.out.rz.2 (by omega)) ?_
  refine pU ?_
  refine lC (.string a2) ?_
  refine pU ?_
  refine lC (.string d1) ?_
  refine cX rfl rfl (fun w h => mul_G y.num.natAbs x.den k w R2.out.a R1.out.d H2.out.rz.1 H1.out.rz.2 (by omega)) ?_
  refine cX rfl rfl (fun w h => (cmp_G _ _ k w (H1.out.rz.1.mul H2.out.rz.2) (H2.out.rz.1.mul H1.out.rz.2) (by omega)).mono (fun e w2 hh => ⟨hh.1.trans HCZ.out, hh.2 ▸ Below.refl _ _⟩)) ?_
  refine pU ?_
  refine Go.Proofs.YtmchjmflkaiakaaGreatDoor.dS fun _ HS4=>?_
  clear HS3
  go_upto_region 7 with fail
  refine rgT [] HS4 ?_
  refine pU ?_
  refine lC (.bool true) ?_
  refine Go.Proofs.YtmchjmflkaiakaaGreatDoor.dS fun _ HS5=>?_
  clear HS4
  go_upto_region 8 with fail
  refine rgT [] HS5 ?_
  iterate 3 refine pU ?_
  refine Go.Proofs.YtmchjmflkaiakaaGreatDoor.dS fun _ HS6=>?_
  clear HS5
  have hwr : IntKind.i64.wrap (-cz) = -cz := IntWalk.i64_in _ (by omega)
  go_wp2_with fail
  go_ret
  exact ⟨by rw [← HQ.out]; first | rfl | exact congrArg (fun z => Ending.returned (Value.int .i64 z)) hwr, HS6.below⟩
end
section
variable {W : World} {l : List Own} {k : Nat} {x y : Rat} {g1 g2 : Bool} {t1 t2 : RT}
end
section
variable {W : World} {l : List Own} {k : Nat} {x y : Rat} {g1 g2 : Bool} {t1 t2 : RT}
theorem neg_w {z : Rat} (hT : Tab W) (h1 : RawT k x g1 t1) (hz : -x = z) (hk : k ≤ 4398046511104) (w : World) (h : St W l w) :
  Calls Tryz.prog 32 #[.agg t1.c] w fun e w' => e = .returned (.agg (RC z)) ∧ Below w.heap.size w w' := by
 subst hz
 have HT := Lib.hid (tabS hT h); clear hT h
 have H1 := Lib.hid h1; clear h1
 obtain ⟨s1, a1, d1, r1⟩ := R_parts x
 have R1 := Lib.hid r1; clear r1
 unfold RT.c
 rcases neg_parts R1.out with ⟨hn, rfl, he, h3⟩ | ⟨hn, rfl, he, h3⟩ | ⟨hn, rfl, he, h3⟩
 ·have HE2 := Lib.hid (show ¬ a1.toList = [] from fun e => by rw [e] at he; cases he); clear he hn
  have HQ := Lib.hid h3; clear h3
  go_enter Tryz.func32, Tryz.ntmps32
  have HS : St w [] w := St.start
  go_upto_region 0 with fail
  refine rgT [] HS ?_
  refine bX (#[.bool t1.s, .string t1.a, .string t1.d]) ?_
  intro bk1 _ _ hbk1_r
  refine nZ ?_
  refine Seq.alloc rfl rfl rfl (z := .agg (#[.bool false, .string ⟨#[]⟩, .string ⟨#[]⟩])) (by kernel_rfl) rfl ?_
  intro bk2 _ _ hbk2_r
  obtain ⟨_, _, hbk2_r⟩ := Reg.ne2 hbk2_r
  refine nZ ?_
  refine Go.Proofs.YtmchjmflkaiakaaGreatDoor.d2 bk1 bk2 fun ws1 HS1=>?_
  clear HS
  go_upto_region 1 with fail
  refine wp_seq_text [0] (StR.move (StR.no HS1)) ?_
  refine gV ?_
  refine cX rfl rfl (fit_c HT.out H1.out R1.out (by omega)) ?_
  refine Seq.store rfl rfl rfl rfl rfl (by repeat first|exact rS|refine rN ‹_› ?_) (n := 3) rfl rfl (by kernel_rfl) (by intro u hu; simp at hu; rcases hu with rfl | rfl | rfl <;> rfl) (nZ ?_)
  refine Go.Proofs.YtmchjmflkaiakaaGreatDoor.d1 bk1 fun ws2 HS2=>?_
  clear HS1
  go_upto_region 2 with fail
  refine wp_seq_text [2, 10] (StR.move (StR.no HS2)) ?_
  refine pU ?_
  refine Seq.getCell rfl rfl rfl rfl (by repeat first|exact rS|refine rN ‹_› ?_) (v := .bool true) rfl (by kernel_rfl) rfl (nZ ?_)
  iterate 2 refine pU ?_
  iterate 3 refine nW ?_
  refine pV (.bool false) (by intro w; go_simp <;> (first | (rw [HE2.out]; done) | exact HE2.out | (simp [HE2.out]; done) | (trace_state; done))) ?_
  refine pU ?_
  refine Seq.storeAt (v := .bool false) rfl rfl rfl rfl rfl (by repeat first|exact rS|refine rN ‹_› ?_) (Nat.le_of_ble_eq_true rfl) (by kernel_rfl) (by intro u hu; simp [Value.cells] at hu; subst hu; rfl) (cs' := #[.bool false, .string a1, .string d1]) rfl (nZ ?_)
  refine Go.Proofs.YtmchjmflkaiakaaGreatDoor.d1 bk1 fun ws3 HS3=>?_
  clear HS2
  go_upto_region 3 with fail
  have HPbk2 := HS3.p1
  refine wp_seq_text [] (StR.move (StR.no HPbk2)) ?_
  refine lV ?_
  refine Seq.store rfl rfl rfl rfl rfl (by repeat first|exact rS|refine rN ‹_› ?_) (n := 3) rfl rfl (by kernel_rfl) (by intro u hu; simp at hu; rcases hu with rfl | rfl | rfl <;> rfl) (nZ ?_)
  refine Go.Proofs.YtmchjmflkaiakaaGreatDoor.d1 bk2 fun ws4 HS4=>?_
  clear HS3 HPbk2
  go_wp2_with fail
  exact ret_own rfl rfl rfl HS4 (by repeat first|exact mC|apply mT) (n := 3) rfl (by kernel_rfl) ⟨congrArg (fun c => Ending.returned (.agg c)) HQ.out.rc, HS4.below⟩
 ·have HE2 := Lib.hid (show a1.toList = [] from List.isEmpty_iff.1 he); clear he hn
  have HQ := Lib.hid h3; clear h3
  go_enter Tryz.func32, Tryz.ntmps32
  have HS : St w [] w := St.start
  go_upto_region 0 with fail
  refine rgT [] HS ?_
  refine bX (#[.bool t1.s, .string t1.a, .string t1.d]) ?_
  intro bk1 _ _ hbk1_r
  refine nZ ?_
  refine Seq.alloc rfl rfl rfl (z := .agg (#[.bool false, .string ⟨#[]⟩, .string ⟨#[]⟩])) (by kernel_rfl) rfl ?_
  intro bk2 _ _ hbk2_r
  obtain ⟨_, _, hbk2_r⟩ := Reg.ne2 hbk2_r
  refine nZ ?_
  refine Go.Proofs.YtmchjmflkaiakaaGreatDoor.d2 bk1 bk2 fun ws1 HS1=>?_
  clear HS
  go_upto_region 1 with fail
  refine wp_seq_text [0] (StR.move (StR.no HS1)) ?_
  refine gV ?_
  refine cX rfl rfl (fit_c HT.out H1.out R1.out (by omega)) ?_
  refine Seq.store rfl rfl rfl rfl rfl (by repeat first|exact rS|refine rN ‹_› ?_) (n := 3) rfl rfl (by kernel_rfl) (by intro u hu; simp at hu; rcases hu with rfl | rfl | rfl <;> rfl) (nZ ?_)
  refine Go.Proofs.YtmchjmflkaiakaaGreatDoor.d1 bk1 fun ws2 HS2=>?_
  clear HS1
  go_upto_region 2 with fail
  refine wp_seq_text [2, 10] (StR.move (StR.no HS2)) ?_
  refine pU ?_
  refine Seq.getCell rfl rfl rfl rfl (by repeat first|exact rS|refine rN ‹_› ?_) (v := .bool false) rfl (by kernel_rfl) rfl (nZ ?_)
  iterate 3 refine pU ?_
  refine Seq.getCell rfl rfl rfl rfl (by repeat first|exact rS|refine rN ‹_› ?_) (v := .string a1) rfl (by kernel_rfl) rfl (nZ ?_)
  refine pV (.bool false) (by intro w; go_simp <;> (first | (rw [HE2.out]; done) | exact HE2.out | (simp [HE2.out]; done) | (trace_state; done))) ?_
  refine pV (.bool false) (by intro w; go_simp <;> (first | (rw [HE2.out]; done) | exact HE2.out | (simp [HE2.out]; done) | (trace_state; done))) ?_
  refine pU ?_
  refine Seq.storeAt (v := .bool false) rfl rfl rfl rfl rfl (by repeat first|exact rS|refine rN ‹_› ?_) (Nat.le_of_ble_eq_true rfl) (by kernel_rfl) (by intro u hu; simp [Value.cells] at hu; subst hu; rfl) (cs' := #[.bool false, .string a1, .string d1]) rfl (nZ ?_)
  refine Go.Proofs.YtmchjmflkaiakaaGreatDoor.d1 bk1 fun ws3 HS3=>?_
  clear HS2
  go_upto_region 3 with fail
  have HPbk2 := HS3.p1
  refine wp_seq_text [] (StR.move (StR.no HPbk2)) ?_
  refine lV ?_
  refine Seq.store rfl rfl rfl rfl rfl (by repeat first|exact rS|refine rN ‹_› ?_) (n := 3) rfl rfl (by kernel_rfl) (by intro u hu; simp at hu; rcases hu with rfl | rfl | rfl <;> rfl) (nZ ?_)
  refine Go.Proofs.YtmchjmflkaiakaaGreatDoor.d1 bk2 fun ws4 HS4=>?_
  clear HS3 HPbk2
  go_wp2_with fail
  exact ret_own rfl rfl rfl HS4 (by repeat first|exact mC|apply mT) (n := 3) rfl (by kernel_rfl) ⟨congrArg (fun c => Ending.returned (.agg c)) HQ.out.rc, HS4.below⟩
 ·have HE2 := Lib.hid (show ¬ a1.toList = [] from fun e => by rw [e] at he; cases he); clear he hn
  have HQ := Lib.hid h3; clear h3
  go_enter Tryz.func32, Tryz.ntmps32
  have HS : St w [] w := St.start
  go_upto_region 0 with fail
  refine rgT [] HS ?_
  refine bX (#[.bool t1.s, .string t1.a, .string t1.d]) ?_
  intro bk1 _ _ hbk1_r
  refine nZ ?_
  refine Seq.alloc rfl rfl rfl (z := .agg (#[.bool false, .string ⟨#[]⟩, .string ⟨#[]⟩])) (by kernel_rfl) rfl ?_
  intro bk2 _ _ hbk2_r
  obtain ⟨_, _, hbk2_r⟩ := Reg.ne2 hbk2_r
  refine nZ ?_
  refine Go.Proofs.YtmchjmflkaiakaaGreatDoor.d2 bk1 bk2 fun _ HS1=>?_
  clear HS
  go_upto_region 1 with fail
  refine wp_seq_text [0] (StR.move (StR.no HS1)) ?_
  refine gV ?_
  refine cX rfl rfl (fit_c HT.out H1.out R1.out (by omega)) ?_
  refine Seq.store rfl rfl rfl rfl rfl (by repeat first|exact rS|refine rN ‹_› ?_) (n := 3) rfl rfl (by kernel_rfl) (by intro u hu; simp at hu; rcases hu with rfl | rfl | rfl <;> rfl) (nZ ?_)
  refine Go.Proofs.YtmchjmflkaiakaaGreatDoor.d1 bk1 fun _ HS2=>?_
  clear HS1
  go_upto_region 2 with fail
  refine wp_seq_text [2, 10] (StR.move (StR.no HS2)) ?_
  refine pU ?_
  refine Seq.getCell rfl rfl rfl rfl (by repeat first|exact rS|refine rN ‹_› ?_) (v := .bool false) rfl (by kernel_rfl) rfl (nZ ?_)
  iterate 3 refine pU ?_
  refine Seq.getCell rfl rfl rfl rfl (by repeat first|exact rS|refine rN ‹_› ?_) (v := .string a1) rfl (by kernel_rfl) rfl (nZ ?_)
  refine pV (.bool true) (by intro w; go_simp <;> (first | (rw [HE2.out]; done) | exact HE2.out | (simp [HE2.out]; done) | (trace_state; done))) ?_
  refine pV (.bool true) (by intro w; go_simp <;> (first | (rw [HE2.out]; done) | exact HE2.out | (simp [HE2.out]; done) | (trace_state; done))) ?_
  refine pU ?_
  refine Seq.storeAt (v := .bool true) rfl rfl rfl rfl rfl (by repeat first|exact rS|refine rN ‹_› ?_) (Nat.le_of_ble_eq_true rfl) (by kernel_rfl) (by intro u hu; simp [Value.cells] at hu; subst hu; rfl) (cs' := #[.bool true, .string a1, .string d1]) rfl (nZ ?_)
  refine Go.Proofs.YtmchjmflkaiakaaGreatDoor.d1 bk1 fun _ HS3=>?_
  clear HS2
  go_upto_region 3 with fail
  have HPbk2 := HS3.p1
  refine wp_seq_text [] (StR.move (StR.no HPbk2)) ?_
  refine lV ?_
  refine Seq.store rfl rfl rfl rfl rfl (by repeat first|exact rS|refine rN ‹_› ?_) (n := 3) rfl rfl (by kernel_rfl) (by intro u hu; simp at hu; rcases hu with rfl | rfl | rfl <;> rfl) (nZ ?_)
  refine Go.Proofs.YtmchjmflkaiakaaGreatDoor.d1 bk2 fun _ HS4=>?_
  clear HS3 HPbk2
  go_wp2_with fail
  exact ret_own rfl rfl rfl HS4 (by repeat first|exact mC|apply mT) (n := 3) rfl (by kernel_rfl) ⟨congrArg (fun c => Ending.returned (.agg c)) HQ.out.rc, HS4.below⟩
end
theorem St.f1 {W w : World} {x0 a : Own} {l : List Own} (h : St W (x0 :: a :: l) w) : St W (a :: x0 :: l) w := St.perm h (List.perm_middle (l₁ := [x0]))
theorem St.f2 {W w : World} {x0 x1 a : Own} {l : List Own} (h : St W (x0 :: x1 :: a :: l) w) : St W (a :: x0 :: x1 :: l) w := St.perm h (List.perm_middle (l₁ := [x0, x1]))
theorem St.f3 {W w : World} {x0 x1 x2 a : Own} {l : List Own} (h : St W (x0 :: x1 :: x2 :: a :: l) w) : St W (a :: x0 :: x1 :: x2 :: l) w := St.perm h (List.perm_middle (l₁ := [x0, x1, x2]))
theorem St.f4 {W w : World} {x0 x1 x2 x3 a : Own} {l : List Own} (h : St W (x0 :: x1 :: x2 :: x3 :: a :: l) w) : St W (a :: x0 :: x1 :: x2 :: x3 :: l) w := St.perm h (List.perm_middle (l₁ := [x0, x1, x2, x3]))
theorem St.f5 {W w : World} {x0 x1 x2 x3 x4 a : Own} {l : List Own} (h : St W (x0 :: x1 :: x2 :: x3 :: x4 :: a :: l) w) : St W (a :: x0 :: x1 :: x2 :: x3 :: x4 :: l) w := St.perm h (List.perm_middle (l₁ := [x0, x1, x2, x3, x4]))
theorem St.f8 {W w : World} {x0 x1 x2 x3 x4 x5 x6 x7 a : Own} {l : List Own} (h : St W (x0 :: x1 :: x2 :: x3 :: x4 :: x5 :: x6 :: x7 :: a :: l) w) : St W (a :: x0 :: x1 :: x2 :: x3 :: x4 :: x5 :: x6 :: x7 :: l) w := St.perm h (List.perm_middle (l₁ := [x0, x1, x2, x3, x4, x5, x6, x7]))
theorem cmpQ_gt (x y : Rat) : cmpQ x y > 0 ↔ y < x := by unfold cmpQ; grind
set_option maxHeartbeats 4000000
set_option maxRecDepth 20000
variable {W : World} {l : List Own}
def QW (x y z u : RT) : Array Value := #[.bool x.s, .string x.a, .string x.d, .bool y.s, .string y.a, .string y.d, .bool z.s, .string z.a, .string z.d, .bool u.s, .string u.a, .string u.d]
theorem floorw_pos {k : Nat} {x : Rat} {g1 : Bool} {t1 : RT} (w : World) (hT : Tab w) (hr : RawT k x g1 t1) (hs : 0 ≤ flQ x) (hb : (flQ x).natAbs ≤ 9223372036854775807) (hk : k ≤ 4398046511104) :
  Calls Tryz.prog 164 #[.agg t1.c] w fun e w' => e = .returned (.tuple #[.int .i64 (flQ x), .int .i64 0]) ∧ Below w.heap.size w w' := by
 have HX := Lib.hid (And.intro hr.rz (And.intro hb hT)); have HR := Lib.hid hr; clear hr hb hT
 have hd : decide (Rat.num ((flQ x : Int) : Rat) < 0) = false := decide_eq_false (show ¬ flQ x < 0 by omega)
 have HS0 := Lib.hid hs; clear hs
 have HN := Lib.hid (show (Rat.num ((flQ x : Int) : Rat)).natAbs ≤ 9223372036854775807 from HX.out.2.1)
 have hv : ((flQ x).natAbs : Int) = flQ x := by have := HS0.out; show ((flQ x).natAbs : Int) = _; omega
 go_enter Tryz.func164, Tryz.ntmps164
 have HS : St w [] w := St.start
 go_upto_region 0 with fail
 refine rgT [] HS ?_
 refine bX t1.c ?_
 intro b1 _ _ hb1_r
 refine nZ ?_
 iterate 2 refine pR ?_
 refine Go.Proofs.YtmchjmflkaiakaaGreatDoor.d1 b1 fun _ HS1=>?_
 clear HS
 go_upto_region 1 with fail
 have HP1 : St w [(b1, 27, t1.c)] _ := St.perm HS1 (by first | exact List.Perm.refl _ | exact List.Perm.swap _ _ _ | (simp [List.perm_cons, List.Perm.swap, List.perm_middle]))
 refine wp_seq_text [0] (StR.move (StR.no HP1)) ?_
 refine gV ?_
 refine cX rfl rfl (fit_w (k := k) HX.out.2.2 HR.out (by omega)) ?_
 refine cX rfl rfl (whole_q (k := k) HX.out.2.2 HX.out.1 rfl (by omega)) ?_
 refine sV (RC_one _) ?_
 refine Go.Proofs.YtmchjmflkaiakaaGreatDoor.d1 b1 fun _ HS2=>?_
 clear HS1 HP1
 go_upto_region 2 with fail
 refine rgT [] HS2 ?_
 refine pR ?_
 refine lC (.string (S (Rat.num ((flQ x : Int) : Rat)).natAbs)) ?_
 refine cL (int_s _ HN.out) ?_
 iterate 5 refine pR ?_
 refine Go.Proofs.YtmchjmflkaiakaaGreatDoor.dS fun _ HS3=>?_
 clear HS2
 go_upto_region 3 with fail
 refine rgT [] HS3 ?_
 refine pR ?_
 refine Seq.loadCell rfl rfl rfl rfl (by repeat first|exact mC|apply mT) (v := .bool false) (by rw [← hd]; rfl) (by kernel_rfl) rfl (nZ ?_)
 refine Go.Proofs.YtmchjmflkaiakaaGreatDoor.dS fun _ HS4=>?_
 clear HS3
 go_upto_region 5 with fail
 refine rgT [] HS4 ?_
 iterate 4 refine pR ?_
 refine Go.Proofs.YtmchjmflkaiakaaGreatDoor.dS fun _ HS5=>?_
 clear HS4
 go_wp2_with fail
 go_ret2
 exact ⟨by first | rfl | rw [hv], HS5.below⟩
theorem floorw_neg {k : Nat} {x : Rat} {g1 : Bool} {t1 : RT} (w : World) (hT : Tab w) (hr : RawT k x g1 t1) (hs : flQ x < 0) (hb : (flQ x).natAbs ≤ 9223372036854775807) (hk : k ≤ 4398046511104) :
  Calls Tryz.prog 164 #[.agg t1.c] w fun e w' => e = .returned (.tuple #[.int .i64 (flQ x), .int .i64 0]) ∧ Below w.heap.size w w' := by
 have HX := Lib.hid (And.intro hr.rz (And.intro hb hT)); have HR := Lib.hid hr; clear hr hb hT
 have hd : decide (Rat.num ((flQ x : Int) : Rat) < 0) = true := decide_eq_true (show flQ x < 0 from hs)
 have HS0 := Lib.hid hs; clear hs
 have HN := Lib.hid (show (Rat.num ((flQ x : Int) : Rat)).natAbs ≤ 9223372036854775807 from HX.out.2.1)
 have hv : IntKind.i64.wrap (-((flQ x).natAbs : Int)) = flQ x := by have := HS0.out; show IntKind.i64.wrap (-((flQ x).natAbs : Int)) = _; rw [IntWalk.i64_in _ (by have := HX.out.2.1; omega)]; omega
 go_enter Tryz.func164, Tryz.ntmps164
 have HS : St w [] w := St.start
 go_upto_region 0 with fail
 refine rgT [] HS ?_
 refine bX t1.c ?_
 intro b1 _ _ hb1_r
 refine nZ ?_
 iterate 2 refine pR ?_
 refine Go.Proofs.YtmchjmflkaiakaaGreatDoor.d1 b1 fun _ HS1=>?_
 clear HS
 go_upto_region 1 with fail
 have HP1 : St w [(b1, 27, t1.c)] _ := St.perm HS1 (by first | exact List.Perm.refl _ | exact List.Perm.swap _ _ _ | (simp [List.perm_cons, List.Perm.swap, List.perm_middle]))
 refine wp_seq_text [0] (StR.move (StR.no HP1)) ?_
 refine gV ?_
 refine cX rfl rfl (fit_w (k := k) HX.out.2.2 HR.out (by omega)) ?_
 refine cX rfl rfl (whole_q (k := k) HX.out.2.2 HX.out.1 rfl (by omega)) ?_
 refine sV (RC_one _) ?_
 refine Go.Proofs.YtmchjmflkaiakaaGreatDoor.d1 b1 fun _ HS2=>?_
 clear HS1 HP1
 go_upto_region 2 with fail
 refine rgT [] HS2 ?_
 refine pR ?_
 refine lC (.string (S (Rat.num ((flQ x : Int) : Rat)).natAbs)) ?_
 refine cL (int_s _ HN.out) ?_
 iterate 5 refine pR ?_
 refine Go.Proofs.YtmchjmflkaiakaaGreatDoor.dS fun _ HS3=>?_
 clear HS2
 go_upto_region 3 with fail
 refine rgT [] HS3 ?_
 refine pR ?_
 refine Seq.loadCell rfl rfl rfl rfl (by repeat first|exact mC|apply mT) (v := .bool true) (by rw [← hd]; rfl) (by kernel_rfl) rfl (nZ ?_)
 refine Go.Proofs.YtmchjmflkaiakaaGreatDoor.dS fun _ HS4=>?_
 clear HS3
 go_upto_region 4 with fail
 refine rgT [] HS4 ?_
 iterate 3 refine pR ?_
 refine Go.Proofs.YtmchjmflkaiakaaGreatDoor.dS fun _ HS5=>?_
 clear HS4
 go_upto_region 5 with fail
 refine rgT [] HS5 ?_
 iterate 4 refine pR ?_
 refine Go.Proofs.YtmchjmflkaiakaaGreatDoor.dS fun _ HS6=>?_
 clear HS5
 go_wp2_with fail
 go_ret2
 exact ⟨by first | rfl | rw [hv], HS6.below⟩
theorem floor_w {k : Nat} {x : Rat} {g1 : Bool} {t1 : RT} {z : Int} (hT : Tab W) (hr : RawT k x g1 t1) (hz : flQ x = z) (hb : z.natAbs ≤ 9223372036854775807) (hk : k ≤ 4398046511104) (w : World) (h : St W l w) :
  Calls Tryz.prog 164 #[.agg t1.c] w fun e w' => e = .returned (.tuple #[.int .i64 z, .int .i64 0]) ∧ Below w.heap.size w w' := by
 subst hz
 by_cases h0 : flQ x < 0
 ·exact floorw_neg w (tabS hT h) hr h0 hb hk
 ·exact floorw_pos w (tabS hT h) hr (by omega) hb hk
theorem on_q {x : Int} (h1 : -64 ≤ x) (h2 : x < 64) (w : World) (h : St W l w) : Calls Tryz.prog 165 #[.int .i64 x] w fun e w' => e = .returned (.bool true) ∧ Below w.heap.size w w' := by
 refine (on_yes x w h1 h2).mono ?_
 rintro e w' ⟨rfl, rfl⟩
 exact ⟨rfl, Below.refl _ _⟩
theorem neg_w1 {n : Int} (h : -64 ≤ -n - 1) (h2 : -n - 1 < 64) : IntKind.i64.wrap (-n) = -n := IntWalk.i64_in _ (by omega)
theorem neg_w2 {n f : Int} (h : -64 ≤ f) (h2 : f < 64) (e : f = -n - 1) : IntKind.i64.wrap (-n - 1) = f := by rw [← e]; exact IntWalk.i64_in _ (by omega)
theorem sides_w {k : Nat} {x : Rat} {x_g : Bool} {x_t : RT} {y : Rat} {y_g : Bool} {y_t : RT} {n0 f0 l0 : Int} (hT : Tab W) (Zx : RawT k x x_g x_t) (Zy : RawT k y y_g y_t) (hn : flQ (-x) = n0) (hl : flQ y = l0) (hf : f0 = -n0 - 1) (hf1 : -64 ≤ f0) (hf2 : f0 < 64) (hg1 : -64 ≤ l0) (hg2 : l0 < 64) (hk0 : 2 ≤ k) (hk : k ≤ 1099511627776) (w : World) (h : St W l w) :
  Calls Tryz.prog 136 #[.agg x_t.c, .agg y_t.c] w fun e w' => e = .returned (.tuple #[.int .i64 f0, .int .i64 l0, .bool true]) ∧ Below w.heap.size w w' := by
 have HT := Lib.hid (tabS hT h); clear hT h
 have Z_x := Lib.hid Zx; clear Zx
 have Z_y := Lib.hid Zy; clear Zy
 have hn0 := Lib.hid hn
 have hl0 := Lib.hid hl
 have hn1 : Hid (n0.natAbs ≤ 9223372036854775807) := Lib.hid (by omega)
 have hl1 : Hid (l0.natAbs ≤ 9223372036854775807) := Lib.hid (by omega)
 have hw1 := Lib.hid (neg_w1 (n := n0) (by omega) (by omega))
 have hw2 := Lib.hid (neg_w2 (n := n0) hf1 hf2 hf)
 clear hn hl hf
 go_enter Tryz.func136, Tryz.ntmps136
 have HS : St w [] w := St.start
 go_upto_region 0 with fail
 refine rgT [] HS ?_
 refine bX (RT.c x_t) ?_
 intro bk2 _ _ hbk2_r
 refine nZ ?_
 refine bX (RT.c y_t) ?_
 intro bk3 _ _ hbk3_r
 obtain ⟨_, _, hbk3_r⟩ := Reg.ne2 hbk3_r
 refine nZ ?_
 iterate 3 refine pU ?_
 refine Go.Proofs.YtmchjmflkaiakaaGreatDoor.d2 bk2 bk3 fun _ HS1=>?_
 clear HS
 go_upto_region 1 with fail
 refine rgT [] HS1 ?_
 refine lV ?_
 refine cX rfl rfl (floor_w (k := k) HT.out Z_y.out hl0.out hl1.out (by omega)) ?_
 refine pU ?_
 refine pV (.int .i64 l0) (fun w => rfl) ?_
 refine pV (.int .i64 0) (fun w => rfl) ?_
 iterate 2 refine pU ?_
 refine Go.Proofs.YtmchjmflkaiakaaGreatDoor.dS fun _ HS2=>?_
 clear HS1
 go_upto_region 2 with fail
 refine rgT [] HS2 ?_
 refine lV ?_
 refine cX rfl rfl (neg_w (k := (1 * k + 2)) HT.out (Z_x.out.more (by omega)) rfl (by omega)) ?_
 refine cX rfl rfl (floor_q (k := k) HT.out Z_x.out.rz.neg hn0.out hn1.out (by omega)) ?_
 refine pU ?_
 refine pV (.int .i64 n0) (fun w => rfl) ?_
 refine pV (.int .i64 0) (fun w => rfl) ?_
 iterate 2 refine pU ?_
 refine Go.Proofs.YtmchjmflkaiakaaGreatDoor.dS fun _ HS3=>?_
 clear HS2
 go_upto_region 3 with fail
 refine rgT [] HS3 ?_
 refine pU ?_
 refine pV (.int .i64 (-n0)) (by intro w; go_simp <;> (first | (rw [hw1.out]; done) | exact hw1.out | (simp [hw1.out]; done) | (trace_state; done))) ?_
 refine pV (.int .i64 f0) (by intro w; go_simp <;> (first | (rw [hw2.out]; done) | exact hw2.out | (simp [hw2.out]; done) | (trace_state; done))) ?_
 refine pU ?_
 refine Go.Proofs.YtmchjmflkaiakaaGreatDoor.dS fun _ HS4=>?_
 clear HS3
 go_upto_region 4 with fail
 refine rgT [] HS4 ?_
 iterate 10 refine pU ?_
 refine cL (on_q hf1 hf2) ?_
 iterate 3 refine pU ?_
 refine cL (on_q hg1 hg2) ?_
 iterate 4 refine pU ?_
 refine Go.Proofs.YtmchjmflkaiakaaGreatDoor.dS fun _ HS5=>?_
 clear HS4
 go_wp2_with fail
 go_ret3
 exact ⟨rfl, HS5.below⟩
def rowsL (x0 y0 : Int) (nX j : Nat) : List Ft := (List.range j).flatMap fun (q : Nat) => (List.range nX).map fun (i : Nat) => ⟨x0 + i, y0 + q⟩
theorem rowsL_succ (x0 y0 : Int) (nX j : Nat) : rowsL x0 y0 nX (j + 1) = rowsL x0 y0 nX j ++ (List.range nX).map fun (i : Nat) => ⟨x0 + i, y0 + j⟩ := by
 unfold rowsL
 rw [List.range_succ, List.flatMap_append]
 simp
theorem rowsL_len (x0 y0 : Int) (nX j : Nat) : (rowsL x0 y0 nX j).length = j * nX := by
 induction j with
 | zero => simp [rowsL]
 | succ j ih => rw [rowsL_succ, List.length_append, ih]; simp [Nat.succ_mul]
theorem rows_part {x0 y0 : Int} {nX j i : Nat} : rowsL x0 y0 nX j ++ ((List.range (i + 1)).map fun (i : Nat) => (⟨x0 + i, y0 + j⟩ : Ft)) = (rowsL x0 y0 nX j ++ (List.range i).map fun (i : Nat) => (⟨x0 + i, y0 + j⟩ : Ft)) ++ [⟨x0 + i, y0 + j⟩] := by
 rw [List.range_succ, List.map_append, List.append_assoc]; rfl
theorem rows_0 {w wr : World} {v : Value} {x0 y0 : Int} {nX j : Nat} (h : FRow w v (rowsL x0 y0 nX j) wr) : FRow w v (rowsL x0 y0 nX j ++ ((List.range 0).map fun (i : Nat) => (⟨x0 + i, y0 + j⟩ : Ft))) wr := by simpa using h
theorem rows_1 {w wr : World} {v : Value} {x0 y0 : Int} {nX j : Nat} (h : FRow w v (rowsL x0 y0 nX j ++ ((List.range nX).map fun (i : Nat) => (⟨x0 + i, y0 + j⟩ : Ft))) wr) : FRow w v (rowsL x0 y0 nX (j + 1)) wr := by rw [rowsL_succ]; exact h
theorem rows_le {nX nY j i : Nat} (h : nX * nY ≤ 400) (hj : j < nY) (hi : i ≤ nX) : j * nX + i ≤ 400 := by
 have h1 : (j + 1) * nX ≤ nY * nX := Nat.mul_le_mul_right _ hj
 rw [Nat.succ_mul] at h1
 rw [Nat.mul_comm] at h
 omega
theorem of_w {k : Nat} {x y z u : Rat} {x_g y_g z_g u_g : Bool} {x_t y_t z_t u_t : RT} {n0 n1 x0 x1 y0 y1 : Int} {nX nY : Nat} (w : World) (hT : Tab w) (Zx : RawT k x x_g x_t) (Zy : RawT k y y_g y_t) (Zz : RawT k z z_g z_t) (Zu : RawT k u u_g u_t) (hxz : x ≤ z) (hyu : y ≤ u)
  (hn0 : flQ (-x) = n0) (hl0 : flQ z = x1) (he0 : x0 = -n0 - 1) (h01 : -64 ≤ x0) (h02 : x0 < 64) (h03 : -64 ≤ x1) (h04 : x1 < 64) (hn1 : flQ (-y) = n1) (hl1 : flQ u = y1) (he1 : y0 = -n1 - 1) (h11 : -64 ≤ y0) (h12 : y0 < 64) (h13 : -64 ≤ y1) (h14 : y1 < 64)
  (hX : (nX : Int) = x1 - x0 + 1) (hY : (nY : Int) = y1 - y0 + 1) (hm : nX * nY ≤ 400) (hk0 : 2 ≤ k) (hk : k ≤ 1099511627776) :
  Calls Tryz.prog 86 #[.agg (QW x_t y_t z_t u_t)] w fun e w' => ∃ v, e = .returned (.tuple #[v, .int .i64 0]) ∧ FRow w v (rowsL x0 y0 nX nY) w' := by
 have HT := Lib.hid hT; clear hT
 have Z_x := Lib.hid Zx; clear Zx
 have Z_y := Lib.hid Zy; clear Zy
 have Z_z := Lib.hid Zz; clear Zz
 have Z_u := Lib.hid Zu; clear Zu
 replace hn0 := Lib.hid hn0
 replace hn1 := Lib.hid hn1
 replace hl0 := Lib.hid hl0
 replace hl1 := Lib.hid hl1
 replace he0 := Lib.hid he0
 replace he1 := Lib.hid he1
 have hw1 : Hid (IntKind.i64.wrap (x1 - x0) = x1 - x0) := Lib.hid (IntWalk.i64_in _ (by omega))
 have hw2 : Hid (IntKind.i64.wrap (x1 - x0 + 1) = (nX : Int)) := Lib.hid (by rw [hX]; exact IntWalk.i64_in _ (by omega))
 have hw3 : Hid (IntKind.i64.wrap (y1 - y0) = y1 - y0) := Lib.hid (IntWalk.i64_in _ (by omega))
 have hw4 : Hid (IntKind.i64.wrap (y1 - y0 + 1) = (nY : Int)) := Lib.hid (by rw [hY]; exact IntWalk.i64_in _ (by omega))
 have hm' : (nX : Int) * (nY : Int) ≤ 400 := by exact_mod_cast hm
 have hm0 : (0 : Int) ≤ (nX : Int) * (nY : Int) := by exact_mod_cast Nat.zero_le _
 have hw5 : Hid (IntKind.i64.wrap ((nX : Int) * (nY : Int)) = (nX : Int) * (nY : Int)) := Lib.hid (IntWalk.i64_in _ (by omega))
 have hw6 : Hid ((nX : Int) * (nY : Int) ≤ 400) := Lib.hid hm'
 have hM := Lib.hid hm
 have hXX := Lib.hid hX
 have hYY := Lib.hid hY
 have hb1 : nX ≤ 200 := by omega
 have hb2 : nY ≤ 200 := by omega
 clear hX hY hm hm' hm0
 go_enter Tryz.func86, Tryz.ntmps86
 have HS : St w [] w := St.start
 go_upto_region 0 with fail
 refine rgT [] HS ?_
 refine bX (QW x_t y_t z_t u_t) ?_
 intro bk1 _ _ hbk1_r
 refine nZ ?_
 iterate 2 refine pU ?_
 refine Go.Proofs.YtmchjmflkaiakaaGreatDoor.d1 bk1 fun _ HS1=>?_
 clear HS
 obtain ⟨v1, hv1, r1, r1'⟩ : ∃ v, cmpQ x z = v ∧ decide (v > 0) = false ∧ decide (0 < v) = false := ⟨_, rfl, decide_eq_false (fun h => absurd ((cmpQ_gt _ _).1 h) (by grind)), decide_eq_false (fun h => absurd ((cmpQ_gt _ _).1 h) (by grind))⟩
 have C1 := Lib.hid hv1; clear hv1
 obtain ⟨v2, hv2, r2, r2'⟩ : ∃ v, cmpQ y u = v ∧ decide (v > 0) = false ∧ decide (0 < v) = false := ⟨_, rfl, decide_eq_false (fun h => absurd ((cmpQ_gt _ _).1 h) (by grind)), decide_eq_false (fun h => absurd ((cmpQ_gt _ _).1 h) (by grind))⟩
 have C2 := Lib.hid hv2; clear hv2
 clear hxz hyu
 go_upto_region 1 with fail
 refine rgT [] HS1 ?_
 iterate 2 refine pU ?_
 refine lA (RT.c x_t) ?_
 iterate 2 refine pU ?_
 refine lA (RT.c z_t) ?_
 refine cX rfl rfl (cmp_w (k := (1 * k + 2)) HT.out (Z_x.out.more (by omega)) (Z_z.out.more (by omega)) C1.out (by omega)) ?_
 iterate 4 refine pU ?_
 refine lA (RT.c y_t) ?_
 iterate 2 refine pU ?_
 refine lA (RT.c u_t) ?_
 refine cX rfl rfl (cmp_w (k := (1 * k + 2)) HT.out (Z_y.out.more (by omega)) (Z_u.out.more (by omega)) C2.out (by omega)) ?_
 iterate 2 refine pU ?_
 refine Go.Proofs.YtmchjmflkaiakaaGreatDoor.dS fun _ HS2=>?_
 clear HS1
 go_upto_region 3 with fail
 refine rgT [] HS2 ?_
 iterate 2 refine pU ?_
 refine lA (RT.c x_t) ?_
 iterate 2 refine pU ?_
 refine lA (RT.c z_t) ?_
 refine cX rfl rfl (sides_w (k := k) HT.out Z_x.out Z_z.out hn0.out hl0.out he0.out h01 h02 h03 h04 (by omega) (by omega)) ?_
 refine pU ?_
 refine pV (.int .i64 x0) (fun w => rfl) ?_
 refine pV (.int .i64 x1) (fun w => rfl) ?_
 refine pV (.bool true) (fun w => rfl) ?_
 iterate 3 refine pU ?_
 refine Go.Proofs.YtmchjmflkaiakaaGreatDoor.dS fun _ HS3=>?_
 clear HS2
 go_upto_region 4 with fail
 refine rgT [] HS3 ?_
 iterate 2 refine pU ?_
 refine lA (RT.c y_t) ?_
 iterate 2 refine pU ?_
 refine lA (RT.c u_t) ?_
 refine cX rfl rfl (sides_w (k := k) HT.out Z_y.out Z_u.out hn1.out hl1.out he1.out h11 h12 h13 h14 (by omega) (by omega)) ?_
 refine pU ?_
 refine pV (.int .i64 y0) (fun w => rfl) ?_
 refine pV (.int .i64 y1) (fun w => rfl) ?_
 refine pV (.bool true) (fun w => rfl) ?_
 iterate 3 refine pU ?_
 refine Go.Proofs.YtmchjmflkaiakaaGreatDoor.dS fun _ HS4=>?_
 clear HS3
 go_upto_region 5 with fail
 refine rgT [] HS4 ?_
 iterate 6 refine pU ?_
 refine Go.Proofs.YtmchjmflkaiakaaGreatDoor.dS fun _ HS5=>?_
 clear HS4
 go_upto_region 7 with fail
 refine rgT [] HS5 ?_
 iterate 2 refine pU ?_
 refine pV (.int .i64 (x1 - x0)) (by intro w; go_simp <;> (first | (rw [hw1.out]; done) | exact hw1.out | (simp [hw1.out]; done) | (trace_state; done))) ?_
 refine pV (.int .i64 (nX : Int)) (by intro w; go_simp <;> (first | (rw [hw2.out]; done) | exact hw2.out | (simp [hw2.out]; done) | (trace_state; done))) ?_
 iterate 2 refine pU ?_
 refine pV (.int .i64 (y1 - y0)) (by intro w; go_simp <;> (first | (rw [hw3.out]; done) | exact hw3.out | (simp [hw3.out]; done) | (trace_state; done))) ?_
 refine pV (.int .i64 (nY : Int)) (by intro w; go_simp <;> (first | (rw [hw4.out]; done) | exact hw4.out | (simp [hw4.out]; done) | (trace_state; done))) ?_
 refine pV (.int .i64 ((nX : Int) * (nY : Int))) (by intro w; go_simp <;> (first | (rw [hw5.out]; done) | exact hw5.out | (simp [hw5.out]; done) | (trace_state; done))) ?_
 refine pV (.bool false) (by intro w; go_simp <;> (first | (rw [hw6.out]; done) | exact hw6.out | (simp [hw6.out]; done) | (trace_state; done))) ?_
 refine Go.Proofs.YtmchjmflkaiakaaGreatDoor.dS fun _ HS6=>?_
 clear HS5
 have HB := Lib.hid HS6.below
 clear HS6 Z_x Z_y Z_z Z_u hn0 hn1 hl0 hl1 he0 he1 hw1 hw2 hw3 hw4 hw5 hw6 HT
 go_wp2_with fail
 go_loopg [10, 11] nY (fun kx ov s11 wr => ∃ j : Nat, kx = nY - j ∧ j ≤ nY ∧ s11 = .int .i64 (y0 + (j : Int)) ∧ Hid (FRow w ov (rowsL x0 y0 nX j) wr))
 case atStart => exact ⟨0, by omega, Nat.zero_le _, by go_num, FRow.nil HB.out⟩
 case round =>
  obtain ⟨j, hgk, hj, rfl, HR⟩ := hrel
  have HGK := Lib.hid hgk; clear hgk
  have HYY := hYY.out
  by_cases hlt : j < nY
  ·have hc : y0 + (j : Int) ≤ y1 := by omega
   have HLT := Lib.hid hlt
   clear HYY
   have hwy : IntKind.i64.wrap (y0 + (j : Int) + 1) = y0 + (j : Int) + 1 := IntWalk.i64_in _ (by omega)
   go_wp2_with fail
   have HR0 := Lib.hid (rows_0 HR.out)
   clear HR
   go_loopg [10, 12] nX (fun kx oi s12 wi => ∃ i : Nat, kx = nX - i ∧ i ≤ nX ∧ s12 = .int .i64 (x0 + (i : Int)) ∧ Hid (FRow w oi (rowsL x0 y0 nX j ++ ((List.range i).map fun (i : Nat) => (⟨x0 + i, y0 + j⟩ : Ft))) wi))
   case atStart => exact ⟨0, by omega, Nat.zero_le _, by go_num, HR0⟩
   case round =>
    clear HR0
    obtain ⟨i, hgk2, hi, rfl, HR⟩ := hrel
    have HGK2 := Lib.hid hgk2; clear hgk2
    have HXX := hXX.out
    by_cases hlt2 : i < nX
    ·have hc2 : x0 + (i : Int) ≤ x1 := by omega
     have hwx : IntKind.i64.wrap (x0 + (i : Int) + 1) = x0 + (i : Int) + 1 := IntWalk.i64_in _ (by omega)
     have HN : Hid ((rowsL x0 y0 nX j ++ ((List.range i).map fun (i : Nat) => (⟨x0 + i, y0 + j⟩ : Ft))).length ≤ 400) := Lib.hid (by
      rw [List.length_append, rowsL_len]; simp only [List.length_map, List.length_range]; exact rows_le hM.out HLT.out hi)
     have HP := Lib.hid (rows_part (x0 := x0) (y0 := y0) (nX := nX) (j := j) (i := i))
     clear HXX
     obtain ⟨A5, c5, rfl, hl5, hm5, hI5⟩ := HR.out.facts
     clear hI5 hl5
     unfold maxLen at hm5
     generalize hxs : rowsL x0 y0 nX j ++ ((List.range i).map fun (i : Nat) => (⟨x0 + i, y0 + j⟩ : Ft)) = xs at *
     generalize hn5 : xs.length = n5 at *
     have HN5 := Lib.hid hn5; clear hn5 hxs
     have hn4 : n5 ≤ 400 := HN.out
     have hnm : n5 + 1 ≤ maxLen := by unfold maxLen; omega
     have hby : (n5 + 1) * 16 ≤ 140737488355328 := by omega
     go_wp2_with (
      at_builtin
      refine wpList_append_oneL rfl (.tmp 81) (.tmp 85) _ rfl Tryz.underlying117 infoFt rfl rfl (HR.out.row HN5.out) rfl rfl rfl (one_ft ⟨_, _⟩) hnm hby ?_
      intro v' w3 hR3 hb3)
     have HR3 := Lib.hid (FRow.add (x := ⟨x0 + (i : Int), y0 + (j : Int)⟩) HN5.out hR3)
     clear hR3 hb3
     go_roundg (nX - (i + 1))
     case measure => rw [HGK2.out]; omega
     case rel => exact ⟨i + 1, rfl, hlt2, by go_num, by rw [HP.out]; exact HR3⟩
    ·have hc2 : ¬ x0 + (i : Int) ≤ x1 := by omega
     have hc3 : decide (x0 + (i : Int) ≤ x1) = false := decide_eq_false hc2
     obtain rfl : i = nX := by omega
     have HR3 := Lib.hid (rows_1 HR.out)
     clear HR HXX hc2
     go_wp2_with fail
     go_roundg (nY - (j + 1))
     case measure => rw [HGK.out]; have := HLT.out; omega
     case rel => exact ⟨j + 1, rfl, HLT.out, by go_num, HR3⟩
  ·have hc : ¬ y0 + (j : Int) ≤ y1 := by omega
   have hc3 : decide (y0 + (j : Int) ≤ y1) = false := decide_eq_false hc
   obtain rfl : j = nY := by omega
   clear HYY hc
   go_wp2_with fail
   go_ret2
   exact ⟨_, rfl, HR.out⟩
end Go.Proofs.YtmchjmflkaiakaaGreatDoor
