/- Joined texts: Ints Grow GrowI GrowL GrA GrL GrG. -/
import Derived.Test.YtoejojfjiikogaaGreatDoorBunLib
import Derived.Deep.Onto
import Derived.Test.YtoejojfjiikogaaGreatDoorChecked
import Derived.Deep.LoopGhost
import Derived.Deep.QuietTactic
import Derived.BigQuiet
import Derived.WalkSpells
import Derived.ChangeKeysEq
import Derived.Lib.SlicesCompact
import Derived.Shelf.SlSortCmp.WholeK
namespace Go.Proofs.YtoejojfjiikogaaGreatDoor
open Go.RowKit Go.ChangeShapes Go.WideShapes Go.Deep
set_option linter.unusedVariables false

/-- the slice at A holds the integers xs -/
def IntsAt (w : World) (B : Nat) (A : Option Addr) (xs : List Int) : Prop :=
  ∀ k x, xs[k]? = some x → ∃ b off, A = some ⟨b, off, none⟩ ∧ b < B ∧ w.cell? ⟨b, off + k, none⟩ = some (.int .i64 x)
section
variable {w w' : World} {B B' : Nat} {A : Option Addr} {xs : List Int}
theorem IntsAt.below (h : IntsAt w B A xs) (hb : Below B' w w') (hB : B ≤ B') : IntsAt w' B A xs := by
  intro k x hx
  obtain ⟨b, off, hA, hlt, h0⟩ := h k x hx
  exact ⟨b, off, hA, hlt, (hb.cell (p := ⟨b, _, none⟩) (Nat.lt_of_lt_of_le hlt hB)).trans h0⟩
theorem IntsAt.more (h : IntsAt w B A xs) (hB : B ≤ B') : IntsAt w B' A xs := by
  intro k x hx
  obtain ⟨b, off, hA, hlt, h0⟩ := h k x hx
  exact ⟨b, off, hA, Nat.lt_of_lt_of_le hlt hB, h0⟩
theorem IntsAt.nil : IntsAt w B A [] := fun k x h => by simp at h
theorem IntsAt.next (h : IntsAt w w.heap.size A xs) (hb : Below w.heap.size w w') : IntsAt w' w'.heap.size A xs := (h.below hb (Nat.le_refl _)).more hb.size
def cellsI (xs : List Int) : List Value := xs.map fun x => .int .i64 x
theorem IntsAt.reads (h : IntsAt w B A xs) : Reads w B 1 A xs.length (cellsI xs) := by
  refine ⟨by simp [cellsI], fun hn => ?_⟩
  obtain ⟨u0, hu0⟩ := get_of_lt rfl hn
  obtain ⟨b, off, hA, hb, _⟩ := h 0 u0 hu0
  refine ⟨_, hA, hb, fun j v hv => ?_⟩
  simp only [cellsI, List.getElem?_map] at hv
  cases hx : xs[j]? with
  | none => simp [hx] at hv
  | some x =>
    rw [hx] at hv
    obtain ⟨b', off', hA', _, c0⟩ := h _ x hx
    rw [hA] at hA'; cases hA'
    rw [Addr.add_lit, c0]; simpa using hv
theorem IntsAt.of_reads (h : Reads w B 1 A xs.length (cellsI xs)) (hs : ∀ ad, A = some ad → ad.spot = none) : IntsAt w B A xs := by
  intro k x hx
  have hk : k < xs.length := by
    rcases Nat.lt_or_ge k xs.length with h' | h'
    · exact h'
    · rw [List.getElem?_eq_none h'] at hx; cases hx
  obtain ⟨ad, u, hA, hb, hu, hc⟩ := h.at_ hk
  obtain ⟨b, off, spot⟩ := ad
  have := hs _ hA
  dsimp only at this
  subst this
  refine ⟨b, off, hA, hb, ?_⟩
  rw [Addr.add_lit] at hc
  rw [hc, ← hu]
  simp [cellsI, hx]
theorem IntsAt.of_own {base : Nat} {e : TypeId} {v : Value} (h : w.ownsRow base e 1 v xs.length (cellsI xs)) :
    ∃ A c, v = .slice A xs.length c ∧ xs.length ≤ c ∧ c ≤ maxLen ∧ IntsAt w w.heap.size A xs := by
  obtain ⟨h1, h2⟩ := h
  rcases h2 with ⟨rfl, hx⟩ | ⟨g, cap, cur, rfl, hg, hh, hnc, hm, hs, hc⟩
  · have : xs = [] := by simpa [cellsI] using hx
    subst this
    exact ⟨none, 0, rfl, Nat.le_refl _, by unfold maxLen; omega, IntsAt.nil⟩
  · refine ⟨some ⟨g, 0, none⟩, cap, rfl, by assumption, by assumption, ?_⟩
    exact IntsAt.of_reads (Reads.of_own (c := cap) ⟨h1, .inr ⟨g, cap, cur, rfl, hg, hh, hnc, hm, hs, hc⟩⟩) (fun ad h => by cases h; rfl)
end

/-- a slice value that reads as a list of integers -/
def IntsV (w : World) (v : Value) (xs : List Int) : Prop := ∃ A c, v = .slice A xs.length c ∧ xs.length ≤ c ∧ c ≤ maxLen ∧ IntsAt w w.heap.size A xs
theorem IntsV.of_own {w : World} {base : Nat} {e : TypeId} {v : Value} {xs : List Int} {n : Nat} (h : w.ownsRow base e 1 v n (cellsI xs)) : IntsV w v xs := by
  have : n = xs.length := by have := h.1; simp [cellsI] at this; omega
  subst this
  exact IntsAt.of_own h
theorem IntsV.next {w w' : World} {v : Value} {xs : List Int} (h : IntsV w v xs) (hb : Below w.heap.size w w') : IntsV w' v xs := by
  obtain ⟨A, c, h1, h2, h3, h4⟩ := h
  exact ⟨A, c, h1, h2, h3, h4.next hb⟩
theorem IntsV.nil (w : World) : IntsV w (.slice none 0 0) [] := ⟨none, 0, rfl, Nat.le_refl _, by unfold maxLen; omega, IntsAt.nil⟩

end Go.Proofs.YtoejojfjiikogaaGreatDoor
namespace Go.Proofs.YtoejojfjiikogaaGreatDoor
open Go.RowKit
set_option linter.unusedVariables false

/-- a row: the slice value, the type of the elements, cells of an element, how many elements, the cells -/
structure Rw where
  v : Value
  e : TypeId
  s : Nat
  n : Nat
  xs : List Value
/-- below the start W nothing has turned; the rows are the call's own, and none shares memory with another one -/
structure Rws (W : World) (rs : List Rw) (w : World) : Prop where
  below : Below W.heap.size W w
  own : ∀ r ∈ rs, w.ownsRow W.heap.size r.e r.s r.v r.n r.xs
  apart : rs.Pairwise (fun r q => r.v.ownBlock = none ∨ r.v.ownBlock ≠ q.v.ownBlock)
section
variable {W w w' : World} {rs : List Rw}
theorem Rws.start : Rws W [] W := ⟨Below.refl _ _, fun _ h => by simp at h, List.Pairwise.nil⟩
theorem Rws.begin (h : Below W.heap.size W w) : Rws W [] w := ⟨h, fun _ h => by simp at h, List.Pairwise.nil⟩
theorem Rws.size (h : Rws W rs w) : W.heap.size ≤ w.heap.size := h.below.size
theorem Rws.next (h : Rws W rs w) (hb : Below w.heap.size w w') : Rws W rs w' :=
  ⟨h.below.trans (hb.mono h.below.size), fun r hr => own_below (h.own r hr) hb, h.apart⟩
theorem Rws.alloc (h : Rws W rs w) (o : Obj) : Rws W rs (w.alloc o) := h.next ((Below.refl _ _).alloc (Nat.le_refl _) _)
theorem Rws.drew (h : Rws W rs w) : Rws W rs w.drew := ⟨h.below.drew, h.own, h.apart⟩
theorem Rws.drewN (h : Rws W rs w) (n : Nat) : Rws W rs (w.drewN n) := ⟨below_drewN h.below n, fun r hr => own_below (h.own r hr) (below_drewN (Below.refl _ _) n), h.apart⟩
theorem Rws.nil (h : Rws W rs w) (e : TypeId) (s : Nat) : Rws W (⟨.slice none 0 0, e, s, 0, []⟩ :: rs) w :=
  ⟨h.below, fun r hr => by
    rcases List.mem_cons.1 hr with rfl | hr
    · exact ⟨by simp, .inl ⟨rfl, rfl⟩⟩
    · exact h.own r hr, List.pairwise_cons.2 ⟨fun _ _ => .inl rfl, h.apart⟩⟩
theorem Rws.drop {r : Rw} (h : Rws W (r :: rs) w) : Rws W rs w := ⟨h.below, fun q hq => h.own q (List.mem_cons_of_mem _ hq), (List.pairwise_cons.1 h.apart).2⟩
theorem Rws.swap {r q : Rw} (h : Rws W (r :: q :: rs) w) : Rws W (q :: r :: rs) w := by
  refine ⟨h.below, fun x hx => h.own x (by simp only [List.mem_cons] at hx ⊢; rcases hx with h | h | h; exact .inr (.inl h); exact .inl h; exact .inr (.inr h)), ?_⟩
  have h1 := List.pairwise_cons.1 h.apart
  have h2 := List.pairwise_cons.1 h1.2
  refine List.pairwise_cons.2 ⟨fun x hx => ?_, List.pairwise_cons.2 ⟨fun x hx => h1.1 x (List.mem_cons_of_mem _ hx), h2.2⟩⟩
  rcases List.mem_cons.1 hx with rfl | hx
  · rcases h1.1 q List.mem_cons_self with h | h
    · cases hq : q.v.ownBlock with
      | none => exact .inl rfl
      | some k => exact .inr (by rw [h]; simp)
    · cases hq : q.v.ownBlock with
      | none => exact .inl rfl
      | some k => rw [hq] at h; exact .inr (Ne.symm h)
  · exact h2.1 x hx
theorem Rws.head {r : Rw} (h : Rws W (r :: rs) w) : w.ownsRow W.heap.size r.e r.s r.v r.n r.xs := h.own r List.mem_cons_self
/-- the first row has grown -/
theorem Rws.grown {r : Rw} {v' : Value} {n' : Nat} {xs' : List Value} (h : Rws W (r :: rs) w) (hg : w.grownBy w' r.v.ownBlock) (ho : w'.ownsRow W.heap.size r.e r.s v' n' xs') (hat : v'.ownBlock = r.v.ownBlock ∨ v'.ownBlock = some w.heap.size) : Rws W (⟨v', r.e, r.s, n', xs'⟩ :: rs) w' := by
  have h1 := List.pairwise_cons.1 h.apart
  have hB : ∀ k, r.v.ownBlock = some k → W.heap.size ≤ k := fun k hk => (h.head.lt k hk).1
  refine ⟨h.below.grown hg h.below.size hB, fun q hq => ?_, List.pairwise_cons.2 ⟨fun q hq => ?_, h1.2⟩⟩
  · rcases List.mem_cons.1 hq with rfl | hq
    · exact ho
    · refine (h.own q (List.mem_cons_of_mem _ hq)).kept hg ?_
      rcases h1.1 q hq with e | e
      · cases hk : q.v.ownBlock with
        | none => exact .inl rfl
        | some k => exact .inr (by rw [e]; simp)
      · cases hk : q.v.ownBlock with
        | none => exact .inl rfl
        | some k => rw [hk] at e; exact .inr (Ne.symm e)
  · show v'.ownBlock = none ∨ v'.ownBlock ≠ q.v.ownBlock
    rcases hat with e | e
    · rw [e]; exact h1.1 q hq
    · rw [e]
      refine .inr fun e2 => ?_
      have := ((h.own q (List.mem_cons_of_mem _ hq)).lt _ e2.symm).2
      omega
end

section
variable {P : Program} {W : World} {rs : List Rw}
theorem wp_append_row {o : Oper} {a : Act} {K : Act → World → Prop} {Q : Exit → Act → World → Prop} (s x : Operand) (t : TypeId)
    (ho : o.op = .call { callee := .builtin .append, args := #[s, x], argTypes := #[t, t] })
    {e : TypeId} {z : Value} {size bytes : Nat} (ht : P.underlying t = some (.slice e)) (hi : (P.info? e).map (fun i => (i.zero, i.size, i.bytes)) = some (some z, size, bytes)) (hzs : z.cells.size = size) (hk : (decide (0 < size) && decide (bytes ≤ 4096)) = true)
    {w : World} {v : Value} {n : Nat} {xs : List Value} (hR : Rws W (⟨v, e, size, n, xs⟩ :: rs) w) {B : Nat} {A : Option Addr} {m c : Nat} {news : List Value} (hs : a.eval s = v) (hx : a.eval x = .slice A m c) (hr : Reads w B size A m news) (h1 : ∀ u ∈ news, u.oneCell' = true)
    (hnm : n + m ≤ 4294967296)
    (h : ∀ v' w', Rws W (⟨v', e, size, n + m, xs ++ news⟩ :: rs) w' → Below W.heap.size W w' → K (a.put o.dst v') w') : o.wp P a w K Q := by
  obtain ⟨i0, hi0, hz0, hz1, hz2⟩ := info_parts hi
  have hk := hk
  simp only [Bool.and_eq_true, decide_eq_true_eq] at hk
  have hbytes : (n + m) * bytes ≤ 4294967296 * 4096 := Nat.mul_le_mul hnm hk.2
  refine wp_append_any w s x t ho W.heap.size e i0 z size bytes ht hi0 hz0 hz1 hz2 hzs hk.1 v n xs hs hR.head B A m c news hx hr h1 (by unfold maxLen; omega) (by omega) hR.size fun v' w' a1 a2 a3 => ?_
  have hR' := hR.grown a2 a1 a3
  exact h v' w' hR' hR'.below
theorem wpList_append_row {ops : Array Oper} {rest : List Oper} {o : Oper} {a : Act} {Q : Exit → Act → World → Prop} (hgd : o.guard = none) (s x : Operand) (t : TypeId)
    (ho : o.op = .call { callee := .builtin .append, args := #[s, x], argTypes := #[t, t] })
    {e : TypeId} {z : Value} {size bytes : Nat} (ht : P.underlying t = some (.slice e)) (hi : (P.info? e).map (fun i => (i.zero, i.size, i.bytes)) = some (some z, size, bytes)) (hzs : z.cells.size = size) (hk : (decide (0 < size) && decide (bytes ≤ 4096)) = true)
    {w : World} {v : Value} {n : Nat} {xs : List Value} (hR : Rws W (⟨v, e, size, n, xs⟩ :: rs) w) {B : Nat} {A : Option Addr} {m c : Nat} {news : List Value} (hs : a.eval s = v) (hx : a.eval x = .slice A m c) (hr : Reads w B size A m news) (h1 : ∀ u ∈ news, u.oneCell' = true)
    (hnm : n + m ≤ 4294967296)
    (h : ∀ v' w', Rws W (⟨v', e, size, n + m, xs ++ news⟩ :: rs) w' → Below W.heap.size W w' → wpList P ops Q rest (a.put o.dst v') w') : wpList P ops Q (o :: rest) a w :=
  wpList_plain hgd fun _ hK => wp_append_row s x t ho ht hi hzs hk hR hs hx hr h1 hnm fun v' w' h2 h3 => hK _ _ (h v' w' h2 h3)
end
end Go.Proofs.YtoejojfjiikogaaGreatDoor
namespace Go.Proofs.YtoejojfjiikogaaGreatDoor
open Go.RowKit
set_option linter.unusedVariables false

theorem i64_w (x : Int) (h0 : -9223372036854775808 ≤ x) (h1 : x ≤ 9223372036854775807) : IntKind.i64.wrap x = x := IntWalk.i64_in _ (by omega)
/-- v is a row of the call's own that holds xs -/
def IRow (w : World) (v : Value) (xs : List Int) (wr : World) : Prop := Rws w [⟨v, 3, 1, xs.length, cellsI xs⟩] wr
section
variable {w wr w' : World} {v v' : Value} {xs : List Int} {n : Nat}
theorem IRow.row (h : IRow w v xs wr) (hn : xs.length = n) : Rws w (⟨v, 3, 1, n, cellsI xs⟩ :: []) wr := by subst hn; exact h
theorem IRow.add {x : Int} (hn : xs.length = n) (h : Rws w [⟨v', 3, 1, n + 1, cellsI xs ++ (#[.int .i64 x] : Array Value).toList⟩] wr) : IRow w v' (xs ++ [x]) wr := by
  subst hn
  have e : cellsI (xs ++ [x]) = cellsI xs ++ [.int .i64 x] := by simp [cellsI]
  unfold IRow
  rw [e, List.length_append]
  exact h
theorem IRow.nil (h : Below w.heap.size w wr) : IRow w (.slice none 0 0) [] wr := (Rws.begin h).nil _ _
theorem IRow.next (h : IRow w v xs wr) (hb : Below wr.heap.size wr w') : IRow w v xs w' := Rws.next h hb
theorem IRow.drewN (h : IRow w v xs wr) (n : Nat) : IRow w v xs (wr.drewN n) := Rws.drewN h n
theorem IRow.bel (h : IRow w v xs wr) : Below w.heap.size w wr := Rws.below h
end
end Go.Proofs.YtoejojfjiikogaaGreatDoor
namespace Go.Proofs.YtoejojfjiikogaaGreatDoor
open Go.RowKit
set_option linter.unusedVariables false

/-- one element behind a row of any length within the reach -/
theorem wpList_append_oneL {P : Program} {W : World} {rs : List Rw} {ops : Array Oper} {rest : List Oper} {o : Oper} {a : Act} {Q : Exit → Act → World → Prop} (hgd : o.guard = none) (s x : Operand) (t : TypeId)
    (ho : o.op = .call { callee := .builtin .append, args := #[s, x], argTypes := #[t, t] })
    {e : TypeId} {z : Value} {size bytes : Nat} (ht : P.underlying t = some (.slice e)) (hi : (P.info? e).map (fun i => (i.zero, i.size, i.bytes)) = some (some z, size, bytes)) (hzs : z.cells.size = size) (hk : (decide (0 < size) && decide (bytes ≤ 4096)) = true)
    {w : World} {cs : Array Value} {v : Value} {n : Nat} {xs : List Value} (hR : Rws W (⟨v, e, size, n, xs⟩ :: rs) w) (hs : a.eval s = v) (hx : a.eval x = .slice (some ⟨w.heap.size, 0, none⟩) 1 1) (hcs : cs.size = size) (h1 : ∀ u ∈ cs.toList, u.oneCell' = true)
    (hnm : n + 1 ≤ maxLen) (hby : (n + 1) * bytes ≤ 140737488355328)
    (h : ∀ v' w', Rws W (⟨v', e, size, n + 1, xs ++ cs.toList⟩ :: rs) w' → Below W.heap.size W w' → wpList P ops Q rest (a.put o.dst v') w') : wpList P ops Q (o :: rest) a (w.alloc (.cells cs e)) := by
  refine wpList_plain hgd fun _ hK => ?_
  obtain ⟨i0, hi0, hz0, hz1, hz2⟩ := info_parts hi
  have hk := hk
  simp only [Bool.and_eq_true, decide_eq_true_eq] at hk
  have hR1 := hR.alloc (.cells cs e)
  refine wp_append_any _ s x t ho W.heap.size e i0 z size bytes ht hi0 hz0 hz1 hz2 hzs hk.1 v n xs hs hR1.head _ _ 1 1 cs.toList hx (Blk.reads (Blk.new w e cs) rfl (by simp [hcs])) h1 hnm hby hR1.size fun v' w' a1 a2 a3 => ?_
  have hR' := hR1.grown a2 a1 a3
  exact hK _ _ (h v' w' hR' hR'.below)
end Go.Proofs.YtoejojfjiikogaaGreatDoor
namespace Go.Proofs.YtoejojfjiikogaaGreatDoor
open Go.RowKit
set_option linter.unusedVariables false
set_option linter.unusedSimpArgs false

structure Ft where
  x : Int
  y : Int
deriving DecidableEq
instance : Inhabited Ft := ⟨⟨0, 0⟩⟩
def valF (f : Ft) : Value := .agg #[.int .i64 f.x, .int .i64 f.y]
def valG (s : Ft) : List Value := [.int .i64 s.x, .int .i64 s.y]
def cmpI (x y : Int) : Int := if x < y then -1 else if y < x then 1 else 0
theorem isnan_any (x : Int) (w : World) : Calls Tryz.prog 112 #[.int .i64 x] w fun e w' => e = .returned (.bool false) ∧ w' = w := by
  go_enter Tryz.func112, Tryz.ntmps112
  go_wp2_with fail
  go_ret
  exact ⟨by simp, rfl⟩
theorem cmpI_any (x y : Int) (w : World) : Calls Tryz.prog 82 #[.int .i64 x, .int .i64 y] w fun e w' => e = .returned (.int .i64 (cmpI x y)) ∧ w' = w := by
  by_cases h1 : x < y
  · have HV := Lib.hid (show cmpI x y = -1 by simp [cmpI, h1])
    go_enter Tryz.func82, Tryz.ntmps82
    go_wp2_with (first | (go_at_call 112; refine (isnan_any _ _).mono ?_; rintro e w' ⟨rfl, rfl⟩) | fail)
    go_ret
    exact ⟨by rw [HV.out]; rfl, rfl⟩
  · by_cases h2 : y < x
    · have HV := Lib.hid (show cmpI x y = 1 by simp [cmpI, h1, h2])
      have h1' : y ≤ x := by omega
      go_enter Tryz.func82, Tryz.ntmps82
      go_wp2_with (first | (go_at_call 112; refine (isnan_any _ _).mono ?_; rintro e w' ⟨rfl, rfl⟩) | fail)
      go_ret
      exact ⟨by rw [HV.out]; rfl, rfl⟩
    · obtain rfl : x = y := by omega
      have HV := Lib.hid (show cmpI x x = 0 by simp [cmpI])
      clear h1 h2
      go_enter Tryz.func82, Tryz.ntmps82
      go_wp2_with (first | (go_at_call 112; refine (isnan_any _ _).mono ?_; rintro e w' ⟨rfl, rfl⟩) | fail)
      go_ret
      exact ⟨by rw [HV.out]; rfl, rfl⟩
def cmpF (f g : Ft) : Int := if cmpI f.y g.y ≠ 0 then cmpI f.y g.y else cmpI f.x g.x

/-! ### == of two cells -/
theorem stoodF (w : World) : Tryz.prog.stoodInHeld 36 = false := by kernel_rfl
theorem eqI0 (x y : Int) (w : World) : (Op.equalIn 9999 3 (.int .i64 x) (.int .i64 y)).run Tryz.prog w = .ok (x == y) w := by kernel_rfl
theorem partF0 (x y : Int) (w : World) : (part 3 #[.int .i64 x, .int .i64 y] 0).run Tryz.prog w = .ok (.int .i64 x) w := by kernel_rfl
theorem partF1 (x y : Int) (w : World) : (part 3 #[.int .i64 x, .int .i64 y] 1).run Tryz.prog w = .ok (.int .i64 y) w := by kernel_rfl
/-- == of two cells -/
theorem equal_ft2 (x y p q : Int) {b : Bool} (hb : decide ((⟨x, y⟩ : Ft) = ⟨p, q⟩) = b) (w : World) : (Op.equalIn 10000 36 (.agg #[.int .i64 x, .int .i64 y]) (.agg #[.int .i64 p, .int .i64 q])).run Tryz.prog w = .ok b w := by
  have e : b = (x == p && y == q) := by rw [← hb, Bool.eq_iff_iff]; simp
  rw [e, Op.equalIn]
  simp only [Sem.run_bind, run_underlying Tryz.underlying36, Result.andThen_ok]
  cases hx : x == p <;> cases hy : y == q <;> simp [partF0, partF1, eqI0, hx, hy, stoodF]
theorem equal_ft (x y p q : Int) {b : Bool} (hb : decide ((⟨x, y⟩ : Ft) = ⟨p, q⟩) = b) (w : World) : (Op.equal 36 (.agg #[.int .i64 x, .int .i64 y]) (.agg #[.int .i64 p, .int .i64 q])).run Tryz.prog w = .ok b w := equal_ft2 x y p q hb w

/-! ### grid.order -/
set_option maxHeartbeats 2000000 in
set_option maxRecDepth 20000 in
theorem cmpF_grow (f g : Ft) (w : World) : Calls Tryz.prog 39 #[valF f, valF g] w fun e w' => e = .returned (.int .i64 (cmpF f g)) ∧ ∃ q os, w' = Go.Sort.grow (w.drewN q) os := by
  obtain ⟨a, b⟩ := f
  obtain ⟨aa, bb⟩ := g
  show Calls Tryz.prog 39 #[.agg #[.int .i64 a, .int .i64 b], .agg #[.int .i64 aa, .int .i64 bb]] w fun e w' => e = .returned (.int .i64 (cmpF ⟨a, b⟩ ⟨aa, bb⟩)) ∧ ∃ q os, w' = Go.Sort.grow (w.drewN q) os
  have HC := Lib.hid (fun W => cmpI_any b bb W)
  have HD := Lib.hid (fun W => cmpI_any a aa W)
  have hgr : Go.Sort.grow (w.drewN 0) #[.cells #[.int .i64 a, .int .i64 b] 36, .cells #[.int .i64 aa, .int .i64 bb] 36] = ((w.alloc (.cells #[.int .i64 a, .int .i64 b] 36)).alloc (.cells #[.int .i64 aa, .int .i64 bb] 36)) := rfl
  have HG := Lib.hid hgr.symm
  clear hgr
  by_cases hc : cmpI b bb = 0
  · have HV : Hid (cmpF ⟨a, b⟩ ⟨aa, bb⟩ = cmpI a aa) := Lib.hid (by simp [cmpF, hc])
    rw [hc] at HC
    clear hc
    go_enter Tryz.func39, Tryz.ntmps39
    go_wp2_with fail
    refine (HC.out _).mono ?_
    rintro e w' ⟨rfl, rfl⟩
    go_wp2_with fail
    refine (HD.out _).mono ?_
    rintro e w' ⟨rfl, rfl⟩
    go_wp2_with fail
    go_ret
    exact ⟨by rw [HV.out]; rfl, 0, _, HG.out⟩
  · have HV : Hid (cmpF ⟨a, b⟩ ⟨aa, bb⟩ = cmpI b bb) := Lib.hid (by simp [cmpF, hc])
    have hc' : (cmpI b bb != 0) = true := by simp [hc]
    clear hc
    go_enter Tryz.func39, Tryz.ntmps39
    go_wp2_with fail
    refine (HC.out _).mono ?_
    rintro e w' ⟨rfl, rfl⟩
    go_wp2_with fail
    go_ret
    exact ⟨by rw [HV.out]; rfl, 0, _, HG.out⟩
theorem below_grow (w : World) (q : Nat) (os : Array Obj) : Below w.heap.size w (Go.Sort.grow (w.drewN q) os) := by
  have hg : w.grownBy (Go.Sort.grow (w.drewN q) os) none := by
    refine ⟨rfl, rfl, rfl, by simp [Go.Sort.grow], fun k hk hne => ?_⟩
    rw [Go.Sort.heap_grow_old _ _ (by simpa using hk)]
    rfl
  exact below_of_grown hg (Nat.le_refl _) (fun k hk => by cases hk)
theorem cmpF_any (f g : Ft) (w : World) : Calls Tryz.prog 39 #[valF f, valF g] w fun e w' => e = .returned (.int .i64 (cmpF f g)) ∧ Below w.heap.size w w' := by
  refine (cmpF_grow f g w).mono ?_
  rintro e w' ⟨he, q, os, rfl⟩
  exact ⟨he, below_grow w q os⟩
end Go.Proofs.YtoejojfjiikogaaGreatDoor
namespace Go.Proofs.YtoejojfjiikogaaGreatDoor
open Go.RowKit
set_option linter.unusedVariables false
set_option linter.unusedSimpArgs false

def FLt (f g : Ft) : Prop := f.y < g.y ∨ (f.y = g.y ∧ f.x < g.x)
instance (f g : Ft) : Decidable (FLt f g) := by unfold FLt; infer_instance
theorem cmpI_cases (x y : Int) : (x < y ∧ cmpI x y = -1) ∨ (x = y ∧ cmpI x y = 0) ∨ (y < x ∧ cmpI x y = 1) := by
  unfold cmpI
  by_cases h1 : x < y
  · exact .inl ⟨h1, by simp [h1]⟩
  · by_cases h2 : y < x
    · exact .inr (.inr ⟨h2, by simp [h1, h2]⟩)
    · exact .inr (.inl ⟨by omega, by simp [h1, h2]⟩)
theorem cmpF_cases (f g : Ft) : (FLt f g ∧ cmpF f g = -1) ∨ (f = g ∧ cmpF f g = 0) ∨ (FLt g f ∧ cmpF f g = 1) := by
  obtain ⟨a, b⟩ := f
  obtain ⟨aa, bb⟩ := g
  simp only [cmpF, FLt, Ft.mk.injEq]
  rcases cmpI_cases a aa with ⟨h2, e2⟩ | ⟨h2, e2⟩ | ⟨h2, e2⟩ <;> rcases cmpI_cases b bb with ⟨h3, e3⟩ | ⟨h3, e3⟩ | ⟨h3, e3⟩ <;> rw [e2, e3] <;> simp <;> omega
theorem ltF_iff (f g : Ft) : Go.Proofs.ltOf cmpF f g = decide (FLt f g) := by
  unfold Go.Proofs.ltOf
  rcases cmpF_cases f g with ⟨h, e⟩ | ⟨h, e⟩ | ⟨h, e⟩
  · rw [e]; simp [h]
  · subst h; rw [e]; simp [FLt]
  · rw [e]
    have : ¬ FLt f g := by unfold FLt at *; omega
    simp [this]
theorem flt_irrefl (f : Ft) : ¬ FLt f f := by unfold FLt; omega
theorem flt_trans {f g h : Ft} (h1 : FLt f g) (h2 : FLt g h) : FLt f h := by unfold FLt at *; omega
theorem flt_total {f g : Ft} (h1 : ¬ FLt f g) (h2 : ¬ FLt g f) : f = g := by
  obtain ⟨a, b⟩ := f
  obtain ⟨aa, bb⟩ := g
  simp only [FLt, Ft.mk.injEq] at *
  omega
theorem swoF : Go.Sort.SWO (Go.Proofs.ltOf cmpF) where
  irrefl x := by rw [ltF_iff]; simp [flt_irrefl]
  trans x y z h1 h2 := by rw [ltF_iff] at *; simp at *; exact flt_trans h1 h2
  ntrans x y z h1 h2 := by
    rw [ltF_iff] at *
    simp at *
    intro h3
    by_cases h4 : FLt y x
    · exact h2 (flt_trans h4 h3)
    · have e := flt_total h1 h4
      exact h2 (e ▸ h3)
theorem totF (x y : Ft) (h1 : Go.Proofs.ltOf cmpF x y = false) (h2 : Go.Proofs.ltOf cmpF y x = false) : x = y := by
  rw [ltF_iff] at *
  simp at *
  exact flt_total h1 h2

/-- the sorted list, each cell once -/
def srtL (l : List Ft) : List Ft := l.mergeSort fun x y => !(Go.Proofs.ltOf cmpF y x)
def ofL (l : List Ft) : List Ft := Go.Lib.compact (srtL l)
def Asc (l : List Ft) : Prop := l.Pairwise FLt

section
variable {α : Type} [Inhabited α] [DecidableEq α]
theorem upTo_mem (d : Array α) (m : Nat) (hm : m ≤ d.size) (x : α) : x ∈ Go.Lib.compactUpTo d m ↔ ∃ j, j < m ∧ d[j]! = x := by
  induction m with
  | zero => simp [Go.Lib.compactUpTo]
  | succ m ih =>
    rw [Go.Lib.compactUpTo_succ, List.mem_append, ih (by omega)]
    constructor
    · rintro (⟨j, h1, h2⟩ | h)
      · exact ⟨j, by omega, h2⟩
      · split at h
        · simp at h; exact ⟨m, by omega, h.symm⟩
        · simp at h
    · rintro ⟨j, h1, h2⟩
      by_cases hj : j < m
      · exact .inl ⟨j, hj, h2⟩
      · have : j = m := by omega
        subst this
        by_cases hk : Go.Lib.keeps d j = true
        · right; rw [if_pos hk]; simp [h2]
        · left
          unfold Go.Lib.keeps at hk
          simp only [decide_eq_true_eq] at hk
          have h0 : j ≠ 0 := fun e => hk (.inl e)
          have he : d[j]! = d[j-1]! := Classical.byContradiction fun e => hk (.inr e)
          exact ⟨j - 1, by omega, by rw [← he]; exact h2⟩
end
theorem compact_mem (zs : List Ft) (x : Ft) : x ∈ Go.Lib.compact zs ↔ x ∈ zs := by
  unfold Go.Lib.compact
  rw [upTo_mem _ _ (by simp)]
  constructor
  · rintro ⟨j, h1, h2⟩
    rw [← h2]
    simp [h1]
  · intro h
    obtain ⟨j, h1, h2⟩ := List.mem_iff_getElem.1 h
    exact ⟨j, h1, by simp [h1, h2]⟩
/-- of a list in order without the places that hold what stands before them, an ascending list -/
theorem upTo_asc (d : Array Ft) (hs : ∀ i j, i < j → j < d.size → ¬ FLt d[j]! d[i]!) (m : Nat) (hm : m ≤ d.size) : Asc (Go.Lib.compactUpTo d m) := by
  induction m with
  | zero => simp [Go.Lib.compactUpTo, Asc]
  | succ m ih =>
    have h := ih (by omega)
    rw [Go.Lib.compactUpTo_succ]
    by_cases hk : Go.Lib.keeps d m = true
    · rw [if_pos hk]
      unfold Asc at h ⊢
      rw [List.pairwise_append]
      refine ⟨h, by simp, fun x hx y hy => ?_⟩
      obtain ⟨j, h1, h2⟩ := (upTo_mem d m (by omega) x).1 hx
      simp at hy
      subst hy
      subst h2
      have h3 : ¬ FLt d[m]! d[j]! := hs j m h1 (by omega)
      refine Classical.byContradiction fun h4 => ?_
      have he : d[j]! = d[m]! := flt_total h4 h3
      have h0 : m ≠ 0 := by omega
      have hne : d[m]! ≠ d[m-1]! := by
        unfold Go.Lib.keeps at hk
        simp only [decide_eq_true_eq] at hk
        rcases hk with hk | hk
        · exact absurd hk h0
        · exact hk
      by_cases hj : j = m - 1
      · subst hj; exact hne he.symm
      · have a1 : ¬ FLt d[m-1]! d[j]! := hs j (m-1) (by omega) (by omega)
        have a2 : ¬ FLt d[m]! d[m-1]! := hs (m-1) m (by omega) (by omega)
        rw [he] at a1
        exact hne (flt_total a2 a1)
    · rw [if_neg hk, List.append_nil]; exact h
theorem ofL_mem (l : List Ft) (x : Ft) : x ∈ ofL l ↔ x ∈ l := by
  unfold ofL srtL
  rw [compact_mem, List.mem_mergeSort]
theorem ofL_asc (l : List Ft) : Asc (ofL l) := by
  unfold ofL srtL Go.Lib.compact
  refine upTo_asc _ (fun i j hij hj => ?_) _ (by simp)
  have hp := List.pairwise_mergeSort (le := fun x y => !(Go.Proofs.ltOf cmpF y x)) (fun a b c h1 h2 => by
    simp only [Bool.not_eq_true'] at *
    exact swoF.ntrans _ _ _ h2 h1) (fun a b => by
    simp only [Bool.or_eq_true, Bool.not_eq_true']
    rw [ltF_iff, ltF_iff]
    by_cases h : FLt b a
    · right; simp; exact fun h2 => flt_irrefl a (flt_trans h2 h)
    · left; simp [h]) l
  rw [List.pairwise_iff_getElem] at hp
  have hj' : j < (l.mergeSort fun x y => !(Go.Proofs.ltOf cmpF y x)).length := by simpa using hj
  have := hp i j (by omega) hj' hij
  rw [ltF_iff] at this
  simp only [Bool.not_eq_true', decide_eq_false_iff_not] at this
  rw [getElem!_pos _ j (by simpa using hj'), getElem!_pos _ i (by simp at hj' ⊢; omega)]
  simpa using this
theorem ofL_len_le (l : List Ft) : (ofL l).length ≤ l.length := by
  have h1 : (ofL l).Nodup := (ofL_asc l).imp (fun {a b} hab e => by subst e; exact flt_irrefl a hab)
  exact h1.length_le_of_subset (fun x hx => (ofL_mem l x).1 hx)
theorem ofL_nil : ofL [] = [] := by simp [ofL, srtL, Go.Lib.compact, Go.Lib.compactUpTo]
theorem srtL_length (l : List Ft) : (srtL l).length = l.length := List.length_mergeSort _
def meetL (a b : List Ft) : List Ft := (ofL a).filter fun c => decide (c ∈ ofL b)
def withinL (a b : List Ft) : Bool := a.all fun c => decide (c ∈ ofL b)
theorem meetL_mem (a b : List Ft) (c : Ft) : c ∈ meetL a b ↔ c ∈ a ∧ c ∈ b := by simp [meetL, ofL_mem]
end Go.Proofs.YtoejojfjiikogaaGreatDoor
namespace Go.Proofs.YtoejojfjiikogaaGreatDoor
open Go.RowKit Go.ChangeShapes Go.WideShapes Go.Deep
set_option linter.unusedVariables false
set_option linter.unusedSimpArgs false

def cellsF (ss : List Ft) : List Value := ss.flatMap valG
theorem cellsF_length (ss : List Ft) : (cellsF ss).length = ss.length*2 := by
  induction ss with
  | nil => rfl
  | cons a l ih => rw [show cellsF (a :: l) = valG a ++ cellsF l from rfl, List.length_append, ih]; simp [valG]; omega
theorem cellsF_get {ss : List Ft} {k j : Nat} {s : Ft} {v : Value} (h : ss[k]? = some s) (hj : (valG s)[j]? = some v) : (cellsF ss)[k*2+j]? = some v := by
  have hj3 : j < 2 := by
    have := (List.getElem?_eq_some_iff.1 hj).1
    simpa [valG] using this
  induction ss generalizing k with
  | nil => simp at h
  | cons a l ih =>
    rw [show cellsF (a :: l) = valG a ++ cellsF l from rfl]
    cases k with
    | zero =>
      simp at h; subst h
      rw [Nat.zero_mul, Nat.zero_add, List.getElem?_append_left (by simpa [valG] using hj3)]
      exact hj
    | succ k =>
      simp at h
      rw [List.getElem?_append_right (by simp [valG]; omega)]
      rw [show (k + 1)*2 + j - (valG a).length = k*2 + j by simp [valG]; omega]
      exact ih h
/-- the slice at A holds the facts ss -/
def FactsAt (w : World) (B : Nat) (A : Option Addr) (ss : List Ft) : Prop :=
  ∀ k s, ss[k]? = some s → ∃ b off, A = some ⟨b, off, none⟩ ∧ b < B ∧ ∀ j v, (valG s)[j]? = some v → w.cell? ⟨b, off + (k*2+j), none⟩ = some v
section
variable {w w' : World} {B B' : Nat} {A : Option Addr} {ss : List Ft}
theorem FactsAt.below (h : FactsAt w B A ss) (hb : Below B' w w') (hB : B ≤ B') : FactsAt w' B A ss := by
  intro k x hx
  obtain ⟨b, off, hA, hlt, h0⟩ := h k x hx
  exact ⟨b, off, hA, hlt, fun j v hj => (hb.cell (p := ⟨b, _, none⟩) (Nat.lt_of_lt_of_le hlt hB)).trans (h0 j v hj)⟩
theorem FactsAt.more (h : FactsAt w B A ss) (hB : B ≤ B') : FactsAt w B' A ss := by
  intro k x hx
  obtain ⟨b, off, hA, hlt, h0⟩ := h k x hx
  exact ⟨b, off, hA, Nat.lt_of_lt_of_le hlt hB, h0⟩
theorem FactsAt.nil : FactsAt w B A [] := fun k x h => by simp at h
theorem FactsAt.next (h : FactsAt w w.heap.size A ss) (hb : Below w.heap.size w w') : FactsAt w' w'.heap.size A ss := (h.below hb (Nat.le_refl _)).more hb.size
theorem FactsAt.two (h : FactsAt w B A ss) {k : Nat} {s : Ft} (hk : ss[k]? = some s) : ∃ b off, A = some ⟨b, off, none⟩ ∧ b < B ∧
    w.cell? ⟨b, off + k*2, none⟩ = some (.int .i64 s.x) ∧ w.cell? ⟨b, off + k*2+1, none⟩ = some (.int .i64 s.y) := by
  obtain ⟨b, off, hA, hb, h0⟩ := h k s hk
  exact ⟨b, off, hA, hb, h0 0 _ rfl, h0 1 _ rfl⟩
theorem FactsAt.take (h : FactsAt w B A ss) (j : Nat) : FactsAt w B A (ss.take j) := by
  intro k s hk
  rw [List.getElem?_take] at hk
  split at hk
  · exact h k s hk
  · cases hk
theorem FactsAt.of_own {base : Nat} {e : TypeId} {v : Value} (h : w.ownsRow base e 2 v ss.length (cellsF ss)) :
    ∃ A c, v = .slice A ss.length c ∧ ss.length ≤ c ∧ c ≤ maxLen ∧ FactsAt w w.heap.size A ss := by
  obtain ⟨h1, h2⟩ := h
  rcases h2 with ⟨rfl, hx⟩ | ⟨g, cap, cur, rfl, hg, hh, hnc, hm, hs, hc⟩
  · have : ss = [] := by
      have := cellsF_length ss; rw [hx] at this; simp at this
      exact List.eq_nil_of_length_eq_zero (by omega)
    subst this
    exact ⟨none, 0, rfl, Nat.le_refl _, by unfold maxLen; omega, fun k u hu => by simp at hu⟩
  · refine ⟨some ⟨g, 0, none⟩, cap, rfl, by assumption, by assumption, fun k u hu => ?_⟩
    have hglt : g < w.heap.size := by
      rcases Nat.lt_or_ge g w.heap.size with h' | h'
      · exact h'
      · rw [Array.getElem?_eq_none h'] at hh; cases hh
    have H := World.ownsRow.cells (w := w) (base := base) (e := e) (size := 2) (v := .slice (some ⟨g, 0, none⟩) ss.length cap) (n := ss.length) (xs := cellsF ss) ⟨h1, .inr ⟨g, cap, cur, rfl, hg, hh, hnc, hm, hs, hc⟩⟩ (g := g) rfl
    refine ⟨g, 0, rfl, hglt, fun j v hj => ?_⟩
    have := H _ _ (cellsF_get hu hj)
    rwa [Addr.add_lit] at this
end

theorem infoFt : (Tryz.prog.info? 36).map (fun i => (i.zero, i.size, i.bytes)) = some (some (.agg #[.int .i64 0, .int .i64 0]), 2, 16) := by kernel_rfl
theorem one_ft (x : Ft) : ∀ u ∈ (#[.int .i64 x.x, .int .i64 x.y] : Array Value).toList, u.oneCell' = true := by
  intro u hu; simp at hu; rcases hu with rfl | rfl <;> rfl
/-- v is a row of the call's own that holds the facts xs -/
def FRow (w : World) (v : Value) (xs : List Ft) (wr : World) : Prop := Rws w [⟨v, 36, 2, xs.length, cellsF xs⟩] wr
section
variable {w wr w' : World} {v v' : Value} {xs : List Ft} {n : Nat}
theorem FRow.facts (h : FRow w v xs wr) : ∃ A c, v = .slice A xs.length c ∧ xs.length ≤ c ∧ c ≤ maxLen ∧ FactsAt wr wr.heap.size A xs := FactsAt.of_own (Rws.head h)
theorem FRow.row (h : FRow w v xs wr) (hn : xs.length = n) : Rws w (⟨v, 36, 2, n, cellsF xs⟩ :: []) wr := by subst hn; exact h
theorem FRow.add {x : Ft} (hn : xs.length = n) (h : Rws w [⟨v', 36, 2, n + 1, cellsF xs ++ (#[.int .i64 x.x, .int .i64 x.y] : Array Value).toList⟩] wr) : FRow w v' (xs ++ [x]) wr := by
  subst hn
  have e : cellsF (xs ++ [x]) = cellsF xs ++ [.int .i64 x.x, .int .i64 x.y] := by simp [cellsF, valG]
  unfold FRow
  rw [e, List.length_append]
  exact h
theorem FRow.nil (h : Below w.heap.size w wr) : FRow w (.slice none 0 0) [] wr := (Rws.begin h).nil _ _
theorem FRow.next (h : FRow w v xs wr) (hb : Below wr.heap.size wr w') : FRow w v xs w' := Rws.next h hb
theorem FRow.drewN (h : FRow w v xs wr) (n : Nat) : FRow w v xs (wr.drewN n) := Rws.drewN h n
theorem FRow.bel (h : FRow w v xs wr) : Below w.heap.size w wr := Rws.below h
end
end Go.Proofs.YtoejojfjiikogaaGreatDoor
