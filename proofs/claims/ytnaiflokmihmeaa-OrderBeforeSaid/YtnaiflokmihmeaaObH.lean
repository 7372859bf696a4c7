/- Walks: the closure of Before (package order), IndexFunc and ContainsFunc with it. The rows of Before. -/
import Derived.Test.YtnaiflokmihmeaaObG
namespace Go.Proofs.Ytnaiflokmihmeaa
open Go.RowKit
set_option linter.unusedVariables false
set_option linter.unusedSimpArgs false

/-- the variables: things at p, k at p2; ys: the things of step k -/
def VarB (w : World) (p p2 : Nat) (ys : List Int) : Prop := ∃ b off n c k A' c', w.cell? ⟨p, 0, none⟩ = some (.slice (some ⟨b, off, none⟩) n c) ∧ w.cell? ⟨p2, 0, none⟩ = some (.int .i64 ((k : Nat) : Int)) ∧ k < n ∧ w.cell? ⟨b, off + k, none⟩ = some (.slice A' ys.length c') ∧ ys.length ≤ 9223372036854775807 ∧ IntsAt w w.heap.size A' ys
theorem bef1_any (ys : List Int) (p p2 : Nat) (x : Int) (w : World) (h : VarB w p p2 ys) {r : Bool} (hr : decide (x ∈ ys) = r) :
    Calls Try.prog 77 #[.int .i64 x, .pointer (some ⟨p, 0, none⟩), .pointer (some ⟨p2, 0, none⟩)] w fun e w' => e = .returned (.bool r) ∧ w' = w := by
  obtain ⟨b, off, n, c, k, A', c', h0, h1, h2, h3, h4, h5⟩ := h
  have HC := Lib.hid (Od.containsI_any ys A' ys.length c' x w rfl h4 h5 hr)
  clear hr h5
  generalize ys.length = m at *
  have i1 : (0 : Int) ≤ (k : Int) := by omega
  have i2 : (k : Int) < (n : Int) := by omega
  go_enter Try.func77, Try.ntmps77
  go_wp2_with fail
  refine HC.out.mono ?_
  rintro e w' ⟨rfl, rfl⟩
  go_wp2_with fail
  go_ret
  exact ⟨rfl, rfl⟩
set_option maxHeartbeats 1000000 in
theorem indexB_any (xs ys : List Int) (A : Option Addr) (n c p p2 : Nat) (w : World) (hn : n = xs.length) (hm : n ≤ 9223372036854775807) (h : IntsAt w w.heap.size A xs) (hv : VarB w p p2 ys) :
    Calls Try.prog 103 #[.slice A n c, .func (.func 77) #[] #[.pointer (some ⟨p, 0, none⟩), .pointer (some ⟨p2, 0, none⟩)]] w fun e w' => e = .returned (.int .i64 (Od.idxI (fun y => decide (y ∈ ys)) xs)) ∧ w' = w := by
  have HN := Lib.hid hn; clear hn
  have H := Lib.hid h; clear h
  have HV := Lib.hid hv; clear hv
  go_enter Try.func103, Try.ntmps103
  go_wp2_with fail
  go_loop [8] (fun i => ∃ k : Nat, k ≤ n ∧ i = .int .i64 k ∧ Hid (∀ j < k, ∀ y, xs[j]? = some y → decide (y ∈ ys) = false)) (fun i => n - (intOf i).toNat)
  case atStart => exact ⟨0, Nat.zero_le _, rfl, forall_lt_zero⟩
  case round =>
    obtain ⟨k, hk, rfl, hall⟩ := hrel
    by_cases hlt : k < n
    · obtain ⟨y, hy⟩ := get_of_lt HN.out hlt
      obtain ⟨b, off, rfl, hb, h0⟩ := H.out k y hy
      have HY := Lib.hid hy; clear hy
      by_cases hp : decide (y ∈ ys) = true
      · have HF := Lib.hid (Od.idxI_found (p := fun y => decide (y ∈ ys)) HY.out hp hall.out)
        have HC := Lib.hid (bef1_any ys p p2 y w HV.out hp)
        clear hp
        go_wp2_with fail
        refine HC.out.mono ?_
        rintro e w' ⟨rfl, rfl⟩
        go_wp2_with fail
        go_ret
        exact ⟨ret_int HF.out.symm, rfl⟩
      · have hp' : decide (y ∈ ys) = false := by simpa using hp
        clear hp
        have HP := Lib.hid hp'; clear hp'
        have HC := Lib.hid (bef1_any ys p p2 y w HV.out HP.out)
        go_wp2_with fail
        refine HC.out.mono ?_
        rintro e w' ⟨rfl, rfl⟩
        go_wp2_with fail
        go_round
        case rel => exact ⟨k+1, by omega, by go_num, forall_lt_succ hall.out (fun y' hy' => by rw [HY.out] at hy'; cases hy'; exact HP.out)⟩
        case measure => simp [intOf]; omega
    · obtain rfl : k = n := by omega
      have HF := Lib.hid (Od.idxI_none (p := fun y => decide (y ∈ ys)) (xs := xs) (by rw [← HN.out]; exact hall.out))
      go_wp2_with fail
      go_ret
      exact ⟨ret_int HF.out.symm, rfl⟩
theorem containsB_any (xs ys : List Int) (A : Option Addr) (n c p p2 : Nat) (w : World) (hn : n = xs.length) (hm : n ≤ 9223372036854775807) (h : IntsAt w w.heap.size A xs) (hv : VarB w p p2 ys) {r : Bool} (hr : xs.any (fun y => decide (y ∈ ys)) = r) :
    Calls Try.prog 76 #[.slice A n c, .func (.func 77) #[] #[.pointer (some ⟨p, 0, none⟩), .pointer (some ⟨p2, 0, none⟩)]] w fun e w' => e = .returned (.bool r) ∧ w' = w := by
  have HC := Lib.hid (indexB_any xs ys A n c p p2 w hn hm h hv)
  have HD : Hid (decide (0 ≤ Od.idxI (fun y => decide (y ∈ ys)) xs) = r) := Lib.hid (by rw [Od.idxI_any, hr])
  clear hn h hv hr
  obtain ⟨i, hi⟩ : ∃ i, Od.idxI (fun y => decide (y ∈ ys)) xs = i := ⟨_, rfl⟩
  rw [hi] at HC HD
  clear hi
  go_enter Try.func76, Try.ntmps76
  go_wp2_with fail
  refine HC.out.mono ?_
  rintro e w' ⟨rfl, rfl⟩
  go_wp2_with fail
  go_ret
  exact ⟨ret_bool HD.out, rfl⟩
/-- the rows of Before: the block behind wq holds the slices vs, whose contents are B -/
structure BfS (wq : World) (vs : List Value) (B : List (List Int)) (wr : World) : Prop where
  bel : Below wq.heap.size wq wr
  blk : Blk wr wq.heap.size 22 vs.toArray
  len : vs.length = B.length
  rows : Od.RwsB (wq.heap.size + 1) (Od.rowsB vs B) wr
  size : wq.heap.size + 1 ≤ wr.heap.size
section
variable {wq w wr w' : World} {vs : List Value} {B : List (List Int)}
theorem BfS.next (h : BfS wq vs B wr) (hb : Below wr.heap.size wr w') : BfS wq vs B w' :=
  ⟨h.bel.trans (hb.mono h.bel.size), h.blk.belowB hb, h.len, h.rows.next hb, Nat.le_trans h.size hb.size⟩
theorem BfS.at_ (h : BfS wq vs B wr) {k : Nat} {ys : List Int} (hy : B[k]? = some ys) : ∃ A c, vs[k]? = some (.slice A ys.length c) ∧ wr.cell? ⟨wq.heap.size, k, none⟩ = some (.slice A ys.length c) ∧ wr.ownsRow (wq.heap.size + 1) 3 1 (.slice A ys.length c) ys.length (cellsI ys) := by
  obtain ⟨v, hv⟩ := get_of_lt rfl (show k < vs.length by rw [h.len]; exact (List.getElem?_eq_some_iff.1 hy).1)
  have hr := Od.rowsB_get hv hy
  have ho := h.rows.own _ (List.mem_of_getElem? hr)
  obtain ⟨A, c, e, _⟩ := IntsAt.of_own ho
  dsimp only at e
  subst e
  exact ⟨A, c, hv, by rw [h.blk.cell]; simp [hv], ho⟩
/-- a block that is a map turns -/
theorem BfS.turn (h : BfS wq vs B wr) {mb : Nat} {es : Array MapEntry} {clock : Nat} (hm : wr.heap[mb]? = some (.map es clock)) (h0 : wq.heap.size ≤ mb) (hg : wr.grownBy w' (some mb)) : BfS wq vs B w' := by
  have hG : mb ≠ wq.heap.size := fun e => by
    have h1 : wr.heap[wq.heap.size]? = _ := h.blk
    rw [← e, hm] at h1
    cases h1
  refine ⟨h.bel.grown hg h.bel.size (fun k hk => by cases hk; exact h0), h.blk.grown hg (fun e => hG (Option.some.inj e).symm), h.len, ⟨fun r hr => (h.rows.own r hr).kept hg ?_, h.rows.apart⟩, Nat.le_trans h.size hg.size⟩
  rcases (h.rows.own r hr).2 with ⟨e, _⟩ | ⟨g, c, cur, e, _, hh, _⟩
  · exact .inl (by rw [e]; rfl)
  · refine .inr fun e2 => ?_
    rw [e] at e2
    have e3 : g = mb := by simpa [Value.ownBlock] using e2
    rw [e3, hm] at hh
    cases hh
theorem BfS.set (h : BfS wq vs B wr) {k : Nat} {v' : Value} {ys ys' : List Int} {A : Option Addr} {c : Nat} (hk : vs[k]? = some (.slice A ys.length c)) (hy : B[k]? = some ys) (a1 : w'.ownsRow (wq.heap.size + 1) 3 1 v' ys'.length (cellsI ys')) (a2 : wr.grownBy w' (Value.slice A ys.length c).ownBlock) (a3 : v'.ownBlock = (Value.slice A ys.length c).ownBlock ∨ v'.ownBlock = some wr.heap.size) :
    BfS wq (vs.set k v') (B.set k ys') (w'.setCell ⟨wq.heap.size, k, none⟩ v') ∧ Blk w' wq.heap.size 22 vs.toArray := by
  have hri := Od.rowsB_get hk hy
  have hR1 := h.rows.perm (Od.perm_at hri)
  have hh := hR1.own _ List.mem_cons_self
  have hR' := hR1.grown a2 a1 a3
  have hG : some wq.heap.size ≠ (Value.slice A ys.length c).ownBlock := fun e => by
    have := (hh.lt _ e.symm).1
    omega
  have hb1 : Blk w' wq.heap.size 22 vs.toArray := h.blk.grown a2 hG
  have hR2 := hR'.perm (Od.set_perm hri)
  rw [Od.rowsB_set] at hR2
  refine ⟨⟨(h.bel.grown a2 h.bel.size (fun k hk => by have := (hh.lt k hk).1; omega)).setCell (p := ⟨wq.heap.size, k, none⟩) (Nat.le_refl _) _, ?_, by simp [h.len], hR2.setCell (p := ⟨wq.heap.size, k, none⟩) (Nat.lt_succ_self _) _, by simpa using Nat.le_trans h.size a2.size⟩, hb1⟩
  have h3 := hb1.set_ k v'
  rwa [show vs.toArray.setIfInBounds k v' = (vs.set k v').toArray by simp] at h3
theorem h_own (hO : BfS wq vs B w) {k : Nat} {ys : List Int} {A : Option Addr} {c : Nat} (hk : vs[k]? = some (.slice A ys.length c)) (hy : B[k]? = some ys) : w.ownsRow (wq.heap.size + 1) 3 1 (.slice A ys.length c) ys.length (cellsI ys) := hO.rows.own _ (List.mem_of_getElem? (Od.rowsB_get hk hy))
/-- one more behind row k -/
theorem wp_append_bf {o : Oper} {a : Act} {K : Act → World → Prop} {Q : Exit → Act → World → Prop} (s x : Operand)
    (ho : o.op = .call { callee := .builtin .append, args := #[s, x], argTypes := #[22, 22] }) {g k : Nat} {y : Int} {ys : List Int} {A : Option Addr} {c : Nat} (hO : BfS wq vs B w) (hk : vs[k]? = some (.slice A ys.length c)) (hy : B[k]? = some ys) (hg : Blk w g 3 #[.int .i64 y]) (hs : a.eval s = .slice A ys.length c) (hx : a.eval x = .slice (some ⟨g, 0, none⟩) 1 1) (hnm : ys.length ≤ 1000)
    (h : ∀ A' c' w', w'.cell? ⟨wq.heap.size, k, none⟩ = some (.slice A ys.length c) → w'.frozen? ⟨wq.heap.size, k, none⟩ = false → w.grownBy w' (Value.slice A ys.length c).ownBlock → w.ownsRow (wq.heap.size + 1) 3 1 (.slice A ys.length c) ys.length (cellsI ys) → ((Value.slice A' (ys.length + 1) c').ownBlock = (Value.slice A ys.length c).ownBlock ∨ (Value.slice A' (ys.length + 1) c').ownBlock = some w.heap.size) →
      BfS wq (vs.set k (.slice A' (ys.length + 1) c')) (B.set k (ys ++ [y])) (w'.setCell ⟨wq.heap.size, k, none⟩ (.slice A' (ys.length + 1) c')) → K (a.put o.dst (.slice A' (ys.length + 1) c')) w') : o.wp Try.prog a w K Q := by
  obtain ⟨i0, hi0, hz0, hz1, hz2⟩ := info_parts infoI
  have hown := h_own hO hk hy
  refine wp_append_any w s x _ ho (wq.heap.size + 1) 3 i0 _ 1 8 Try.underlying22 hi0 hz0 hz1 hz2 rfl (by omega) _ ys.length (cellsI ys) hs hown w.heap.size _ 1 1 [.int .i64 y] hx (hg.reads rfl (by simp)) (by simp; rfl) (by unfold maxLen; omega) (by omega) hO.size fun v' w' a1 a2 a3 => ?_
  have a1' : w'.ownsRow (wq.heap.size + 1) 3 1 v' (ys ++ [y]).length (cellsI (ys ++ [y])) := by rw [List.length_append, show cellsI (ys ++ [y]) = cellsI ys ++ [.int .i64 y] by simp [cellsI]]; exact a1
  obtain ⟨A', c', e9, _⟩ := IntsAt.of_own a1'
  rw [List.length_append] at e9
  subst e9
  obtain ⟨h1, h2⟩ := hO.set hk hy a1' a2 a3
  exact h A' c' w' (by rw [h2.cell]; simp [hk]) (h2.frozen k) a2 hown a3 h1
theorem bfs_end {vn : Nat} (h : BfS wq vs B wr) (hv : B.length = vn) (hl : ∀ ys ∈ B, ys.length ≤ 1000) : ∃ rows : List Row, Od.ll rows = B ∧ rows.length = vn ∧ Od.RowsAt wr wr.heap.size (some ⟨wq.heap.size, 0, none⟩) rows ∧ ∀ r ∈ rows, r.xs.length ≤ 1000 := by
  obtain ⟨rs, hl2, hr⟩ := list_of (n := B.length) (R := fun i (r : Row) => B[i]? = some r.xs ∧ vs[i]? = some (.slice r.A r.xs.length r.c) ∧ IntsAt wr wr.heap.size r.A r.xs) (by
    intro i hi
    obtain ⟨ys, hy⟩ := get_of_lt rfl hi
    obtain ⟨A, c, h1, h2, h3⟩ := h.at_ hy
    obtain ⟨A9, c9, e9, _, _, h7⟩ := IntsAt.of_own h3
    cases e9
    exact ⟨⟨A, c, ys⟩, hy, h1, h7⟩)
  have hll : Od.ll rs = B := by
    refine List.ext_getElem? fun i => ?_
    by_cases hi : i < B.length
    · obtain ⟨r, hri⟩ := get_of_lt hl2.symm hi
      rw [Od.ll_get hri, (hr i r hri).1]
    · rw [List.getElem?_eq_none (by rw [Od.ll_len]; omega), List.getElem?_eq_none (by omega)]
  refine ⟨rs, hll, by rw [hl2, hv], fun k r hk => ?_, fun r hr9 => ?_⟩
  · obtain ⟨h1, h2, h3⟩ := hr k r hk
    have h4 := hl _ (List.mem_of_getElem? h1)
    refine ⟨wq.heap.size, 0, rfl, h.blk.lt, ?_, by omega, h3⟩
    rw [Nat.zero_add, h.blk.cell]; simp [h2]
  · obtain ⟨i, hi⟩ := List.mem_iff_getElem?.1 hr9
    exact hl _ (List.mem_of_getElem? (hr i r hi).1)
theorem bfs_start (wq : World) (n : Nat) : BfS wq (List.replicate n (.slice none 0 0)) (List.replicate n []) (wq.alloc (.cells (Array.replicate n (.slice none 0 0)) 22)) := by
  have hb : Below wq.heap.size wq (wq.alloc (.cells (Array.replicate n (.slice none 0 0)) 22)) := (Below.refl _ _).alloc (Nat.le_refl _) _
  have h1 := Blk.new wq 22 (Array.replicate n (.slice none 0 0))
  refine ⟨hb, by simpa using h1, by simp, ⟨fun r hr => ?_, ?_⟩, by simp⟩
  · unfold Od.rowsB at hr
    obtain ⟨p, hp, rfl⟩ := List.mem_map.1 hr
    have h2 := List.of_mem_zip hp
    have e1 : p.1 = .slice none 0 0 := List.eq_of_mem_replicate h2.1
    have e2 : p.2 = [] := List.eq_of_mem_replicate h2.2
    rw [e1, e2]
    exact ⟨by simp [cellsI], .inl ⟨rfl, rfl⟩⟩
  · unfold Od.rowsB
    rw [List.pairwise_map]
    refine List.Pairwise.imp_of_mem (fun {a b} ha hb9 _ => ?_) (List.pairwise_of_forall (R := fun _ _ => True) (fun _ _ => trivial))
    have h2 := List.of_mem_zip ha
    have e1 : a.1 = .slice none 0 0 := List.eq_of_mem_replicate h2.1
    exact .inl (by rw [e1]; rfl)
end
/-- what comes before what -/
def BePost (d : Wd) (ss : List Stp) (w : World) (e : Ending) (w' : World) : Prop := ∃ A n c rows, e = .returned (.tuple #[.slice A n c, .int .i64 (thE d ss)]) ∧ Od.ll rows = (if thE d ss = 0 then befT (thL d ss) ss.length ss.length 0 else []) ∧ n = rows.length ∧ n ≤ c ∧ c ≤ maxLen ∧ Od.RowsAt w' w'.heap.size A rows ∧ (∀ r ∈ rows, r.xs.length ≤ 1000) ∧ Below w.heap.size w w'
theorem be_bad {d : Wd} {ss : List Stp} {w W : World} {c : Int} (h : thE d ss = c) (h0 : c ≠ 0) (hb : Below w.heap.size w W) : BePost d ss w (.returned (.tuple #[.slice none 0 0, .int .i64 c])) W := by
  subst h
  exact ⟨none, 0, 0, [], rfl, by rw [if_neg h0]; rfl, rfl, Nat.le_refl _, by unfold maxLen; omega, fun k r hk => by simp at hk, fun r hr => by simp at hr, hb⟩
theorem befT_len2 (ts : List (List Int)) (n k m : Nat) (hn : n ≤ 40) (hm : m ≤ 40) : ∀ ys ∈ befT ts n k m, ys.length ≤ 1000 := by
  intro ys hy
  obtain ⟨i, hi⟩ := List.mem_iff_getElem?.1 hy
  have hl := (List.getElem?_eq_some_iff.1 hi).1
  rw [befT_len] at hl
  rw [befT_get hl] at hi
  have h1 := Option.some.inj hi
  rw [← h1]
  split
  · have := befR_len ts i i; omega
  · split
    · have := befR_len ts k m; omega
    · simp
theorem be_ok {d : Wd} {ss : List Stp} {w wq W : World} {n : Nat} {vs : List Value} (hn : n = ss.length) (h40 : n ≤ 40) (h : thE d ss = 0) (hb : Below w.heap.size w wq) (hS : BfS wq vs (befT (thL d ss) n n 0) W) : BePost d ss w (.returned (.tuple #[.slice (some ⟨wq.heap.size, 0, none⟩) n n, .int .i64 0])) W := by
  obtain ⟨rows, h1, h2, h3, h4⟩ := bfs_end hS (befT_len _ _ _ _) (befT_len2 _ _ _ _ h40 (by omega))
  exact ⟨_, n, n, rows, by rw [h], by rw [if_pos h, h1, hn], h2.symm, Nat.le_refl _, by unfold maxLen; omega, h3, h4, hb.trans (hS.bel.mono hb.size)⟩
end Go.Proofs.Ytnaiflokmihmeaa
