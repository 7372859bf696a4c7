/- Joined texts: Grow RowS. -/
import Derived.Test.YtmchjmflkaiakaaGreatDoorBunLib
import Derived.Deep.Onto
import Derived.Test.YtmchjmflkaiakaaGreatDoorBunSeq
namespace Go.Proofs.YtmchjmflkaiakaaGreatDoor
open Go.RowKit
set_option linter.unusedVariables false
structure Rw where
 v : Value
 e : TypeId
 s : Nat
 n : Nat
 xs : List Value
structure Rws (W : World) (rs : List Rw) (w : World) : Prop where
 below : Below W.heap.size W w
 own : ∀ r ∈ rs, w.ownsRow W.heap.size r.e r.s r.v r.n r.xs
 apart : rs.Pairwise (fun r q => r.v.ownBlock = none ∨ r.v.ownBlock ≠ q.v.ownBlock)
section
variable {W w w' : World} {rs : List Rw}
theorem Rws.start : Rws W [] W := ⟨Below.refl _ _, fun _ h => by simp at h, List.Pairwise.nil⟩
theorem Rws.begin (h : Below W.heap.size W w) : Rws W [] w := ⟨h, fun _ h => by simp at h, List.Pairwise.nil⟩
theorem Rws.size (h : Rws W rs w) : W.heap.size ≤ w.heap.size := h.below.size
theorem Rws.next (h : Rws W rs w) (hb : Below w.heap.size w w') : Rws W rs w' :=
 ⟨h.below.trans (hb.mono h.below.size), fun r hr => own_below (h.own r hr) hb, h.apart⟩
theorem Rws.alloc (h : Rws W rs w) (o : Obj) : Rws W rs (w.alloc o) := h.next ((Below.refl _ _).alloc (Nat.le_refl _) _)
theorem Rws.drew (h : Rws W rs w) : Rws W rs w.drew := ⟨h.below.drew, h.own, h.apart⟩
theorem Rws.drewN (h : Rws W rs w) (n : Nat) : Rws W rs (w.drewN n) := ⟨below_drewN h.below n, fun r hr => own_below (h.own r hr) (below_drewN (Below.refl _ _) n), h.apart⟩
theorem Rws.nil (h : Rws W rs w) (e : TypeId) (s : Nat) : Rws W (⟨.slice none 0 0, e, s, 0, []⟩ :: rs) w :=
 ⟨h.below, fun r hr => by
  rcases List.mem_cons.1 hr with rfl | hr
  ·exact ⟨by simp, .inl ⟨rfl, rfl⟩⟩
  ·exact h.own r hr, List.pairwise_cons.2 ⟨fun _ _ => .inl rfl, h.apart⟩⟩
theorem Rws.drop {r : Rw} (h : Rws W (r :: rs) w) : Rws W rs w := ⟨h.below, fun q hq => h.own q (List.mem_cons_of_mem _ hq), (List.pairwise_cons.1 h.apart).2⟩
theorem Rws.swap {r q : Rw} (h : Rws W (r :: q :: rs) w) : Rws W (q :: r :: rs) w := by
 refine ⟨h.below, fun x hx => h.own x (by simp only [List.mem_cons] at hx ⊢; rcases hx with h | h | h; exact .inr (.inl h); exact .inl h; exact .inr (.inr h)), ?_⟩
 have h1 := List.pairwise_cons.1 h.apart
 have h2 := List.pairwise_cons.1 h1.2
 refine List.pairwise_cons.2 ⟨fun x hx => ?_, List.pairwise_cons.2 ⟨fun x hx => h1.1 x (List.mem_cons_of_mem _ hx), h2.2⟩⟩
 rcases List.mem_cons.1 hx with rfl | hx
 ·rcases h1.1 q List.mem_cons_self with h | h
  ·cases hq : q.v.ownBlock with
   | none => exact .inl rfl
   | some k => exact .inr (by rw [h]; simp)
  ·cases hq : q.v.ownBlock with
   | none => exact .inl rfl
   | some k => rw [hq] at h; exact .inr (Ne.symm h)
 ·exact h2.1 x hx
theorem Rws.head {r : Rw} (h : Rws W (r :: rs) w) : w.ownsRow W.heap.size r.e r.s r.v r.n r.xs := h.own r List.mem_cons_self
theorem Rws.grown {r : Rw} {v' : Value} {n' : Nat} {xs' : List Value} (h : Rws W (r :: rs) w) (hg : w.grownBy w' r.v.ownBlock) (ho : w'.ownsRow W.heap.size r.e r.s v' n' xs') (hat : v'.ownBlock = r.v.ownBlock ∨ v'.ownBlock = some w.heap.size) : Rws W (⟨v', r.e, r.s, n', xs'⟩ :: rs) w' := by
 have h1 := List.pairwise_cons.1 h.apart
 have hB : ∀ k, r.v.ownBlock = some k → W.heap.size ≤ k := fun k hk => (h.head.lt k hk).1
 refine ⟨h.below.grown hg h.below.size hB, fun q hq => ?_, List.pairwise_cons.2 ⟨fun q hq => ?_, h1.2⟩⟩
 ·rcases List.mem_cons.1 hq with rfl | hq
  ·exact ho
  ·refine (h.own q (List.mem_cons_of_mem _ hq)).kept hg ?_
   rcases h1.1 q hq with e | e
   ·cases hk : q.v.ownBlock with
    | none => exact .inl rfl
    | some k => exact .inr (by rw [e]; simp)
   ·cases hk : q.v.ownBlock with
    | none => exact .inl rfl
    | some k => rw [hk] at e; exact .inr (Ne.symm e)
 ·show v'.ownBlock = none ∨ v'.ownBlock ≠ q.v.ownBlock
  rcases hat with e | e
  ·rw [e]; exact h1.1 q hq
  ·rw [e]
   refine .inr fun e2 => ?_
   have := ((h.own q (List.mem_cons_of_mem _ hq)).lt _ e2.symm).2
   omega
end
section
variable {P : Program} {W : World} {rs : List Rw}
theorem wp_append_row {o : Oper} {a : Act} {K : Act → World → Prop} {Q : Exit → Act → World → Prop} (s x : Operand) (t : TypeId)
  (ho : o.op = .call { callee := .builtin .append, args := #[s, x], argTypes := #[t, t] })
  {e : TypeId} {z : Value} {size bytes : Nat} (ht : P.underlying t = some (.slice e)) (hi : (P.info? e).map (fun i => (i.zero, i.size, i.bytes)) = some (some z, size, bytes)) (hzs : z.cells.size = size) (hk : (decide (0 < size) && decide (bytes ≤ 4096)) = true)
  {w : World} {v : Value} {n : Nat} {xs : List Value} (hR : Rws W (⟨v, e, size, n, xs⟩ :: rs) w) {B : Nat} {A : Option Addr} {m c : Nat} {news : List Value} (hs : a.eval s = v) (hx : a.eval x = .slice A m c) (hr : Reads w B size A m news) (h1 : ∀ u ∈ news, u.oneCell' = true)
  (hnm : n + m ≤ 4294967296)
  (h : ∀ v' w', Rws W (⟨v', e, size, n + m, xs ++ news⟩ :: rs) w' → Below W.heap.size W w' → K (a.put o.dst v') w') : o.wp P a w K Q := by
 obtain ⟨i0, hi0, hz0, hz1, hz2⟩ := info_parts hi
 have hk := hk
 simp only [Bool.and_eq_true, decide_eq_true_eq] at hk
 have hbytes : (n + m) * bytes ≤ 4294967296 * 4096 := Nat.mul_le_mul hnm hk.2
 refine wp_append_any w s x t ho W.heap.size e i0 z size bytes ht hi0 hz0 hz1 hz2 hzs hk.1 v n xs hs hR.head B A m c news hx hr h1 (by unfold maxLen; omega) (by omega) hR.size fun v' w' a1 a2 a3 => ?_
 have hR' := hR.grown a2 a1 a3
 exact h v' w' hR' hR'.below
end
set_option linter.unusedSimpArgs false
theorem run_append_zero {P : Program} {w : World} {t ty e : TypeId} {z : Value} {size bytes : Nat} (ht : P.underlying t = some (.slice e)) (hi : (P.info? e).map (fun i => (i.zero, i.size, i.bytes)) = some (some z, size, bytes))
  {A : Option Addr} {a : Addr} {n c : Nat} {news : List Value} (hl : news.length = n * size) (hnews : ∀ j v, news[j]? = some v → w.cell? (a.add j) = some v) (h0 : 0 < n) (hn : n ≤ 1000000) (hb : bytes ≤ 4096) :
  (Builtin.append_ #[t, t] ty #[.slice A 0 0, .slice (some a) n c]).run P w = (Builtin.append_ #[t, t] ty #[.slice none 0 0, .slice (some a) n c]).run P w := by
 obtain ⟨i, hi0, hz0, hz1, hz2⟩ := info_parts hi
 cases A with
 | none => rfl
 | some b =>
   have hnb : n * i.bytes ≤ 1000000 * 4096 := Nat.mul_le_mul hn (by omega)
   have h1 := run_append_nil (P := P) w t ty e i z ht hi0 hz0 a n c news (by rw [hz1]; exact hl) hnews h0 (by omega) (by omega)
   have h2 := run_append_grow (P := P) w t ty e i z ht hi0 hz0 b 0 0 [] (by simp) (by simp) a n c news (by rw [hz1]; exact hl) hnews (by omega) (by omega) (by
    rw [show 0 + n = n by omega, nextslicecap_zero h0]
    omega)
   simp only [Nat.zero_add] at h2
   rw [h2, h1]
   simp
section
variable {P : Program} {ops : Array Oper} {W : World} {l : List Own} {Q : Exit → Act → World → Prop} {gs : List Nat} {k : Nat} {o : Oper} {rest : List Oper} {a : Act} {R : Reg}
theorem St.grown {w w' : World} {row : Option Nat} (h : St W l w) (hg : w.grownBy w' row) (hB : ∀ k, row = some k → W.heap.size ≤ k) (hne : ∀ e ∈ l, some e.1 ≠ row) : St W l w' :=
 ⟨h.below.grown hg h.below.size hB, fun e he => ⟨(h.blk e he).1, (h.blk e he).2.grown hg (hne e he)⟩, h.apart⟩
theorem size_of_own {w : World} {base : Nat} {e : TypeId} {size n : Nat} {v : Value} {xs : List Value} (h : w.ownsRow base e size v n xs) (hn : 0 < n) : ∃ g cap J, v = .slice (some ⟨g, 0, none⟩) n cap ∧ base ≤ g ∧ n ≤ cap ∧ cap ≤ maxLen ∧ (xs ++ J).length = cap * size ∧ Blk w g e (xs ++ J).toArray := by
 rcases h.2 with ⟨_, h0⟩ | ⟨g, cap, cur, hv, hb, hh, hnc, hm, hs, hc⟩
 ·omega
 ·refine ⟨g, cap, cur.toList.drop (n * size), hv, hb, hnc, hm, ?_, ?_⟩
  ·rw [← hc, List.take_append_drop]; simpa using hs
  ·rw [← hc, List.take_append_drop]; exact hh
theorem Seq.append {s x : Operand} {t e e1 : TypeId} {z : Value} {size bytes n cap g g1 m c1 : Nat} {xs : List Value} {cs cs1 : Array Value}
  (ho : o.op = .call { callee := .builtin .append, args := #[s, x], argTypes := #[t, t] }) (hg : gs.contains 3000000 = true) (hw : wants ops o a = true)
  (ht : P.underlying t = some (.slice e)) (hi : (P.info? e).map (fun i => (i.zero, i.size, i.bytes)) = some (some z, size, bytes)) (hzs : z.cells.size = size) (hk : (decide (0 < size) && decide (bytes ≤ 4096)) = true)
  (hs : a.eval s = .slice (some ⟨g, 0, none⟩) n cap) (hR : R g = some (e, cs)) (hcs : cs.size = cap * size) (hnc : n ≤ cap) (hcm : cap ≤ maxLen) (hxs : cs.toList.take (n * size) = xs)
  (hx : a.eval x = .slice (some ⟨g1, 0, none⟩) m c1) (hR1 : R g1 = some (e1, cs1)) (hn1 : cs1.size = m * size) (h1 : ∀ u ∈ cs1.toList, u.oneCell' = true) (hm : 0 < m) (hnm : n + m ≤ 1000000)
  (h : ∀ (g' cap' : Nat) (J' : List Value) (R' : Reg), n + m ≤ cap' → cap' ≤ maxLen → (xs ++ cs1.toList ++ J').length = cap' * size → R' g' = some (e, (xs ++ cs1.toList ++ J').toArray) → (∀ p y, p ≠ g → R p = some y → R' p = some y ∧ p ≠ g') →
   Seq P ops Q W l gs (k + 1) rest (a.put o.dst (.slice (some ⟨g', 0, none⟩) (n + m) cap')) R') : Seq P ops Q W l gs k (o :: rest) a R := by
 refine Seq.gen hg hw fun w hst => ?_
 obtain ⟨i0, hi0, hz0, hz1, hz2⟩ := info_parts hi
 simp only [Bool.and_eq_true, decide_eq_true_eq] at hk
 obtain ⟨r1, r2, r3⟩ := hst.reg _ _ _ hR
 obtain ⟨q1, q2, q3⟩ := hst.reg _ _ _ hR1
 have hown : w.ownsRow W.heap.size e size (.slice (some ⟨g, 0, none⟩) n cap) n xs := by
  refine ⟨?_, .inr ⟨g, cap, cs, rfl, r1, r3, hnc, hcm, hcs, hxs⟩⟩
  rw [← hxs, List.length_take, Array.length_toList, hcs]
  have := Nat.mul_le_mul_right size hnc
  omega
 have hbytes : (n + m) * bytes ≤ 1000000 * 4096 := Nat.mul_le_mul hnm hk.2
 refine wp_append_any w s x t ho W.heap.size e i0 z size bytes ht hi0 hz0 hz1 hz2 hzs hk.1 _ n xs hs hown w.heap.size _ m c1 cs1.toList hx (q3.reads rfl (by simpa using hn1)) h1 (by unfold maxLen; omega) (by omega) hst.st.below.size fun v' w' a1 a2 a3 => ?_
 obtain ⟨g', cap', J', hv, hb, hc1, hc2, hc3, hc4⟩ := size_of_own a1 (by omega)
 subst hv
 refine ⟨fun q => if q = g' then some (e, (xs ++ cs1.toList ++ J').toArray) else if q = g then none else R q, ⟨hst.st.grown a2 (fun k hk => ?_) (fun y hy => ?_), fun p t' cs' hp => ?_⟩, h g' cap' J' _ hc1 hc2 hc3 (by simp) (fun p y hpg hp => ?_)⟩
 ·simp only [Value.ownBlock] at hk
  injection hk with hk
  omega
 ·simp only [Value.ownBlock]
  intro e9
  injection e9 with e9
  exact r2 y hy e9
 ·by_cases hpg : p = g'
  ·rw [if_pos hpg] at hp
   injection hp with hp
   injection hp with hp1 hp2
   subst hp1 hp2 hpg
   refine ⟨hb, fun y hy e9 => ?_, hc4⟩
   rcases a3 with e3 | e3
   ·simp only [Value.ownBlock] at e3
    injection e3 with e3
    exact r2 y hy (by omega)
   ·simp only [Value.ownBlock] at e3
    injection e3 with e3
    have := (hst.st.blk y hy).2.lt
    omega
  ·rw [if_neg hpg] at hp
   by_cases hpg2 : p = g
   ·rw [if_pos hpg2] at hp; cases hp
   ·rw [if_neg hpg2] at hp
    obtain ⟨s1, s2, s3⟩ := hst.reg _ _ _ hp
    exact ⟨s1, s2, s3.grown a2 (by simp only [Value.ownBlock]; intro e9; injection e9 with e9; exact hpg2 e9)⟩
 ·have hne : p ≠ g' := by
   intro e9
   rcases a3 with e3 | e3
   ·simp only [Value.ownBlock] at e3
    injection e3 with e3
    omega
   ·simp only [Value.ownBlock] at e3
    injection e3 with e3
    have := (hst.reg p y.1 y.2 hp).2.2.lt
    omega
  refine ⟨?_, hne⟩
  rw [if_neg hne, if_neg hpg]
  exact hp
theorem Seq.append0 {s x : Operand} {t e e1 : TypeId} {z : Value} {size bytes g1 m c1 : Nat} {A : Option Addr} {cs1 : Array Value}
  (ho : o.op = .call { callee := .builtin .append, args := #[s, x], argTypes := #[t, t] }) (hg : gs.contains 3000000 = true) (hw : wants ops o a = true)
  (ht : P.underlying t = some (.slice e)) (hi : (P.info? e).map (fun i => (i.zero, i.size, i.bytes)) = some (some z, size, bytes)) (hzs : z.cells.size = size) (hk : (decide (0 < size) && decide (bytes ≤ 4096)) = true)
  (hs : a.eval s = .slice A 0 0)
  (hx : a.eval x = .slice (some ⟨g1, 0, none⟩) m c1) (hR1 : R g1 = some (e1, cs1)) (hn1 : cs1.size = m * size) (h1 : ∀ u ∈ cs1.toList, u.oneCell' = true) (hm : 0 < m) (hnm : m ≤ 1000000)
  (h : ∀ (g' cap' : Nat) (J' : List Value) (R' : Reg), m ≤ cap' → cap' ≤ maxLen → (cs1.toList ++ J').length = cap' * size → R' g' = some (e, (cs1.toList ++ J').toArray) → (∀ p y, R p = some y → R' p = some y ∧ p ≠ g') →
   Seq P ops Q W l gs (k + 1) rest (a.put o.dst (.slice (some ⟨g', 0, none⟩) m cap')) R') : Seq P ops Q W l gs k (o :: rest) a R := by
 refine Seq.gen hg hw fun w hst => ?_
 obtain ⟨i0, hi0, hz0, hz1, hz2⟩ := info_parts hi
 have hk' := hk
 simp only [Bool.and_eq_true, decide_eq_true_eq] at hk
 obtain ⟨q1, q2, q3⟩ := hst.reg _ _ _ hR1
 have hrd : Reads w w.heap.size size (some ⟨g1, 0, none⟩) m cs1.toList := q3.reads rfl (by simpa using hn1)
 obtain ⟨ad, he, _, hcells⟩ := hrd.2 hm
 injection he with he
 subst he
 have hbytes : m * bytes ≤ 1000000 * 4096 := Nat.mul_le_mul hnm hk.2
 obtain ⟨v', w', hrun, a1, a2, a3⟩ := run_append_any (P := P) w W.heap.size t o.type e i0 z size bytes ht hi0 hz0 hz1 hz2 hzs hk.1 (.slice none 0 0) 0 [] (World.ownsRow_nil w _ e size) w.heap.size _ m c1 cs1.toList hrd h1 (by unfold maxLen; omega) (by rw [Nat.zero_add]; omega) hst.st.below.size
 rw [← run_append_zero (A := A) ht hi hrd.1 hcells hm hnm hk.2] at hrun
 simp only [Nat.zero_add, List.nil_append] at a1
 obtain ⟨g', cap', J', hv, hb, hc1, hc2, hc3, hc4⟩ := size_of_own a1 hm
 subst hv
 unfold Oper.wp execOp
 simp only [ho, resolve, invoke, builtin, Sem.run_bind, Sem.run_pure, Result.andThen_ok, List.map_toArray, List.map_cons, List.map_nil, hs, hx, hrun]
 have hgw : g' = w.heap.size := by
  rcases a3 with e3 | e3
  ·simp [Value.ownBlock] at e3
  ·simp only [Value.ownBlock] at e3
   injection e3
 refine ⟨fun q => if q = g' then some (e, (cs1.toList ++ J').toArray) else R q, ⟨hst.st.grown a2 (fun k hk => by simp [Value.ownBlock] at hk) (fun y hy => by simp [Value.ownBlock]), fun p t' cs' hp => ?_⟩, h g' cap' J' _ hc1 hc2 hc3 (by simp) (fun p y hp => ?_)⟩
 rotate_left
 ·have hne : p ≠ g' := by
   intro e9
   have := (hst.reg p y.1 y.2 hp).2.2.lt
   omega
  refine ⟨?_, hne⟩
  rw [if_neg hne]
  exact hp
 by_cases hpg : p = g'
 ·rw [if_pos hpg] at hp
  injection hp with hp
  injection hp with hp1 hp2
  subst hp1 hp2 hpg
  refine ⟨hb, fun y hy e9 => ?_, hc4⟩
  have := (hst.st.blk y hy).2.lt
  omega
 ·rw [if_neg hpg] at hp
  obtain ⟨s1, s2, s3⟩ := hst.reg _ _ _ hp
  exact ⟨s1, s2, s3.grown a2 (by simp [Value.ownBlock])⟩
theorem Seq.callTwo {f : FuncId} {xs : List Operand} {ts : Array TypeId} {vs : Array Value} {n1 n2 : Nat} {T : TypeId} {c1 c2 : Array Value} (ho : o.op = .call { callee := .value (.func f), args := xs.toArray, argTypes := ts }) (hg : gs.contains 3000000 = true) (hw : wants ops o a = true)
  (hx : xs.map a.eval = vs.toList) (hf : goesIn P f = true)
  (hc : ∀ w, StR W l R w → Calls P f vs w (fun e w' => ∃ g1 g2, e = .returned (.tuple #[.slice (some ⟨g1, 0, none⟩) n1 n1, .slice (some ⟨g2, 0, none⟩) n2 n2]) ∧ St w [(g1, T, c1), (g2, T, c2)] w'))
  (h : ∀ g1 g2, g1 ≠ g2 → Seq P ops Q W l gs (k + 1) rest (a.put o.dst (.tuple #[.slice (some ⟨g1, 0, none⟩) n1 n1, .slice (some ⟨g2, 0, none⟩) n2 n2])) ((R.put g2 (T, c2)).put g1 (T, c1))) : Seq P ops Q W l gs k (o :: rest) a R := by
 refine Seq.gen hg hw fun w hs => ?_
 have hr : (execOp a.eval o).run P w = .ok (.enter f vs) w := by
  unfold goesIn at hf
  cases hp : P.funcs[f]? with
  | none => simp [hp] at hf
  | some fn =>
    simp only [hp, Bool.and_eq_true, bne_iff_ne, ne_eq] at hf
    have hb : fn.body.isNone = false := by cases hq : fn.body <;> simp_all
    have hv : (xs.map a.eval).toArray = vs := by rw [hx]
    simp [execOp, ho, resolve, invoke, callFunc, Deferred.ofValue, Act.eval, hp, hf.1, hb, hv, go_sem]
    intro hq; rw [hq] at hb; cases hb
 unfold Oper.wp
 rw [hr]
 simp only [Oper.upon]
 refine Calls.mono (hc w hs) fun e w' he => ?_
 obtain ⟨g1, g2, rfl, h2⟩ := he
 have hne : g1 ≠ g2 := (List.pairwise_cons.1 h2.apart).1 _ List.mem_cons_self
 have b1 := h2.blk _ List.mem_cons_self
 have b2 := h2.blk _ (List.mem_cons_of_mem _ List.mem_cons_self)
 have hsz := hs.st.below.size
 have hl : ∀ g, w.heap.size ≤ g → ∀ y ∈ l, y.1 ≠ g := fun g hg y hy e9 => by have := (hs.st.blk y hy).2.lt; omega
 have hs' := hs.next h2.below
 refine ⟨_, ⟨hs'.st, fun p t' cs' hp => ?_⟩, h g1 g2 hne⟩
 by_cases e1 : p = g1
 ·subst e1
  rw [Reg.put_same] at hp
  injection hp with hp
  injection hp with hp1 hp2
  subst hp1 hp2
  exact ⟨Nat.le_trans hsz b1.1, hl _ b1.1, b1.2⟩
 ·rw [Reg.put_ne _ _ e1] at hp
  by_cases e2 : p = g2
  ·subst e2
   rw [Reg.put_same] at hp
   injection hp with hp
   injection hp with hp1 hp2
   subst hp1 hp2
   exact ⟨Nat.le_trans hsz b2.1, hl _ b2.1, b2.2⟩
  ·rw [Reg.put_ne _ _ e2] at hp
   exact hs'.reg _ _ _ hp
end
end Go.Proofs.YtmchjmflkaiakaaGreatDoor
