/- Append as a step of a region in the order of its text: onto a row of the call's own, onto a slice without room. -/
import Derived.Test.YtekbpiooecdopaaDoorBunSeq
import Derived.Test.YtekbpiooecdopaaDoorGrow

namespace Go.Proofs.YtekbpiooecdopaaDoor
open Go.RowKit
set_option linter.unusedVariables false
set_option linter.unusedSimpArgs false

/-- a slice without room is like none -/
theorem run_append_zero {P : Program} {w : World} {t ty e : TypeId} {z : Value} {size bytes : Nat} (ht : P.underlying t = some (.slice e)) (hi : (P.info? e).map (fun i => (i.zero, i.size, i.bytes)) = some (some z, size, bytes))
    {A : Option Addr} {a : Addr} {n c : Nat} {news : List Value} (hl : news.length = n * size) (hnews : ∀ j v, news[j]? = some v → w.cell? (a.add j) = some v) (h0 : 0 < n) (hn : n ≤ 1000000) (hb : bytes ≤ 4096) :
    (Builtin.append_ #[t, t] ty #[.slice A 0 0, .slice (some a) n c]).run P w = (Builtin.append_ #[t, t] ty #[.slice none 0 0, .slice (some a) n c]).run P w := by
  obtain ⟨i, hi0, hz0, hz1, hz2⟩ := info_parts hi
  cases A with
  | none => rfl
  | some b =>
    have hnb : n * i.bytes ≤ 1000000 * 4096 := Nat.mul_le_mul hn (by omega)
    have h1 := run_append_nil (P := P) w t ty e i z ht hi0 hz0 a n c news (by rw [hz1]; exact hl) hnews h0 (by omega) (by omega)
    have h2 := run_append_grow (P := P) w t ty e i z ht hi0 hz0 b 0 0 [] (by simp) (by simp) a n c news (by rw [hz1]; exact hl) hnews (by omega) (by omega) (by
      rw [show 0 + n = n by omega, nextslicecap_zero h0]
      omega)
    simp only [Nat.zero_add] at h2
    rw [h2, h1]
    simp
section
variable {P : Program} {ops : Array Oper} {W : World} {l : List Own} {Q : Exit → Act → World → Prop} {gs : List Nat} {k : Nat} {o : Oper} {rest : List Oper} {a : Act} {R : Reg}
theorem St.grown {w w' : World} {row : Option Nat} (h : St W l w) (hg : w.grownBy w' row) (hB : ∀ k, row = some k → W.heap.size ≤ k) (hne : ∀ e ∈ l, some e.1 ≠ row) : St W l w' :=
  ⟨h.below.grown hg h.below.size hB, fun e he => ⟨(h.blk e he).1, (h.blk e he).2.grown hg (hne e he)⟩, h.apart⟩
theorem size_of_own {w : World} {base : Nat} {e : TypeId} {size n : Nat} {v : Value} {xs : List Value} (h : w.ownsRow base e size v n xs) (hn : 0 < n) : ∃ g cap J, v = .slice (some ⟨g, 0, none⟩) n cap ∧ base ≤ g ∧ n ≤ cap ∧ cap ≤ maxLen ∧ (xs ++ J).length = cap * size ∧ Blk w g e (xs ++ J).toArray := by
  rcases h.2 with ⟨_, h0⟩ | ⟨g, cap, cur, hv, hb, hh, hnc, hm, hs, hc⟩
  · omega
  · refine ⟨g, cap, cur.toList.drop (n * size), hv, hb, hnc, hm, ?_, ?_⟩
    · rw [← hc, List.take_append_drop]; simpa using hs
    · rw [← hc, List.take_append_drop]; exact hh
/-- one after another behind a row of the region -/
theorem Seq.append {s x : Operand} {t e e1 : TypeId} {z : Value} {size bytes n cap g g1 m c1 : Nat} {xs : List Value} {cs cs1 : Array Value}
    (ho : o.op = .call { callee := .builtin .append, args := #[s, x], argTypes := #[t, t] }) (hg : gs.contains 3000000 = true) (hw : wants ops o a = true)
    (ht : P.underlying t = some (.slice e)) (hi : (P.info? e).map (fun i => (i.zero, i.size, i.bytes)) = some (some z, size, bytes)) (hzs : z.cells.size = size) (hk : (decide (0 < size) && decide (bytes ≤ 4096)) = true)
    (hs : a.eval s = .slice (some ⟨g, 0, none⟩) n cap) (hR : R g = some (e, cs)) (hcs : cs.size = cap * size) (hnc : n ≤ cap) (hcm : cap ≤ maxLen) (hxs : cs.toList.take (n * size) = xs)
    (hx : a.eval x = .slice (some ⟨g1, 0, none⟩) m c1) (hR1 : R g1 = some (e1, cs1)) (hn1 : cs1.size = m * size) (h1 : ∀ u ∈ cs1.toList, u.oneCell' = true) (hm : 0 < m) (hnm : n + m ≤ 1000000)
    (h : ∀ (g' cap' : Nat) (J' : List Value) (R' : Reg), n + m ≤ cap' → cap' ≤ maxLen → (xs ++ cs1.toList ++ J').length = cap' * size → R' g' = some (e, (xs ++ cs1.toList ++ J').toArray) → (∀ p y, p ≠ g → R p = some y → R' p = some y ∧ p ≠ g') →
      Seq P ops Q W l gs (k + 1) rest (a.put o.dst (.slice (some ⟨g', 0, none⟩) (n + m) cap')) R') : Seq P ops Q W l gs k (o :: rest) a R := by
  refine Seq.gen hg hw fun w hst => ?_
  obtain ⟨i0, hi0, hz0, hz1, hz2⟩ := info_parts hi
  simp only [Bool.and_eq_true, decide_eq_true_eq] at hk
  obtain ⟨r1, r2, r3⟩ := hst.reg _ _ _ hR
  obtain ⟨q1, q2, q3⟩ := hst.reg _ _ _ hR1
  have hown : w.ownsRow W.heap.size e size (.slice (some ⟨g, 0, none⟩) n cap) n xs := by
    refine ⟨?_, .inr ⟨g, cap, cs, rfl, r1, r3, hnc, hcm, hcs, hxs⟩⟩
    rw [← hxs, List.length_take, Array.length_toList, hcs]
    have := Nat.mul_le_mul_right size hnc
    omega
  have hbytes : (n + m) * bytes ≤ 1000000 * 4096 := Nat.mul_le_mul hnm hk.2
  refine wp_append_any w s x t ho W.heap.size e i0 z size bytes ht hi0 hz0 hz1 hz2 hzs hk.1 _ n xs hs hown w.heap.size _ m c1 cs1.toList hx (q3.reads rfl (by simpa using hn1)) h1 (by unfold maxLen; omega) (by omega) hst.st.below.size fun v' w' a1 a2 a3 => ?_
  obtain ⟨g', cap', J', hv, hb, hc1, hc2, hc3, hc4⟩ := size_of_own a1 (by omega)
  subst hv
  refine ⟨fun q => if q = g' then some (e, (xs ++ cs1.toList ++ J').toArray) else if q = g then none else R q, ⟨hst.st.grown a2 (fun k hk => ?_) (fun y hy => ?_), fun p t' cs' hp => ?_⟩, h g' cap' J' _ hc1 hc2 hc3 (by simp) (fun p y hpg hp => ?_)⟩
  · simp only [Value.ownBlock] at hk
    injection hk with hk
    omega
  · simp only [Value.ownBlock]
    intro e9
    injection e9 with e9
    exact r2 y hy e9
  · by_cases hpg : p = g'
    · rw [if_pos hpg] at hp
      injection hp with hp
      injection hp with hp1 hp2
      subst hp1 hp2 hpg
      refine ⟨hb, fun y hy e9 => ?_, hc4⟩
      rcases a3 with e3 | e3
      · simp only [Value.ownBlock] at e3
        injection e3 with e3
        exact r2 y hy (by omega)
      · simp only [Value.ownBlock] at e3
        injection e3 with e3
        have := (hst.st.blk y hy).2.lt
        omega
    · rw [if_neg hpg] at hp
      by_cases hpg2 : p = g
      · rw [if_pos hpg2] at hp; cases hp
      · rw [if_neg hpg2] at hp
        obtain ⟨s1, s2, s3⟩ := hst.reg _ _ _ hp
        exact ⟨s1, s2, s3.grown a2 (by simp only [Value.ownBlock]; intro e9; injection e9 with e9; exact hpg2 e9)⟩
  · have hne : p ≠ g' := by
      intro e9
      rcases a3 with e3 | e3
      · simp only [Value.ownBlock] at e3
        injection e3 with e3
        omega
      · simp only [Value.ownBlock] at e3
        injection e3 with e3
        have := (hst.reg p y.1 y.2 hp).2.2.lt
        omega
    refine ⟨?_, hne⟩
    rw [if_neg hne, if_neg hpg]
    exact hp
/-- .. onto a slice without room -/
theorem Seq.append0 {s x : Operand} {t e e1 : TypeId} {z : Value} {size bytes g1 m c1 : Nat} {A : Option Addr} {cs1 : Array Value}
    (ho : o.op = .call { callee := .builtin .append, args := #[s, x], argTypes := #[t, t] }) (hg : gs.contains 3000000 = true) (hw : wants ops o a = true)
    (ht : P.underlying t = some (.slice e)) (hi : (P.info? e).map (fun i => (i.zero, i.size, i.bytes)) = some (some z, size, bytes)) (hzs : z.cells.size = size) (hk : (decide (0 < size) && decide (bytes ≤ 4096)) = true)
    (hs : a.eval s = .slice A 0 0)
    (hx : a.eval x = .slice (some ⟨g1, 0, none⟩) m c1) (hR1 : R g1 = some (e1, cs1)) (hn1 : cs1.size = m * size) (h1 : ∀ u ∈ cs1.toList, u.oneCell' = true) (hm : 0 < m) (hnm : m ≤ 1000000)
    (h : ∀ (g' cap' : Nat) (J' : List Value) (R' : Reg), m ≤ cap' → cap' ≤ maxLen → (cs1.toList ++ J').length = cap' * size → R' g' = some (e, (cs1.toList ++ J').toArray) → (∀ p y, R p = some y → R' p = some y ∧ p ≠ g') →
      Seq P ops Q W l gs (k + 1) rest (a.put o.dst (.slice (some ⟨g', 0, none⟩) m cap')) R') : Seq P ops Q W l gs k (o :: rest) a R := by
  refine Seq.gen hg hw fun w hst => ?_
  obtain ⟨i0, hi0, hz0, hz1, hz2⟩ := info_parts hi
  have hk' := hk
  simp only [Bool.and_eq_true, decide_eq_true_eq] at hk
  obtain ⟨q1, q2, q3⟩ := hst.reg _ _ _ hR1
  have hrd : Reads w w.heap.size size (some ⟨g1, 0, none⟩) m cs1.toList := q3.reads rfl (by simpa using hn1)
  obtain ⟨ad, he, _, hcells⟩ := hrd.2 hm
  injection he with he
  subst he
  have hbytes : m * bytes ≤ 1000000 * 4096 := Nat.mul_le_mul hnm hk.2
  obtain ⟨v', w', hrun, a1, a2, a3⟩ := run_append_any (P := P) w W.heap.size t o.type e i0 z size bytes ht hi0 hz0 hz1 hz2 hzs hk.1 (.slice none 0 0) 0 [] (World.ownsRow_nil w _ e size) w.heap.size _ m c1 cs1.toList hrd h1 (by unfold maxLen; omega) (by rw [Nat.zero_add]; omega) hst.st.below.size
  rw [← run_append_zero (A := A) ht hi hrd.1 hcells hm hnm hk.2] at hrun
  simp only [Nat.zero_add, List.nil_append] at a1
  obtain ⟨g', cap', J', hv, hb, hc1, hc2, hc3, hc4⟩ := size_of_own a1 hm
  subst hv
  unfold Oper.wp execOp
  simp only [ho, resolve, invoke, builtin, Sem.run_bind, Sem.run_pure, Result.andThen_ok, List.map_toArray, List.map_cons, List.map_nil, hs, hx, hrun]
  have hgw : g' = w.heap.size := by
    rcases a3 with e3 | e3
    · simp [Value.ownBlock] at e3
    · simp only [Value.ownBlock] at e3
      injection e3
  refine ⟨fun q => if q = g' then some (e, (cs1.toList ++ J').toArray) else R q, ⟨hst.st.grown a2 (fun k hk => by simp [Value.ownBlock] at hk) (fun y hy => by simp [Value.ownBlock]), fun p t' cs' hp => ?_⟩, h g' cap' J' _ hc1 hc2 hc3 (by simp) (fun p y hp => ?_)⟩
  rotate_left
  · have hne : p ≠ g' := by
      intro e9
      have := (hst.reg p y.1 y.2 hp).2.2.lt
      omega
    refine ⟨?_, hne⟩
    rw [if_neg hne]
    exact hp
  by_cases hpg : p = g'
  · rw [if_pos hpg] at hp
    injection hp with hp
    injection hp with hp1 hp2
    subst hp1 hp2 hpg
    refine ⟨hb, fun y hy e9 => ?_, hc4⟩
    have := (hst.st.blk y hy).2.lt
    omega
  · rw [if_neg hpg] at hp
    obtain ⟨s1, s2, s3⟩ := hst.reg _ _ _ hp
    exact ⟨s1, s2, s3.grown a2 (by simp [Value.ownBlock])⟩
end
end Go.Proofs.YtekbpiooecdopaaDoor
