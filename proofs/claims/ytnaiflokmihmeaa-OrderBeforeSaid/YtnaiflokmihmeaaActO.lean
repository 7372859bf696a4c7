/- Walk: world (reference): a world out of its facts. -/
import Derived.Test.YtnaiflokmihmeaaActN
import Derived.Deep.RegionLaw
namespace Go.Proofs.Ytnaiflokmihmeaa
open Go.RowKit
set_option linter.unusedVariables false
set_option linter.unusedSimpArgs false

theorem Rws.perm {W w : World} {rs rs' : List Rw} (h : Rws W rs w) (hp : rs.Perm rs') : Rws W rs' w := by
  refine ⟨h.below, fun r hr => h.own r (hp.mem_iff.2 hr), (hp.pairwise_iff ?_).1 h.apart⟩
  intro r q hrq
  cases hq : q.v.ownBlock with
  | none => exact .inl rfl
  | some k =>
    refine .inr fun e => ?_
    rcases hrq with h1 | h1
    · rw [h1] at e; cases e
    · exact h1 (by rw [hq, e])
theorem step_append_grow {P : Program} {W : World} {rs : List Rw} {ops : Array Oper} {o : Oper} {a : Act} {K : Act → World → Prop} {Q : Exit → Act → World → Prop} {E : Prop} (hgd : o.guard = none) (s x : Operand) (t : TypeId)
    (ho : o.op = .call { callee := .builtin .append, args := #[s, x], argTypes := #[t, t] })
    {e : TypeId} {z : Value} {size bytes : Nat} (ht : P.underlying t = some (.slice e)) (hi : (P.info? e).map (fun i => (i.zero, i.size, i.bytes)) = some (some z, size, bytes)) (hzs : z.cells.size = size) (hk : (decide (0 < size) && decide (bytes ≤ 4096)) = true)
    {w : World} {cs : Array Value} {g : Nat} {v : Value} {n : Nat} {xs : List Value} (hR : Rws W (⟨v, e, size, n, xs⟩ :: rs) w) (hB : Blk w g e cs) (hs : a.eval s = v) (hx : a.eval x = .slice (some ⟨g, 0, none⟩) 1 1) (hcs : cs.size = size) (h1 : ∀ u ∈ cs.toList, u.oneCell' = true)
    (hnm : n + 1 ≤ 4294967296)
    (h : ∀ v' w', Rws W (⟨v', e, size, n + 1, xs ++ cs.toList⟩ :: rs) w' → w.grownBy w' v.ownBlock → K (a.put o.dst v') w') :
    if Region.wanted o (yielded ops a.tmps) = true then Oper.wp P o a w K Q else E := by
  have hw : Region.wanted o (yielded ops a.tmps) = true := by simp [Region.wanted, hgd]
  rw [if_pos hw]
  obtain ⟨i0, hi0, hz0, hz1, hz2⟩ := info_parts hi
  have hk := hk
  simp only [Bool.and_eq_true, decide_eq_true_eq] at hk
  have hbytes : (n + 1) * bytes ≤ 4294967296 * 4096 := Nat.mul_le_mul hnm hk.2
  refine wp_append_any w s x t ho W.heap.size e i0 z size bytes ht hi0 hz0 hz1 hz2 hzs hk.1 v n xs hs hR.head w.heap.size _ 1 1 cs.toList hx (hB.reads rfl (by simp [hcs])) h1 (by unfold maxLen; omega) (by omega) hR.size fun v' w' a1 a2 a3 => ?_
  exact h v' w' (hR.grown a2 a1 a3) a2
abbrev rowI (v : Value) (xs : List Int) : Rw := ⟨v, 3, 1, xs.length, cellsI xs⟩
abbrev rowB (v : Value) (ys : List Bool) : Rw := ⟨v, 4, 1, ys.length, cellsB ys⟩
/-- while a world is made of facts -/
structure OS (w : World) (b : Nat) (sl : Int) (S : List Ft) (v1 v2 v3 : Value) (xs : List Int) (ys : List Bool) (zs : List Int) (wr : World) : Prop where
  lt : b < w.heap.size
  set : SetN valF wr b S
  out : Blk wr (w.heap.size + 1) 25 #[.int .i64 sl, v1, v2, v3]
  res : ∃ x y z u, Blk wr w.heap.size 25 #[x, y, z, u]
  rows : Rws w [rowI v1 xs, rowB v2 ys, rowI v3 zs] wr
section
variable {w wr w' : World} {b : Nat} {sl : Int} {S : List Ft} {v1 v2 v3 v' : Value} {xs : List Int} {ys : List Bool} {zs : List Int}
theorem OS.bel (h : OS w b sl S v1 v2 v3 xs ys zs wr) : Below w.heap.size w wr := h.rows.below
theorem OS.next (h : OS w b sl S v1 v2 v3 xs ys zs wr) (hb : Below wr.heap.size wr w') : OS w b sl S v1 v2 v3 xs ys zs w' := by
  obtain ⟨h1, h2, h3, ⟨x, y, z, u, h4⟩, h5⟩ := h
  exact ⟨h1, h2.next hb, h3.belowB hb, ⟨x, y, z, u, h4.belowB hb⟩, h5.next hb⟩
theorem OS.cells (h : OS w b sl S v1 v2 v3 xs ys zs wr) : wr.cell? ⟨w.heap.size + 1, 0, none⟩ = some (.int .i64 sl) ∧ wr.cell? ⟨w.heap.size + 1, 1, none⟩ = some v1 ∧ wr.cell? ⟨w.heap.size + 1, 2, none⟩ = some v2 ∧ wr.cell? ⟨w.heap.size + 1, 3, none⟩ = some v3 ∧ (∀ i, wr.frozen? ⟨w.heap.size + 1, i, none⟩ = false) :=
  ⟨h.out.cell 0, h.out.cell 1, h.out.cell 2, h.out.cell 3, h.out.frozen⟩
theorem OS.start (hS : SetN valF w b S) (sl : Int) : OS w b sl S (.slice none 0 0) (.slice none 0 0) (.slice none 0 0) [] [] [] ((w.alloc (.cells #[.int .i64 0, .slice none 0 0, .slice none 0 0, .slice none 0 0] 25)).alloc (.cells #[.int .i64 sl, .slice none 0 0, .slice none 0 0, .slice none 0 0] 25)) := by
  have hz : (w.alloc (.cells #[.int .i64 0, .slice none 0 0, .slice none 0 0, .slice none 0 0] 25)).heap.size = w.heap.size + 1 := by simp
  exact ⟨hS.lt, (hS.alloc _).alloc _, Blk.at_ hz.symm, ⟨_, _, _, _, (Blk.new _ _ _).alloc _⟩, (((Rws.begin (((Below.refl _ _).alloc (Nat.le_refl _) _).alloc (by simp) _)).nil _ _).nil _ _).nil _ _⟩
theorem OS.far (h : OS w b sl S v1 v2 v3 xs ys zs wr) {rs : List Rw} (hR : Rws w rs wr) (hm : ∀ r ∈ rs, r.e ≠ 25) (i : Nat) (u : Value) : Rws w rs (wr.setCell ⟨w.heap.size + 1, i, none⟩ u) :=
  hR.store_far (p := ⟨w.heap.size + 1, i, none⟩) (fun r hr e => own_blk_ne (hR.own r hr) h.out (hm r hr) e.symm) (by show w.heap.size ≤ w.heap.size + 1; omega) u
theorem OS.app1 (h : OS w b sl S v1 v2 v3 xs ys zs wr) {wm : World} (hb : Below wr.heap.size wr wm) {x : Int} (hR : Rws w [rowI v' (xs ++ [x]), rowB v2 ys, rowI v3 zs] w') (hg : wm.grownBy w' v1.ownBlock) :
    OS w b sl S v' v2 v3 (xs ++ [x]) ys zs (w'.setCell ⟨w.heap.size + 1, 1, none⟩ v') := by
  have h0 := h.next hb
  have hown := h0.rows.own (rowI v1 xs) (by simp)
  have hge : ∀ k, v1.ownBlock = some k → w.heap.size ≤ k := fun k hk => (hown.lt k hk).1
  have hne : some (w.heap.size + 1) ≠ v1.ownBlock := own_blk_ne hown h0.out (by dsimp only; decide)
  have hsn : some b ≠ v1.ownBlock := fun e => by have := hge b e.symm; have := h.lt; omega
  obtain ⟨h1, h2, h3, ⟨p, q, r, u, h4⟩, h5⟩ := h0
  have hre : some w.heap.size ≠ v1.ownBlock := own_blk_ne hown h4 (by dsimp only; decide)
  have h3' := h3.grown hg hne
  have hlt := h1
  have hfar := fun (rs : List Rw) (hRs : Rws w rs w') (hm : ∀ r ∈ rs, r.e ≠ 25) => hRs.store_far (p := ⟨w.heap.size + 1, 1, none⟩) (fun r hr e => own_blk_ne (hRs.own r hr) h3' (hm r hr) e.symm) (by show w.heap.size ≤ w.heap.size + 1; omega) v'
  refine ⟨h1, (h2.grown hg hsn).setCell (by show b ≠ w.heap.size + 1; omega) _, h3'.set_ 1 v', ⟨p, q, r, u, (h4.grown hg hre).far (by show w.heap.size ≠ w.heap.size + 1; omega) _⟩, hfar _ hR ?_⟩
  intro r hr
  simp only [List.mem_cons, List.not_mem_nil, or_false] at hr
  rcases hr with rfl | rfl | rfl <;> (dsimp only; decide)
theorem OS.app2 (h : OS w b sl S v1 v2 v3 xs ys zs wr) {wm : World} (hb : Below wr.heap.size wr wm) {y : Bool} (hR : Rws w [rowI v1 xs, rowB v' (ys ++ [y]), rowI v3 zs] w') (hg : wm.grownBy w' v2.ownBlock) :
    OS w b sl S v1 v' v3 xs (ys ++ [y]) zs (w'.setCell ⟨w.heap.size + 1, 2, none⟩ v') := by
  have h0 := h.next hb
  have hown := h0.rows.own (rowB v2 ys) (by simp)
  have hge : ∀ k, v2.ownBlock = some k → w.heap.size ≤ k := fun k hk => (hown.lt k hk).1
  have hne : some (w.heap.size + 1) ≠ v2.ownBlock := own_blk_ne hown h0.out (by dsimp only; decide)
  have hsn : some b ≠ v2.ownBlock := fun e => by have := hge b e.symm; have := h.lt; omega
  obtain ⟨h1, h2, h3, ⟨p, q, r, u, h4⟩, h5⟩ := h0
  have hre : some w.heap.size ≠ v2.ownBlock := own_blk_ne hown h4 (by dsimp only; decide)
  have h3' := h3.grown hg hne
  have hlt := h1
  have hfar := fun (rs : List Rw) (hRs : Rws w rs w') (hm : ∀ r ∈ rs, r.e ≠ 25) => hRs.store_far (p := ⟨w.heap.size + 1, 2, none⟩) (fun r hr e => own_blk_ne (hRs.own r hr) h3' (hm r hr) e.symm) (by show w.heap.size ≤ w.heap.size + 1; omega) v'
  refine ⟨h1, (h2.grown hg hsn).setCell (by show b ≠ w.heap.size + 1; omega) _, h3'.set_ 2 v', ⟨p, q, r, u, (h4.grown hg hre).far (by show w.heap.size ≠ w.heap.size + 1; omega) _⟩, hfar _ hR ?_⟩
  intro r hr
  simp only [List.mem_cons, List.not_mem_nil, or_false] at hr
  rcases hr with rfl | rfl | rfl <;> (dsimp only; decide)
theorem OS.app3 (h : OS w b sl S v1 v2 v3 xs ys zs wr) {wm : World} (hb : Below wr.heap.size wr wm) {z : Int} (hR : Rws w [rowI v1 xs, rowB v2 ys, rowI v' (zs ++ [z])] w') (hg : wm.grownBy w' v3.ownBlock) :
    OS w b sl S v1 v2 v' xs ys (zs ++ [z]) (w'.setCell ⟨w.heap.size + 1, 3, none⟩ v') := by
  have h0 := h.next hb
  have hown := h0.rows.own (rowI v3 zs) (by simp)
  have hge : ∀ k, v3.ownBlock = some k → w.heap.size ≤ k := fun k hk => (hown.lt k hk).1
  have hne : some (w.heap.size + 1) ≠ v3.ownBlock := own_blk_ne hown h0.out (by dsimp only; decide)
  have hsn : some b ≠ v3.ownBlock := fun e => by have := hge b e.symm; have := h.lt; omega
  obtain ⟨h1, h2, h3, ⟨p, q, r, u, h4⟩, h5⟩ := h0
  have hre : some w.heap.size ≠ v3.ownBlock := own_blk_ne hown h4 (by dsimp only; decide)
  have h3' := h3.grown hg hne
  have hlt := h1
  have hfar := fun (rs : List Rw) (hRs : Rws w rs w') (hm : ∀ r ∈ rs, r.e ≠ 25) => hRs.store_far (p := ⟨w.heap.size + 1, 3, none⟩) (fun r hr e => own_blk_ne (hRs.own r hr) h3' (hm r hr) e.symm) (by show w.heap.size ≤ w.heap.size + 1; omega) v'
  refine ⟨h1, (h2.grown hg hsn).setCell (by show b ≠ w.heap.size + 1; omega) _, h3'.set_ 3 v', ⟨p, q, r, u, (h4.grown hg hre).far (by show w.heap.size ≠ w.heap.size + 1; omega) _⟩, hfar _ hR ?_⟩
  intro r hr
  simp only [List.mem_cons, List.not_mem_nil, or_false] at hr
  rcases hr with rfl | rfl | rfl <;> (dsimp only; decide)
theorem OS.fin (h : OS w b sl S v1 v2 v3 xs ys zs wr) (a c e f : Value) : Blk (put4 wr w.heap.size a c e f) w.heap.size 25 #[a, c, e, f] ∧ Rws w [rowI v1 xs, rowB v2 ys, rowI v3 zs] (put4 wr w.heap.size a c e f) := by
  obtain ⟨h1, h2, h3, ⟨p, q, r, u, h4⟩, h5⟩ := h
  have hp : ∀ r ∈ [rowI v1 xs, rowB v2 ys, rowI v3 zs], r.v.ownBlock ≠ some w.heap.size := by
    intro r hr e
    have hne : r.e ≠ 25 := by
      simp only [List.mem_cons, List.not_mem_nil, or_false] at hr
      rcases hr with rfl | rfl | rfl <;> (dsimp only; decide)
    exact own_blk_ne (h5.own r hr) h4 hne e.symm
  exact ⟨blk_put4 h4 a c e f, (((h5.store_far (p := ⟨w.heap.size, 0, none⟩) hp (Nat.le_refl _) a).store_far (p := ⟨w.heap.size, 1, none⟩) hp (Nat.le_refl _) c).store_far (p := ⟨w.heap.size, 2, none⟩) hp (Nat.le_refl _) e).store_far (p := ⟨w.heap.size, 3, none⟩) hp (Nat.le_refl _) f⟩
theorem OS.room (h : OS w b sl S v1 v2 v3 xs ys zs wr) : Room w.heap.size wr := by
  obtain ⟨h1, h2, h3, ⟨p, q, r, u, h4⟩, h5⟩ := h
  exact room_of h4
theorem OS.ok (hR : Rws w [rowI v1 xs, rowB v2 ys, rowI v3 zs] wr) : ∃ r : Raw, v1 = .slice r.A1 r.n1 r.c1 ∧ v2 = .slice r.A2 r.n2 r.c2 ∧ v3 = .slice r.A3 r.n3 r.c3 ∧ ∀ sl, WOk wr r ⟨sl, xs, ys, zs⟩ := by
  obtain ⟨e1, A1, c1, u1, l1, m1, i1⟩ := IntsAt.of_ownN (hR.own (rowI v1 xs) (by simp))
  obtain ⟨e2, A2, c2, u2, l2, m2, i2⟩ := BoolsAt.of_own (hR.own (rowB v2 ys) (by simp))
  obtain ⟨e3, A3, c3, u3, l3, m3, i3⟩ := IntsAt.of_ownN (hR.own (rowI v3 zs) (by simp))
  unfold maxLen at m1 m2 m3
  dsimp only at *
  exact ⟨⟨A1, xs.length, c1, A2, ys.length, c2, A3, zs.length, c3⟩, u1, u2, u3, fun sl => ⟨rfl, rfl, rfl, l1, l2, l3, m1, m2, m3, i1, i2, i3⟩⟩
theorem OS.okr {r : Raw} (hR : Rws w [rowI (.slice r.A1 r.n1 r.c1) xs, rowB (.slice r.A2 r.n2 r.c2) ys, rowI (.slice r.A3 r.n3 r.c3) zs] wr) (sl : Int) : WOk wr r ⟨sl, xs, ys, zs⟩ := by
  obtain ⟨r', e1, e2, e3, h⟩ := OS.ok hR
  obtain ⟨a1, b1, c1, a2, b2, c2, a3, b3, c3⟩ := r
  obtain ⟨p1, q1, s1, p2, q2, s2, p3, q3, s3⟩ := r'
  dsimp only at e1 e2 e3
  injection e1 with u1 u2 u3
  injection e2 with u4 u5 u6
  injection e3 with u7 u8 u9
  subst u1 u2 u3 u4 u5 u6 u7 u8 u9
  exact h sl
end
/-- where a part is told to be, of the facts done -/
def PlOk (p : Nat) (x : Int) (done : List Ft) (out : Int) : Prop := out = x ∨ (out = -1 ∧ (∀ v, (⟨1, (p : Int), v⟩ : Ft) ∉ done) ∧ ∀ a, (⟨2, a, (p : Int)⟩ : Ft) ∉ done)
def SpOk (a : Nat) (x : Int) (done : List Ft) (out : Int) : Prop := out = x ∨ (out = -1 ∧ ∀ v, (⟨6, (a : Int), v⟩ : Ft) ∉ done)
theorem pl_end {d : Wd} {p : Nat} {s done : List Ft} {out x : Int} (hs : Tells s (inS d)) (hp : s.Perm done) (hx : d.pl[p]? = some x) (h : PlOk p x done out) : out = x := by
  rcases h with h | ⟨h1, h2, h3⟩
  · exact h
  · have hm : ∀ f, f ∈ done ↔ inS d f := fun f => by rw [← hp.mem_iff, hs.2 f]
    by_cases hx0 : 0 ≤ x
    · exact absurd ((hm _).2 (inS_in.2 ⟨hx0, p, rfl, hx⟩)) (h2 x)
    · by_cases hx1 : x < -1
      · exact absurd ((hm _).2 (inS_holds.2 ⟨by omega, p, rfl, by rw [hx]; congr 1; omega⟩)) (h3 (-2 - x))
      · omega
theorem sp_end {d : Wd} {p : Nat} {s done : List Ft} {out x : Int} (hs : Tells s (inS d)) (hp : s.Perm done) (hx : d.sp[p]? = some x) (hx1 : -1 ≤ x) (h : SpOk p x done out) : out = x := by
  rcases h with h | ⟨h1, h2⟩
  · exact h
  · have hm : ∀ f, f ∈ done ↔ inS d f := fun f => by rw [← hp.mem_iff, hs.2 f]
    by_cases hx0 : 0 ≤ x
    · exact absurd ((hm _).2 (inS_at.2 ⟨hx0, p, rfl, hx⟩)) (h2 x)
    · omega
theorem pl_in {d : Wd} {p : Nat} {s : List Ft} {x v : Int} (hs : Tells s (inS d)) (hx : d.pl[p]? = some x) (h : (⟨1, (p : Int), v⟩ : Ft) ∈ s) : v = x := by
  obtain ⟨_, q, h5, h6⟩ := inS_in.1 ((hs.2 _).1 h)
  have : q = p := by omega
  subst this
  rw [hx] at h6
  exact (Option.some.inj h6).symm
theorem pl_held {d : Wd} {p : Nat} {s : List Ft} {x a : Int} (hs : Tells s (inS d)) (hx : d.pl[p]? = some x) (h : (⟨2, a, (p : Int)⟩ : Ft) ∈ s) : -2 - a = x := by
  obtain ⟨_, q, h5, h6⟩ := inS_holds.1 ((hs.2 _).1 h)
  have : q = p := by omega
  subst this
  rw [hx] at h6
  exact (Option.some.inj h6).symm
theorem sp_at {d : Wd} {p : Nat} {s : List Ft} {x v : Int} (hs : Tells s (inS d)) (hx : d.sp[p]? = some x) (h : (⟨6, (p : Int), v⟩ : Ft) ∈ s) : v = x := by
  obtain ⟨_, q, h5, h6⟩ := inS_at.1 ((hs.2 _).1 h)
  have : q = p := by omega
  subst this
  rw [hx] at h6
  exact (Option.some.inj h6).symm
theorem PlOk.skip {p : Nat} {x out : Int} {done : List Ft} {f : Ft} (h : PlOk p x done out) (h1 : ¬ (f.k = 1 ∧ f.a = (p : Int))) (h2 : ¬ (f.k = 2 ∧ f.b = (p : Int))) : PlOk p x (f :: done) out := by
  rcases h with h | ⟨h3, h4, h5⟩
  · exact .inl h
  · refine .inr ⟨h3, fun v hm => ?_, fun a hm => ?_⟩
    · rcases List.mem_cons.1 hm with e | hm
      · subst e; exact h1 ⟨rfl, rfl⟩
      · exact h4 v hm
    · rcases List.mem_cons.1 hm with e | hm
      · subst e; exact h2 ⟨rfl, rfl⟩
      · exact h5 a hm
theorem SpOk.skip {p : Nat} {x out : Int} {done : List Ft} {f : Ft} (h : SpOk p x done out) (h1 : ¬ (f.k = 6 ∧ f.a = (p : Int))) : SpOk p x (f :: done) out := by
  rcases h with h | ⟨h3, h4⟩
  · exact .inl h
  · refine .inr ⟨h3, fun v hm => ?_⟩
    rcases List.mem_cons.1 hm with e | hm
    · subst e; exact h1 ⟨rfl, rfl⟩
    · exact h4 v hm
end Go.Proofs.Ytnaiflokmihmeaa
