/- Walk: Start (package act). -/
import Derived.Test.YtnaiflokmihmeaaAwB
import Derived.Test.YtnaiflokmihmeaaActP
namespace Go.Proofs.Ytnaiflokmihmeaa
open Go.RowKit
set_option linter.unusedVariables false
set_option linter.unusedSimpArgs false

/-- the cells of a works: only three lengths matter -/
abbrev wkc (A0 : Option Addr) (n0 c0 : Nat) (u1 : Value) (A2 : Option Addr) (n2 c2 : Nat) (A3 : Option Addr) (n3 c3 : Nat) (u4 u5 u6 u7 : Value) : Array Value := #[.slice A0 n0 c0, u1, .slice A2 n2 c2, .slice A3 n3 c3, u4, u5, u6, u7]
def stW (na np ns : Nat) : Wd := if na ≤ 4 ∧ np ≤ 6 ∧ ns ≤ 8 then ⟨(ns : Int), List.replicate np (-1), List.replicate np false, List.replicate na (-1)⟩ else noWd
/-- while the first world is made -/
structure ZS (w : World) (po : Nat) (sl : Int) (v1 v2 v3 : Value) (xs : List Int) (ys : List Bool) (zs : List Int) (kc : Array Value) (wr : World) : Prop where
  lo : w.heap.size + 2 ≤ po
  wks : Blk wr w.heap.size 72 kc
  out : Blk wr po 25 #[.int .i64 sl, v1, v2, v3]
  res : ∃ x y z u, Blk wr (w.heap.size + 1) 25 #[x, y, z, u]
  rows : Rws w [rowI v1 xs, rowB v2 ys, rowI v3 zs] wr
section
variable {w wr w' : World} {po : Nat} {sl : Int} {v1 v2 v3 v' : Value} {xs : List Int} {ys : List Bool} {zs : List Int} {kc : Array Value}
theorem ZS.bel (h : ZS w po sl v1 v2 v3 xs ys zs kc wr) : Below w.heap.size w wr := h.rows.below
theorem ZS.next (h : ZS w po sl v1 v2 v3 xs ys zs kc wr) (hb : Below wr.heap.size wr w') : ZS w po sl v1 v2 v3 xs ys zs kc w' := by
  obtain ⟨h1, h2, h3, ⟨x, y, z, u, h4⟩, h5⟩ := h
  exact ⟨h1, h2.belowB hb, h3.belowB hb, ⟨x, y, z, u, h4.belowB hb⟩, h5.next hb⟩
theorem ZS.cells (h : ZS w po sl v1 v2 v3 xs ys zs kc wr) : wr.cell? ⟨po, 0, none⟩ = some (.int .i64 sl) ∧ wr.cell? ⟨po, 1, none⟩ = some v1 ∧ wr.cell? ⟨po, 2, none⟩ = some v2 ∧ wr.cell? ⟨po, 3, none⟩ = some v3 :=
  ⟨h.out.cell 0, h.out.cell 1, h.out.cell 2, h.out.cell 3⟩
theorem ZS.mid (h : ZS w po sl v1 v2 v3 xs ys zs kc wr) {wm : World} (hb : Below wr.heap.size wr wm) {r : Rw} (hr : r ∈ [rowI v1 xs, rowB v2 ys, rowI v3 zs]) (hg : wm.grownBy w' r.v.ownBlock) : Blk w' po 25 #[.int .i64 sl, v1, v2, v3] := by
  have h0 := h.next hb
  refine h0.out.grown hg (own_blk_ne (h0.rows.own r hr) h0.out ?_)
  simp only [List.mem_cons, List.not_mem_nil, or_false] at hr
  rcases hr with rfl | rfl | rfl <;> (dsimp only; decide)
theorem ZS.app1 (h : ZS w po sl v1 v2 v3 xs ys zs kc wr) {wm : World} (hb : Below wr.heap.size wr wm) {x : Int} (hR : Rws w [rowI v' (xs ++ [x]), rowB v2 ys, rowI v3 zs] w') (hg : wm.grownBy w' v1.ownBlock) :
    ZS w po sl v' v2 v3 (xs ++ [x]) ys zs kc (w'.setCell ⟨po, 1, none⟩ v') := by
  have h0 := h.next hb
  have hown := h0.rows.own (rowI v1 xs) (by simp)
  have hne : some po ≠ v1.ownBlock := own_blk_ne hown h0.out (by dsimp only; decide)
  obtain ⟨h1, h2, h3, ⟨p, q, r, u, h4⟩, h5⟩ := h0
  have hre : some (w.heap.size + 1) ≠ v1.ownBlock := own_blk_ne hown h4 (by dsimp only; decide)
  have hkn : some w.heap.size ≠ v1.ownBlock := own_blk_ne hown h2 (by dsimp only; decide)
  have h3' := h3.grown hg hne
  have hfar := fun (rs : List Rw) (hRs : Rws w rs w') (hm : ∀ r ∈ rs, r.e ≠ 25) => hRs.store_far (p := ⟨po, 1, none⟩) (fun r hr e => own_blk_ne (hRs.own r hr) h3' (hm r hr) e.symm) (by show w.heap.size ≤ po; omega) v'
  refine ⟨h1, (h2.grown hg hkn).far (by show w.heap.size ≠ po; omega) _, h3'.set_ 1 v', ⟨p, q, r, u, (h4.grown hg hre).far (by show w.heap.size + 1 ≠ po; omega) _⟩, hfar _ hR ?_⟩
  intro r hr
  simp only [List.mem_cons, List.not_mem_nil, or_false] at hr
  rcases hr with rfl | rfl | rfl <;> (dsimp only; decide)
theorem ZS.app3 (h : ZS w po sl v1 v2 v3 xs ys zs kc wr) {wm : World} (hb : Below wr.heap.size wr wm) {z : Int} (hR : Rws w [rowI v1 xs, rowB v2 ys, rowI v' (zs ++ [z])] w') (hg : wm.grownBy w' v3.ownBlock) :
    ZS w po sl v1 v2 v' xs ys (zs ++ [z]) kc (w'.setCell ⟨po, 3, none⟩ v') := by
  have h0 := h.next hb
  have hown := h0.rows.own (rowI v3 zs) (by simp)
  have hne : some po ≠ v3.ownBlock := own_blk_ne hown h0.out (by dsimp only; decide)
  obtain ⟨h1, h2, h3, ⟨p, q, r, u, h4⟩, h5⟩ := h0
  have hre : some (w.heap.size + 1) ≠ v3.ownBlock := own_blk_ne hown h4 (by dsimp only; decide)
  have hkn : some w.heap.size ≠ v3.ownBlock := own_blk_ne hown h2 (by dsimp only; decide)
  have h3' := h3.grown hg hne
  have hfar := fun (rs : List Rw) (hRs : Rws w rs w') (hm : ∀ r ∈ rs, r.e ≠ 25) => hRs.store_far (p := ⟨po, 3, none⟩) (fun r hr e => own_blk_ne (hRs.own r hr) h3' (hm r hr) e.symm) (by show w.heap.size ≤ po; omega) v'
  refine ⟨h1, (h2.grown hg hkn).far (by show w.heap.size ≠ po; omega) _, h3'.set_ 3 v', ⟨p, q, r, u, (h4.grown hg hre).far (by show w.heap.size + 1 ≠ po; omega) _⟩, hfar _ hR ?_⟩
  intro r hr
  simp only [List.mem_cons, List.not_mem_nil, or_false] at hr
  rcases hr with rfl | rfl | rfl <;> (dsimp only; decide)
theorem ZS.fin (h : ZS w po sl v1 v2 v3 xs ys zs kc wr) (a c e f : Value) : Blk (put4 wr (w.heap.size + 1) a c e f) (w.heap.size + 1) 25 #[a, c, e, f] ∧ Rws w [rowI v1 xs, rowB v2 ys, rowI v3 zs] (put4 wr (w.heap.size + 1) a c e f) := by
  obtain ⟨h1, h2, h3, ⟨p, q, r, u, h4⟩, h5⟩ := h
  have hp : ∀ r ∈ [rowI v1 xs, rowB v2 ys, rowI v3 zs], r.v.ownBlock ≠ some (w.heap.size + 1) := by
    intro r hr e
    have hne : r.e ≠ 25 := by
      simp only [List.mem_cons, List.not_mem_nil, or_false] at hr
      rcases hr with rfl | rfl | rfl <;> (dsimp only; decide)
    exact own_blk_ne (h5.own r hr) h4 hne e.symm
  have hl : w.heap.size ≤ w.heap.size + 1 := by omega
  exact ⟨blk_put4 h4 a c e f, (((h5.store_far (p := ⟨w.heap.size + 1, 0, none⟩) hp hl a).store_far (p := ⟨w.heap.size + 1, 1, none⟩) hp hl c).store_far (p := ⟨w.heap.size + 1, 2, none⟩) hp hl e).store_far (p := ⟨w.heap.size + 1, 3, none⟩) hp hl f⟩
theorem ZS.room (h : ZS w po sl v1 v2 v3 xs ys zs kc wr) : Room (w.heap.size + 1) wr := by
  obtain ⟨h1, h2, h3, ⟨p, q, r, u, h4⟩, h5⟩ := h
  exact room_of h4
end
/-- two boxes -/
structure Z0S (w : World) (kc : Array Value) (wr : World) : Prop where
  bel : Below w.heap.size w wr
  wks : Blk wr w.heap.size 72 kc
  res : ∃ x y z u, Blk wr (w.heap.size + 1) 25 #[x, y, z, u]
section
variable {w wr w' : World} {kc : Array Value}
theorem Z0S.start (w : World) (kc : Array Value) : Z0S w kc ((w.alloc (.cells kc 72)).alloc (.cells #[.int .i64 0, .slice none 0 0, .slice none 0 0, .slice none 0 0] 25)) := by
  have hz : (w.alloc (.cells kc 72)).heap.size = w.heap.size + 1 := by simp
  exact ⟨((Below.refl _ _).alloc (Nat.le_refl _) _).alloc (by simp) _, (Blk.new _ _ _).alloc _, ⟨_, _, _, _, Blk.at_ hz.symm⟩⟩
theorem Z0S.next (h : Z0S w kc wr) (hb : Below wr.heap.size wr w') : Z0S w kc w' := by
  obtain ⟨h1, h2, x, y, z, u, h3⟩ := h
  exact ⟨h1.trans (hb.mono h1.size), h2.belowB hb, x, y, z, u, h3.belowB hb⟩
theorem Z0S.room (h : Z0S w kc wr) : Room (w.heap.size + 1) wr := by
  obtain ⟨h1, h2, x, y, z, u, h3⟩ := h
  exact room_of h3
theorem Z0S.stored (h : Z0S w kc wr) (a b c e : Value) : Blk (put4 wr (w.heap.size + 1) a b c e) (w.heap.size + 1) 25 #[a, b, c, e] ∧ Below w.heap.size w (put4 wr (w.heap.size + 1) a b c e) := by
  obtain ⟨h1, h2, x, y, z, u, h4⟩ := h
  exact ⟨blk_put4 h4 a b c e, h1.trans (below_put4 (by omega) wr a b c e)⟩
end
theorem ownB_rep {w : World} {g n base : Nat} (h : Blk w g 4 (Array.replicate n (.bool false))) (hb : base ≤ g) (hn : n ≤ 1000) : w.ownsRow base 4 1 (.slice (some ⟨g, 0, none⟩) n n) (List.replicate n false).length (cellsB (List.replicate n false)) := by
  rw [List.length_replicate]
  refine ⟨by simp [cellsB], .inr ⟨g, n, _, rfl, hb, h, Nat.le_refl _, by unfold maxLen; omega, by simp, ?_⟩⟩
  simp [cellsB]
theorem ZS.a {w w1 : World} {kc : Array Value} {n2 n3 : Nat} (h : Z0S w kc w1) (hn : n2 ≤ 1000) : ZS w (w1.heap.size + 1) (n3 : Int) (.slice none 0 0) (.slice (some ⟨w1.heap.size, 0, none⟩) n2 n2) (.slice none 0 0) [] (List.replicate n2 false) [] kc ((w1.alloc (.cells (Array.replicate n2 (.bool false)) 4)).alloc (.cells #[.int .i64 (n3 : Int), .slice none 0 0, .slice (some ⟨w1.heap.size, 0, none⟩) n2 n2, .slice none 0 0] 25)).drew := by
  have hz : (w1.alloc (.cells (Array.replicate n2 (.bool false)) 4)).heap.size = w1.heap.size + 1 := by simp
  obtain ⟨h1, h2, ⟨x, y, z, u, h3⟩⟩ := h
  have hl := h3.lt
  exact ⟨by omega, ((h2.alloc _).alloc _).drew, (Blk.at_ hz.symm).drew, ⟨x, y, z, u, ((h3.alloc _).alloc _).drew⟩, (((Rws.more ((Rws.begin h1).nil _ _) ((Below.refl _ _).alloc (Nat.le_refl _) _) (ownB_rep (Blk.new _ _ _) (Nat.le_refl _) hn)).nil _ _).alloc _).drew⟩
theorem ZS.b {w w1 : World} {kc : Array Value} {n2 n3 : Nat} (h : Z0S w kc w1) (hn : n2 ≤ 1000) : ZS w w1.heap.size (n3 : Int) (.slice none 0 0) (.slice (some ⟨w1.heap.size + 1, 0, none⟩) n2 n2) (.slice none 0 0) [] (List.replicate n2 false) [] kc ((w1.alloc (.cells #[.int .i64 (n3 : Int), .slice none 0 0, .slice (some ⟨w1.heap.size + 1, 0, none⟩) n2 n2, .slice none 0 0] 25)).alloc (.cells (Array.replicate n2 (.bool false)) 4)).drew := by
  have hz : (w1.alloc (.cells #[.int .i64 (n3 : Int), .slice none 0 0, .slice (some ⟨w1.heap.size + 1, 0, none⟩) n2 n2, .slice none 0 0] 25)).heap.size = w1.heap.size + 1 := by simp
  obtain ⟨h1, h2, ⟨x, y, z, u, h3⟩⟩ := h
  have hl := h3.lt
  exact ⟨by omega, ((h2.alloc _).alloc _).drew, ((Blk.new _ _ _).alloc _).drew, ⟨x, y, z, u, ((h3.alloc _).alloc _).drew⟩, ((Rws.more (((Rws.begin h1).nil _ _).alloc _) ((Below.refl _ _).alloc (Nat.le_refl _) _) (ownB_rep (Blk.at_ hz.symm) (by omega) hn)).nil _ _).drew⟩
def SwPost (na np ns : Nat) (w : World) (e : Ending) (w' : World) : Prop := ∃ r, e = .returned (wv (stW na np ns).sl r) ∧ WOk w' r (stW na np ns) ∧ Below w.heap.size w w'
theorem sw_bad {na np ns : Nat} {w W : World} (h : ¬ (na ≤ 4 ∧ np ≤ 6 ∧ ns ≤ 8)) (hb : Below w.heap.size w W) : SwPost na np ns w (.returned (.agg #[.int .i64 0, .slice none 0 0, .slice none 0 0, .slice none 0 0])) W := by
  have h1 : stW na np ns = noWd := by unfold stW; rw [if_neg h]
  exact ⟨noRaw, by rw [h1]; rfl, by rw [h1]; exact WOk.no W, hb⟩
theorem sw_ok {na np ns : Nat} {w W : World} {r : Raw} (h : na ≤ 4 ∧ np ≤ 6 ∧ ns ≤ 8) (hR : WRows w r ⟨(ns : Int), List.replicate np (-1), List.replicate np false, List.replicate na (-1)⟩ W) : SwPost na np ns w (.returned (.agg #[.int .i64 (ns : Int), .slice r.A1 r.n1 r.c1, .slice r.A2 r.n2 r.c2, .slice r.A3 r.n3 r.c3])) W := by
  have h1 : stW na np ns = ⟨(ns : Int), List.replicate np (-1), List.replicate np false, List.replicate na (-1)⟩ := by unfold stW; rw [if_pos h]
  exact ⟨r, by rw [h1]; rfl, by rw [h1]; exact hR.ok, Rws.below hR⟩
set_option maxHeartbeats 2000000 in
set_option maxRecDepth 20000 in
theorem start_any (A0 : Option Addr) (n0 c0 : Nat) (u1 : Value) (A2 : Option Addr) (n2 c2 : Nat) (A3 : Option Addr) (n3 c3 : Nat) (u4 u5 u6 u7 : Value) (hu : [u1, u4, u5, u6, u7].all Value.oneCell' = true) (w : World) :
    Calls Try.prog 43 #[.agg (wkc A0 n0 c0 u1 A2 n2 c2 A3 n3 c3 u4 u5 u6 u7)] w (SwPost n0 n2 n3 w) := by
  have HS0 := Lib.hid (Z0S.start w (wkc A0 n0 c0 u1 A2 n2 c2 A3 n3 c3 u4 u5 u6 u7))
  unfold wkc
  unfold wkc at HS0
  by_cases hok : n0 ≤ 4 ∧ n2 ≤ 6 ∧ n3 ≤ 8
  · have HOK := Lib.hid hok
    obtain ⟨h1, h2, h3⟩ := hok
    have i1 : (n0 : Int) ≤ 4 := by omega
    have i2 : (n2 : Int) ≤ 6 := by omega
    have i3 : (n3 : Int) ≤ 8 := by omega
    obtain ⟨i0, hi0, hz0, hz1, hz2⟩ := info_parts infoBo
    have hmk := fun W => run_make_one (P := Try.prog) Try.underlying23 hi0 hz0 hz1 rfl n2 (by rw [hz2]; omega) (by omega) W
    clear hi0 hz0 hz1 hz2 h1 h2 h3 hu
    go_enter Try.func43, Try.ntmps43
    go_upto_region 1 with (fail)
    generalize World.alloc (World.alloc w _) _ = w1 at *
    have k0 := HS0.out.wks.cell 0
    have k2 := HS0.out.wks.cell 2
    have k3 := HS0.out.wks.cell 3
    simp at k0 k2 k3
    go_upto_region 3 with (fail)
    rename_i K hK
    have KEY : Hid (∀ (x4 x5 x6 x7 x8 x9 x10 x11 x12 x13 x14 x15 x16 x17 x18 x19 x20 x21 x22 x23 x24 x25 x26 x27 x28 x29 x30 x31 x32 x33 x34 x35 x36 x37 x38 x39 x40 x41 x42 x43 x44 x45 x46 x47 x48 x49 x50 x51 : Value) (po pq : Nat) (wr : World), ZS w po (n3 : Int) (.slice none 0 0) (.slice (some ⟨pq, 0, none⟩) n2 n2) (.slice none 0 0) [] (List.replicate n2 false) [] #[.slice A0 n0 c0, u1, .slice A2 n2 c2, .slice A3 n3 c3, u4, u5, u6, u7] wr → K ⟨#[.agg #[.slice A0 n0 c0, u1, .slice A2 n2 c2, .slice A3 n3 c3, u4, u5, u6, u7], .pointer (some ⟨w.heap.size, 0, none⟩), .pointer (some ⟨w.heap.size + 1, 0, none⟩), .pointer (some ⟨po, 0, none⟩), x4, x5, x6, x7, x8, x9, x10, x11, x12, x13, x14, x15, x16, x17, x18, x19, x20, x21, x22, x23, x24, x25, x26, x27, x28, x29, x30, x31, x32, x33, x34, x35, x36, x37, x38, x39, x40, x41, x42, x43, x44, x45, x46, x47, x48, x49, x50, x51], []⟩ wr) := Lib.hid (by
      clear HS0 k0 k2 k3 hmk w1
      intro x4 x5 x6 x7 x8 x9 x10 x11 x12 x13 x14 x15 x16 x17 x18 x19 x20 x21 x22 x23 x24 x25 x26 x27 x28 x29 x30 x31 x32 x33 x34 x35 x36 x37 x38 x39 x40 x41 x42 x43 x44 x45 x46 x47 x48 x49 x50 x51 po pq wr hz
      have HZ := Lib.hid hz
      clear hz
      refine hK _ _ ?_
      clear hK K
      have k2 := HZ.out.wks.cell 2
      simp at k2
      go_wp2_with fail
      clear k2
      go_loopg [32] n2 (fun kx i wr => ∃ (j : Nat) (v1 : Value), kx = n2 - j ∧ j ≤ n2 ∧ i = .int .i64 j ∧ Hid (ZS w po (n3 : Int) v1 (.slice (some ⟨pq, 0, none⟩) n2 n2) (.slice none 0 0) (List.replicate j (-1)) (List.replicate n2 false) [] #[.slice A0 n0 c0, u1, .slice A2 n2 c2, .slice A3 n3 c3, u4, u5, u6, u7] wr))
      case atStart => exact ⟨0, _, by omega, Nat.zero_le _, rfl, HZ⟩
      case round =>
        clear HZ
        obtain ⟨j, v1, hgk, hj, rfl, HZ⟩ := hrel
        have HGK := Lib.hid hgk; clear hgk
        by_cases hlt : j < n2
        · obtain ⟨⟨B1, t1, e1, B2, t2, e2, B3, t3, e3⟩, he1, he2, he3, he4⟩ := OS.ok HZ.out.rows
          clear he2 he3 he4
          dsimp only at he1
          subst he1
          have HRW : Hid (Rws w (⟨.slice B1 t1 e1, 3, 1, j, cellsI (List.replicate j (-1))⟩ :: [rowB (.slice (some ⟨pq, 0, none⟩) n2 n2) (List.replicate n2 false), rowI (.slice none 0 0) []]) wr) := Lib.hid (by have h9 := HZ.out.rows; unfold rowI at h9 ⊢; rw [List.length_replicate] at h9; exact h9)
          obtain ⟨o0, o1, o2, o3⟩ := HZ.out.cells
          go_upto_region 7 with (at_builtin; refine wpList_append_oneG rfl _ _ _ rfl Try.underlying22 infoI rfl rfl (n := j) (xs := cellsI (List.replicate j (-1))) (HRW.out) rfl rfl rfl (one_i9 _) (by omega) ?_; intro v' w6 hR6 hb6 hg6; obtain ⟨A6, c6, rfl⟩ := own_sliceR hR6; have HB6 := Lib.hid (HZ.out.mid (wm := wr.alloc (.cells #[.int .i64 (-1)] 3)) ((Below.refl _ _).alloc (Nat.le_refl _) _) (r := rowI (.slice B1 t1 e1) (List.replicate j (-1))) (by simp) hg6); have g0 := HB6.out.cell 1; have h0 := HB6.out.frozen 1; simp at g0)
          have HOA := Lib.hid (HZ.out.app1 (wm := wr.alloc (.cells #[.int .i64 (-1)] 3)) ((Below.refl _ _).alloc (Nat.le_refl _) _) (x := -1) (by have h9 := hR6; unfold rowI; rw [List.length_append, List.length_replicate, cellsI_app]; exact h9) hg6)
          rw [← List.replicate_succ'] at HOA
          clear HZ HRW HB6 hR6 hb6 hg6 o0 o1 o2 o3 g0 h0
          go_wp2_with fail
          go_roundg (n2 - (j + 1))
          case measure => rw [HGK.out]; omega
          case rel => exact ⟨j+1, _, rfl, hlt, by go_num, HOA⟩
        · obtain rfl : j = n2 := by omega
          have k0 := HZ.out.wks.cell 0
          simp at k0
          go_wp2_with fail
          clear k0
          go_loopg [43] n0 (fun kx i wr => ∃ (q : Nat) (v3 : Value), kx = n0 - q ∧ q ≤ n0 ∧ i = .int .i64 q ∧ Hid (ZS w po (n3 : Int) v1 (.slice (some ⟨pq, 0, none⟩) j j) v3 (List.replicate j (-1)) (List.replicate j false) (List.replicate q (-1)) #[.slice A0 n0 c0, u1, .slice A2 j c2, .slice A3 n3 c3, u4, u5, u6, u7] wr))
          case atStart => exact ⟨0, _, by omega, Nat.zero_le _, rfl, HZ⟩
          case round =>
            clear HZ HGK
            obtain ⟨q, v3, hgk, hq, rfl, HZ⟩ := hrel
            have HGK := Lib.hid hgk; clear hgk
            obtain ⟨⟨B1, t1, e1, B2, t2, e2, B3, t3, e3⟩, he1, he2, he3, he4⟩ := OS.ok HZ.out.rows
            clear he2 he4
            dsimp only at he1 he3
            subst he1 he3
            by_cases hlt : q < n0
            · have HRW : Hid (Rws w (⟨.slice B3 t3 e3, 3, 1, q, cellsI (List.replicate q (-1))⟩ :: [rowI (.slice B1 t1 e1) (List.replicate j (-1)), rowB (.slice (some ⟨pq, 0, none⟩) j j) (List.replicate j false)]) wr) := Lib.hid (by
                have h9 := HZ.out.rows.perm (List.perm_append_comm (l₁ := [rowI (.slice B1 t1 e1) (List.replicate j (-1)), rowB (.slice (some ⟨pq, 0, none⟩) j j) (List.replicate j false)]) (l₂ := [rowI (.slice B3 t3 e3) (List.replicate q (-1))]))
                have h10 : (List.replicate q (-1 : Int)).length = q := List.length_replicate
                have h11 : rowI (.slice B3 t3 e3) (List.replicate q (-1)) = ⟨.slice B3 t3 e3, 3, 1, q, cellsI (List.replicate q (-1))⟩ := by unfold rowI; rw [h10]
                rw [h11] at h9
                exact h9)
              obtain ⟨o0, o1, o2, o3⟩ := HZ.out.cells
              go_upto_region 11 with (at_builtin; refine wpList_append_oneG rfl _ _ _ rfl Try.underlying22 infoI rfl rfl (n := q) (xs := cellsI (List.replicate q (-1))) (HRW.out) rfl rfl rfl (one_i9 _) (by omega) ?_; intro v' w6 hR6 hb6 hg6; obtain ⟨A6, c6, rfl⟩ := own_sliceR hR6; have HB6 := Lib.hid (HZ.out.mid (wm := wr.alloc (.cells #[.int .i64 (-1)] 3)) ((Below.refl _ _).alloc (Nat.le_refl _) _) (r := rowI (.slice B3 t3 e3) (List.replicate q (-1))) (by simp) hg6); have g0 := HB6.out.cell 3; have h0 := HB6.out.frozen 3; simp at g0)
              have HOA := Lib.hid (HZ.out.app3 (wm := wr.alloc (.cells #[.int .i64 (-1)] 3)) ((Below.refl _ _).alloc (Nat.le_refl _) _) (z := -1) (by
                have h9 := hR6.perm (List.perm_append_comm (l₁ := [⟨.slice A6 (q+1) c6, 3, 1, q + 1, cellsI (List.replicate q (-1)) ++ (#[.int .i64 (-1)] : Array Value).toList⟩]) (l₂ := [rowI (.slice B1 t1 e1) (List.replicate j (-1)), rowB (.slice (some ⟨pq, 0, none⟩) j j) (List.replicate j false)]))
                have h11 : rowI (.slice A6 (q+1) c6) (List.replicate q (-1) ++ [-1]) = ⟨.slice A6 (q+1) c6, 3, 1, q + 1, cellsI (List.replicate q (-1)) ++ (#[.int .i64 (-1)] : Array Value).toList⟩ := by unfold rowI; rw [List.length_append, List.length_replicate, cellsI_app]; rfl
                rw [h11]
                exact h9) hg6)
              rw [← List.replicate_succ'] at HOA
              clear HZ HRW HB6 hR6 hb6 hg6 o0 o1 o2 o3 g0 h0
              go_wp2_with fail
              go_roundg (n0 - (q + 1))
              case measure => rw [HGK.out]; omega
              case rel => exact ⟨q+1, _, rfl, hlt, by go_num, HOA⟩
            · obtain rfl : q = n0 := by omega
              obtain ⟨o0, o1, o2, o3⟩ := HZ.out.cells
              obtain ⟨x0, y0, z0, u0, ⟨q0, q1, q2, q3⟩, q4, q5, q6, q7⟩ := HZ.out.room
              have HST := Lib.hid (HZ.out.fin (.int .i64 (n3 : Int)) (.slice B1 t1 e1) (.slice (some ⟨pq, 0, none⟩) j j) (.slice B3 t3 e3))
              have HD9 := Lib.hid (sw_ok (r := ⟨B1, t1, e1, some ⟨pq, 0, none⟩, j, j, B3, t3, e3⟩) HOK.out HST.out.2)
              clear HZ
              go_wp2_with fail
              exact ret_blk1 rfl rfl rfl HST.out.1 (n := 4) rfl (by kernel_rfl) HD9.out)
    clear hK
    have HZA := Lib.hid (ZS.a (n2 := n2) (n3 := n3) HS0.out (by omega))
    have HZB := Lib.hid (ZS.b (n2 := n2) (n3 := n3) HS0.out (by omega))
    have hlt1 := HS0.out.wks.lt
    have hne1 : w.heap.size ≠ w1.heap.size := Nat.ne_of_lt hlt1
    have hne2 : w.heap.size ≠ w1.heap.size + 1 := Nat.ne_of_lt (Nat.lt_succ_of_lt hlt1)
    go_region
    all_goals
      go_wp2_with fail
      apply KEY.out
      first | exact HZA.out | exact HZB.out
  · have HBAD := Lib.hid (fun W hb => sw_bad (w := w) (W := W) hok hb)
    have hc : (4 < (n0 : Int)) ∨ ((n0 : Int) ≤ 4 ∧ 6 < (n2 : Int)) ∨ ((n0 : Int) ≤ 4 ∧ (n2 : Int) ≤ 6 ∧ 8 < (n3 : Int)) := by omega
    clear hok hu
    rcases hc with h1 | ⟨h1, h2⟩ | ⟨h1, h2, h3⟩
    all_goals
      go_enter Try.func43, Try.ntmps43
      go_upto_region 1 with (fail)
      generalize World.alloc (World.alloc w _) _ = w1 at *
      have k0 := HS0.out.wks.cell 0
      have k2 := HS0.out.wks.cell 2
      have k3 := HS0.out.wks.cell 3
      simp at k0 k2 k3
      obtain ⟨x0, y0, z0, u0, ⟨q0, q1, q2, q3⟩, q4, q5, q6, q7⟩ := HS0.out.room
      have HST := Lib.hid (HS0.out.stored (.int .i64 0) (.slice none 0 0) (.slice none 0 0) (.slice none 0 0))
      have HD9 := Lib.hid (HBAD.out _ HST.out.2)
      go_wp2_with fail
      exact ret_blk1 rfl rfl rfl HST.out.1 (n := 4) rfl (by kernel_rfl) HD9.out
end Go.Proofs.Ytnaiflokmihmeaa
