/- Walks: RunOf (reference), Run (package act). -/
/- Walks: SameWorld (reference), acted. -/
/- Walks: acted; the law ActRuns. -/
import Derived.Test.YtnaiflokmihmeaaActS
import Derived.Test.YtnaiflokmihmeaaMgB
namespace Go.Proofs.Ytnaiflokmihmeaa
open Go.RowKit
set_option linter.unusedVariables false
set_option linter.unusedSimpArgs false

theorem DoPost.ok {d : Wd} {s : Stp} {w w' : World} {e : Ending} (h : DoPost d s w e w') (hc : canE d s = 0) : ∃ r', e = .returned (.tuple #[wv d.sl r', .int .i64 0]) ∧ WOk w' r' (stepN d s) ∧ FrB w.heap.size r' ∧ Below w.heap.size w w' := by
  obtain ⟨r', h1, h2, h3⟩ := h
  have h4 : doN d s = stepN d s := by unfold doN; rw [if_pos hc]
  rw [h4] at h1 h2
  rw [hc, stepN_len.1] at h1
  exact ⟨r', h1, h2.1, h2.2, h3⟩
theorem DoPost.no {d : Wd} {s : Stp} {w w' : World} {e : Ending} (h : DoPost d s w e w') (hc : canE d s ≠ 0) : ∃ r', e = .returned (.tuple #[wv 0 r', .int .i64 (canE d s)]) ∧ Below w.heap.size w w' := by
  obtain ⟨r', h1, h2, h3⟩ := h
  have h4 : doN d s = noWd := by unfold doN; rw [if_neg hc]
  rw [h4] at h1
  exact ⟨r', h1, h3⟩
/-- the rows lie elsewhere -/
def Off (p : Nat) (r : Raw) (d : Wd) : Prop := (∀ b o, r.A1 = some ⟨b, o, none⟩ → d.pl ≠ [] → b ≠ p) ∧ (∀ b o, r.A2 = some ⟨b, o, none⟩ → d.se ≠ [] → b ≠ p) ∧ (∀ b o, r.A3 = some ⟨b, o, none⟩ → d.sp ≠ [] → b ≠ p)
theorem Off.of_fr {p B : Nat} {r : Raw} {d : Wd} (h : FrB B r) (hp : p < B) : Off p r d :=
  ⟨fun b o ha _ => by have := h _ (.inl ha); dsimp only at this; omega, fun b o ha _ => by have := h _ (.inr (.inl ha)); dsimp only at this; omega, fun b o ha _ => by have := h _ (.inr (.inr ha)); dsimp only at this; omega⟩
theorem get_zero {α : Type} {xs : List α} (h : xs ≠ []) : ∃ x, xs[0]? = some x := by
  cases xs with
  | nil => exact absurd rfl h
  | cons x l => exact ⟨x, rfl⟩
theorem Off.of_in {w : World} {p : Nat} {r : Raw} {d : Wd} (h : WOk w r d) (hp : w.heap.size ≤ p) : Off p r d := by
  refine ⟨fun b o ha hx => ?_, fun b o ha hx => ?_, fun b o ha hx => ?_⟩ <;> obtain ⟨x, hx⟩ := get_zero hx
  · obtain ⟨b', o', hA, hb, _⟩ := h.i1 0 x hx
    rw [hA] at ha; injection ha with ha; injection ha with ha; omega
  · obtain ⟨b', o', hA, hb, _⟩ := h.i2 0 x hx
    rw [hA] at ha; injection ha with ha; injection ha with ha; omega
  · obtain ⟨b', o', hA, hb, _⟩ := h.i3 0 x hx
    rw [hA] at ha; injection ha with ha; injection ha with ha; omega
theorem ne_nil_of_get {α : Type} {xs : List α} {k : Nat} {x : α} (h : xs[k]? = some x) : xs ≠ [] := fun e => by rw [e] at h; simp at h
theorem WOk.farO {w : World} {r : Raw} {d : Wd} {p : Nat} (h : WOk w r d) (hf : Off p r d) (i : Nat) (u : Value) : WOk (w.setCell ⟨p, i, none⟩ u) r d := by
  have hc : ∀ b o, b ≠ p → (w.setCell ⟨p, i, none⟩ u).cell? ⟨b, o, none⟩ = w.cell? ⟨b, o, none⟩ := fun b o hb => World.cell?_setCell_other _ _ _ _ (fun e => by injection e with e; exact hb e.symm)
  have hz : (w.setCell ⟨p, i, none⟩ u).heap.size = w.heap.size := by simp [World.setCell]
  refine { h with i1 := ?_, i2 := ?_, i3 := ?_ } <;> intro k x hx <;> rw [hz]
  · obtain ⟨b, off, hA, hb, h0⟩ := h.i1 k x hx
    exact ⟨b, off, hA, hb, by rw [hc b _ (hf.1 _ _ hA (ne_nil_of_get hx))]; exact h0⟩
  · obtain ⟨b, off, hA, hb, h0⟩ := h.i2 k x hx
    exact ⟨b, off, hA, hb, by rw [hc b _ (hf.2.1 _ _ hA (ne_nil_of_get hx))]; exact h0⟩
  · obtain ⟨b, off, hA, hb, h0⟩ := h.i3 k x hx
    exact ⟨b, off, hA, hb, by rw [hc b _ (hf.2.2 _ _ hA (ne_nil_of_get hx))]; exact h0⟩
theorem WOk.putO {w : World} {r : Raw} {d : Wd} {p : Nat} (h : WOk w r d) (hf : Off p r d) (a b c e : Value) : WOk (Go.Proofs.Ytnaiflokmihmeaa.put4 w p a b c e) r d :=
  (((h.farO hf 0 a).farO hf 1 b).farO hf 2 c).farO hf 3 e
/-- while a run goes on -/
structure RnS (w : World) (pw : Nat) (dj : Wd) (rj : Raw) (wr : World) : Prop where
  bel : Below w.heap.size w wr
  one : Blk wr pw 25 (wcs dj.sl rj)
  ge : w.heap.size ≤ pw
  ne : pw ≠ w.heap.size + 1
  res : ∃ x y z u, Blk wr (w.heap.size + 1) 25 #[x, y, z, u]
  ok : WOk wr rj dj
  off : Off (w.heap.size + 1) rj dj
section
variable {w wr w' : World} {pw : Nat} {dj d' : Wd} {rj r' : Raw}
theorem RnS.start (w : World) {d : Wd} {r : Raw} (h : WOk w r d) : RnS w w.heap.size d r ((w.alloc (.cells (wcs d.sl r) 25)).alloc (.cells #[.int .i64 0, .slice none 0 0, .slice none 0 0, .slice none 0 0] 25)) := by
  have hz : (w.alloc (.cells (wcs d.sl r) 25)).heap.size = w.heap.size + 1 := by simp
  have hb := ((Below.refl w.heap.size w).alloc (Nat.le_refl _) (.cells (wcs d.sl r) 25)).alloc (by omega) (.cells #[.int .i64 0, .slice none 0 0, .slice none 0 0, .slice none 0 0] 25)
  exact ⟨hb, (Blk.new _ _ _).alloc _, Nat.le_refl _, by omega, ⟨_, _, _, _, Blk.at_ hz.symm⟩, h.next hb, Off.of_in h (by omega)⟩
theorem RnS.next (h : RnS w pw dj rj wr) (hb : Below wr.heap.size wr w') : RnS w pw dj rj w' := by
  obtain ⟨h1, h2, h3, h4, ⟨x, y, z, u, h5⟩, h6, h7⟩ := h
  exact ⟨h1.trans (hb.mono h1.size), h2.belowB hb, h3, h4, ⟨x, y, z, u, h5.belowB hb⟩, h6.next hb, h7⟩
theorem RnS.one4 (h : RnS w pw dj rj wr) : wr.cell? ⟨pw, 0, none⟩ = some (.int .i64 dj.sl) ∧ wr.cell? ⟨pw, 1, none⟩ = some (.slice rj.A1 rj.n1 rj.c1) ∧ wr.cell? ⟨pw, 2, none⟩ = some (.slice rj.A2 rj.n2 rj.c2) ∧ wr.cell? ⟨pw, 3, none⟩ = some (.slice rj.A3 rj.n3 rj.c3) := ⟨h.one.cell 0, h.one.cell 1, h.one.cell 2, h.one.cell 3⟩
theorem RnS.froz (h : RnS w pw dj rj wr) : wr.frozen? ⟨pw, 0, none⟩ = false ∧ wr.frozen? ⟨pw, 1, none⟩ = false ∧ wr.frozen? ⟨pw, 2, none⟩ = false ∧ wr.frozen? ⟨pw, 3, none⟩ = false := ⟨h.one.frozen 0, h.one.frozen 1, h.one.frozen 2, h.one.frozen 3⟩
theorem RnS.room (h : RnS w pw dj rj wr) : Room (w.heap.size + 1) wr := by
  obtain ⟨h1, h2, h3, h4, ⟨x, y, z, u, h5⟩, h6, h7⟩ := h
  exact room_of h5
theorem RnS.lt (h : RnS w pw dj rj wr) : pw < wr.heap.size ∧ w.heap.size + 1 < wr.heap.size := by
  obtain ⟨h1, h2, h3, h4, ⟨x, y, z, u, h5⟩, h6, h7⟩ := h
  exact ⟨h2.lt, h5.lt⟩
theorem RnS.copy (h : RnS w pw dj rj wr) (hR : Rws wr (rows3 r' dj) w') : RnS w w'.heap.size dj r' (w'.alloc (.cells (wcs dj.sl r') 25)) := by
  have hl := h.lt
  have h0 := h.next hR.below
  have hz := hR.below.size
  obtain ⟨h1, h2, h3, h4, ⟨x, y, z, u, h5⟩, h6, h7⟩ := h0
  exact ⟨h1.alloc h1.size _, Blk.new _ _ _, h1.size, by omega, ⟨x, y, z, u, h5.alloc _⟩, (rows3_ok hR).next ((Below.refl _ _).alloc (Nat.le_refl _) _), Off.of_fr (rows3_fresh hR) hl.2⟩
theorem RnS.stored (h : RnS w pw dj rj wr) (a b c e : Value) : Blk (put4 wr (w.heap.size + 1) a b c e) (w.heap.size + 1) 25 #[a, b, c, e] ∧ Below w.heap.size w (put4 wr (w.heap.size + 1) a b c e) := by
  obtain ⟨h1, h2, h3, h4, ⟨x, y, z, u, h5⟩, h6, h7⟩ := h
  exact ⟨blk_put4 h5 a b c e, h1.trans (below_put4 (by omega) wr a b c e)⟩
/-- the next world is laid -/
theorem RnS.move (h : RnS w pw dj rj wr) (ho : WOk wr r' d') {B : Nat} (hf : FrB B r') (hB : pw < B) (hB2 : w.heap.size + 1 < B) : RnS w pw d' r' (put4 wr pw (.int .i64 d'.sl) (.slice r'.A1 r'.n1 r'.c1) (.slice r'.A2 r'.n2 r'.c2) (.slice r'.A3 r'.n3 r'.c3)) := by
  obtain ⟨h1, h2, h3, h4, ⟨x, y, z, u, h5⟩, h6, h7⟩ := h
  have hne : w.heap.size + 1 ≠ pw := fun e => h4 e.symm
  exact ⟨h1.trans (below_put4 h3 wr _ _ _ _), blk_put4 h2 _ _ _ _, h3, h4, ⟨x, y, z, u, (((h5.far (p := ⟨pw, 0, none⟩) hne _).far (p := ⟨pw, 1, none⟩) hne _).far (p := ⟨pw, 2, none⟩) hne _).far (p := ⟨pw, 3, none⟩) hne _⟩, ho.putO (Off.of_fr hf hB) _ _ _ _, Off.of_fr hf hB2⟩
/-- the last world is the result -/
theorem RnS.fin (h : RnS w pw dj rj wr) : Blk (put4 wr (w.heap.size + 1) (.int .i64 dj.sl) (.slice rj.A1 rj.n1 rj.c1) (.slice rj.A2 rj.n2 rj.c2) (.slice rj.A3 rj.n3 rj.c3)) (w.heap.size + 1) 25 (wcs dj.sl rj) ∧ WOk (put4 wr (w.heap.size + 1) (.int .i64 dj.sl) (.slice rj.A1 rj.n1 rj.c1) (.slice rj.A2 rj.n2 rj.c2) (.slice rj.A3 rj.n3 rj.c3)) rj dj ∧ Below w.heap.size w (put4 wr (w.heap.size + 1) (.int .i64 dj.sl) (.slice rj.A1 rj.n1 rj.c1) (.slice rj.A2 rj.n2 rj.c2) (.slice rj.A3 rj.n3 rj.c3)) := by
  obtain ⟨h1, h2, h3, h4, ⟨x, y, z, u, h5⟩, h6, h7⟩ := h
  exact ⟨blk_put4 h5 _ _ _ _, h6.putO h7 _ _ _ _, h1.trans (below_put4 (by omega) wr _ _ _ _)⟩
end
set_option maxHeartbeats 1500000 in
set_option maxRecDepth 20000 in
theorem runOf_any (d : Wd) (r : Raw) (ss : List Stp) (A : Option Addr) (n c : Nat) (w : World) (hn : n = ss.length) (hm : n * 40 ≤ 140737488351232) (hc : n ≤ c) (h : WOk w r d) (hs : StepsAt w w.heap.size A ss) (hlo : ∀ x ∈ d.pl, -9223372036854775808 ≤ x) :
    Calls Try.prog 10 #[wv d.sl r, .slice A n c] w (RunPost d ss w) := by
  have HS0 := Lib.hid (RnS.start w h)
  have HSS := Lib.hid hs
  have HN := Lib.hid hn
  have HCK := Lib.hid (fun W (hb : Below w.heap.size w W) => wfault_any d r W (h.next hb) hlo)
  have HLO := Lib.hid hlo
  clear hlo
  have HBAD := Lib.hid (fun W c (hw : wErr d = c) (h0 : c ≠ 0) hb => run_bad (ss := ss) (w := w) (W := W) hw h0 hb)
  by_cases hw0 : wErr d = 0
  · have HW0 := Lib.hid hw0
    rw [hw0] at HCK
    clear h hs hn hw0 HBAD
    have HRF : Hid (runF 0 d ss = runF 0 d (ss.drop 0)) := Lib.hid rfl
    obtain ⟨A1, n1, c1, A2, n2, c2, A3, n3, c3⟩ := r
    unfold wv wcs
    unfold wv wcs at HCK
    unfold wcs at HS0
    dsimp only at HCK HS0 ⊢
    go_enter Try.func10, Try.ntmps10
    go_wp2_with fail
    generalize World.alloc (World.alloc w _) _ = w1 at *
    obtain ⟨k0, k1, k2, k3⟩ := HS0.out.one4
    dsimp only at k0 k1 k2 k3
    go_wp2_with fail
    refine (HCK.out _ HS0.out.bel).mono ?_
    rintro e w2 ⟨rfl, hb2⟩
    have HW2 := Lib.hid (HS0.out.next hb2); clear hb2 k0 k1 k2 k3 HS0
    go_wp2_with fail
    go_loopg [20] n (fun kx i wr => ∃ (j : Nat) (dj : Wd) (rj : Raw), kx = n - j ∧ j ≤ n ∧ i = .int .i64 j ∧ Hid (RnS w w.heap.size dj rj wr) ∧ Hid (runF 0 d ss = runF j dj (ss.drop j)) ∧ Hid (∀ x ∈ dj.pl, -9223372036854775808 ≤ x))
    case atStart => exact ⟨0, d, _, by omega, Nat.zero_le _, rfl, HW2, HRF, HLO⟩
    case round =>
      clear HW2 HRF HLO
      obtain ⟨j, dj, rj, hgk, hj, rfl, HR, HF, HL⟩ := hrel
      have HGK := Lib.hid hgk; clear hgk
      obtain ⟨A1, n1, c1, A2, n2, c2, A3, n3, c3⟩ := rj
      by_cases hlt : j < n
      · obtain ⟨s, hx⟩ := get_of_lt HN.out hlt
        obtain ⟨b, off, rfl, hb, g0, g1, g2, g3, g4⟩ := HSS.out.five hx
        have HX := Lib.hid hx
        rw [← HR.out.bel.cell (p := ⟨b, _, none⟩) hb] at g0 g1 g2 g3 g4
        clear hx hb
        obtain ⟨sk, sa, sp, s0, st⟩ := s
        dsimp only at g0 g1 g2 g3 g4
        go_upto_region 7 with (fail)
        have hbx : Below wr.heap.size wr (wr.alloc (.cells #[.int .i64 sk, .int .i64 sa, .int .i64 sp, .int .i64 s0, .int .i64 st] 39)) := (Below.refl _ _).alloc (Nat.le_refl _) _
        have HR4 := Lib.hid (HR.out.next hbx)
        have HX4 := Lib.hid (Blk.new wr 39 #[.int .i64 sk, .int .i64 sa, .int .i64 sp, .int .i64 s0, .int .i64 st])
        clear hbx g0 g1 g2 g3 g4 HR
        generalize World.alloc wr _ = w4 at *
        generalize wr.heap.size = px at *
        have o0 := HX4.out.cell 0
        have o1 := HX4.out.cell 1
        have o2 := HX4.out.cell 2
        have o3 := HX4.out.cell 3
        have o4 := HX4.out.cell 4
        simp at o0 o1 o2 o3 o4
        obtain ⟨k0, k1, k2, k3⟩ := HR4.out.one4
        dsimp only at k0 k1 k2 k3
        go_wp2_with fail
        by_cases hc0 : canE dj ⟨sk, sa, sp, s0, st⟩ = 0
        · have HSO := Lib.hid ((stepOf_any dj _ ⟨sk, sa, sp, s0, st⟩ w4 HR4.out.ok HL.out).mono fun e w' h9 => DoPost.ok h9 hc0)
          unfold wv wcs sv at HSO
          dsimp only at HSO
          refine HSO.out.mono ?_
          rintro e w5 ⟨⟨B1, m1, e1, B2, m2, e2, B3, m3, e3⟩, rfl, ho5, hf5, hb5⟩
          have HR5 := Lib.hid (HR4.out.next hb5)
          have HO5 := Lib.hid ho5
          have HF5 := Lib.hid (And.intro hf5 HR4.out.lt)
          have HC0 := Lib.hid hc0
          clear ho5 hf5 hb5 hc0 o0 o1 o2 o3 o4 k0 k1 k2 k3 HSO HR4 HX4
          dsimp only
          go_upto_region 8 with (fail)
          have hbx : Below w5.heap.size w5 (w5.alloc (.cells #[.int .i64 dj.sl, .slice B1 m1 e1, .slice B2 m2 e2, .slice B3 m3 e3] 25)) := (Below.refl _ _).alloc (Nat.le_refl _) _
          have HR6 := Lib.hid (HR5.out.next hbx)
          have HO6 := Lib.hid (HO5.out.next hbx)
          have HX6 := Lib.hid (Blk.new w5 25 #[.int .i64 dj.sl, .slice B1 m1 e1, .slice B2 m2 e2, .slice B3 m3 e3])
          clear hbx HR5 HO5
          generalize World.alloc w5 _ = w6 at *
          generalize w5.heap.size = py at *
          have o0 := HX6.out.cell 0
          have o1 := HX6.out.cell 1
          have o2 := HX6.out.cell 2
          have o3 := HX6.out.cell 3
          simp at o0 o1 o2 o3
          obtain ⟨k0, k1, k2, k3⟩ := HR6.out.one4
          dsimp only at k0 k1 k2 k3
          obtain ⟨f0, f1, f2, f3⟩ := HR6.out.froz
          have HRM : Hid (RnS w w.heap.size (stepN dj ⟨sk, sa, sp, s0, st⟩) ⟨B1, m1, e1, B2, m2, e2, B3, m3, e3⟩ (put4 w6 w.heap.size (.int .i64 dj.sl) (.slice B1 m1 e1) (.slice B2 m2 e2) (.slice B3 m3 e3))) := Lib.hid (by
            have h9 := HR6.out.move HO6.out HF5.out.1 HF5.out.2.1 HF5.out.2.2
            rw [stepN_len.1] at h9
            exact h9)
          have HF9 := Lib.hid (run_more HF.out HX.out HC0.out)
          have HL9 : Hid (∀ x ∈ (stepN dj ⟨sk, sa, sp, s0, st⟩).pl, -9223372036854775808 ≤ x) := Lib.hid ((fun x hx => by have := (stepN_lo HC0.out).1 x hx; omega))
          go_wp2_with fail
          go_roundg (n - (j + 1))
          case measure => rw [HGK.out]; omega
          case rel => exact ⟨j+1, _, _, rfl, hlt, by go_num, HRM, HF9, HL9⟩
        · have HSO := Lib.hid ((stepOf_any dj _ ⟨sk, sa, sp, s0, st⟩ w4 HR4.out.ok HL.out).mono fun e w' h9 => DoPost.no h9 hc0)
          unfold wv wcs sv at HSO
          dsimp only at HSO
          have HD8 := Lib.hid (fun W hb => run_stop (w := w) (W := W) HW0.out HF.out HX.out rfl hc0 hb)
          have hne : (canE dj ⟨sk, sa, sp, s0, st⟩ != 0) = true := by simp [hc0]
          generalize canE dj ⟨sk, sa, sp, s0, st⟩ = ce at *
          clear hc0
          refine HSO.out.mono ?_
          rintro e w5 ⟨⟨B1, m1, e1, B2, m2, e2, B3, m3, e3⟩, rfl, hb5⟩
          have HR5 := Lib.hid (HR4.out.next hb5)
          clear hb5 o0 o1 o2 o3 o4 k0 k1 k2 k3 HSO HR4 HX4
          dsimp only
          go_upto_region 8 with (fail)
          have hbx : Below w5.heap.size w5 (w5.alloc (.cells #[.int .i64 0, .slice B1 m1 e1, .slice B2 m2 e2, .slice B3 m3 e3] 25)) := (Below.refl _ _).alloc (Nat.le_refl _) _
          have HR6 := Lib.hid (HR5.out.next hbx)
          clear hbx HR5
          generalize World.alloc w5 _ = w6 at *
          obtain ⟨x0, y0, z0, u0, ⟨q0, q1, q2, q3⟩, q4, q5, q6, q7⟩ := HR6.out.room
          have HST := Lib.hid (HR6.out.stored (.int .i64 0) (.slice none 0 0) (.slice none 0 0) (.slice none 0 0))
          have HD9 := Lib.hid (HD8.out _ HST.out.2)
          go_wp2_with fail
          exact ret_blk3 rfl rfl rfl rfl rfl HST.out.1 (n := 4) rfl (by kernel_rfl) HD9.out
      · obtain rfl : j = n := by omega
        have HFI := Lib.hid HR.out.fin
        have HD9 := Lib.hid (run_end HW0.out HF.out (Nat.le_of_eq HN.out.symm) HFI.out.2.1 HFI.out.2.2)
        have HST := Lib.hid HFI.out.1
        obtain ⟨x0, y0, z0, u0, ⟨q0, q1, q2, q3⟩, q4, q5, q6, q7⟩ := HR.out.room
        unfold wcs at HST
        dsimp only at HST HD9
        obtain ⟨k0, k1, k2, k3⟩ := HR.out.one4
        dsimp only at k0 k1 k2 k3
        go_wp2_with fail
        exact ret_blk3 rfl rfl rfl rfl rfl HST.out (n := 4) rfl (by kernel_rfl) HD9.out
  · have hne : (wErr d != 0) = true := by simp [hw0]
    have HD8 := Lib.hid (fun W hb => HBAD.out W _ rfl hw0 hb)
    clear h hs hn hw0 HBAD
    generalize wErr d = ce at *
    obtain ⟨A1, n1, c1, A2, n2, c2, A3, n3, c3⟩ := r
    unfold wv wcs
    unfold wv wcs at HCK
    unfold wcs at HS0
    dsimp only at HCK HS0 ⊢
    go_enter Try.func10, Try.ntmps10
    go_wp2_with fail
    generalize World.alloc (World.alloc w _) _ = w1 at *
    obtain ⟨k0, k1, k2, k3⟩ := HS0.out.one4
    dsimp only at k0 k1 k2 k3
    go_wp2_with fail
    refine (HCK.out _ HS0.out.bel).mono ?_
    rintro e w2 ⟨rfl, hb2⟩
    have HW2 := Lib.hid (HS0.out.next hb2); clear hb2 k0 k1 k2 k3 HS0
    obtain ⟨x0, y0, z0, u0, ⟨q0, q1, q2, q3⟩, q4, q5, q6, q7⟩ := HW2.out.room
    have HST := Lib.hid (HW2.out.stored (.int .i64 0) (.slice none 0 0) (.slice none 0 0) (.slice none 0 0))
    have HD9 := Lib.hid (HD8.out _ HST.out.2)
    go_wp2_with fail
    exact ret_blk3 rfl rfl rfl rfl rfl HST.out.1 (n := 4) rfl (by kernel_rfl) HD9.out
set_option maxHeartbeats 1500000 in
set_option maxRecDepth 20000 in
theorem run_any (d : Wd) (r : Raw) (ss : List Stp) (A : Option Addr) (n c : Nat) (w : World) (hn : n = ss.length) (hm : n * 40 ≤ 140737488351232) (hc : n ≤ c) (h : WOk w r d) (hs : StepsAt w w.heap.size A ss)  :
    Calls Try.prog 9 #[wv d.sl r, .slice A n c] w (RunPost d ss w) := by
  have HS0 := Lib.hid (RnS.start w h)
  have HSS := Lib.hid hs
  have HN := Lib.hid hn
  have HCK := Lib.hid (fun W (hb : Below w.heap.size w W) => acheck_any d r W (h.next hb))
  have HBAD := Lib.hid (fun W c (hw : wErr d = c) (h0 : c ≠ 0) hb => run_bad (ss := ss) (w := w) (W := W) hw h0 hb)
  by_cases hw0 : wErr d = 0
  · have HW0 := Lib.hid hw0
    rw [hw0] at HCK
    have HCP : Hid (∀ W, Below w.heap.size w W → Calls Try.prog 47 #[wv d.sl r] W (CopyPost d r W)) := Lib.hid (fun W hb => by
      have hv := vd_of hw0
      have a1 := h.h1
      have a2 := h.h2
      have a3 := h.h3
      have a4 := hv.p6
      have a5 := hv.se
      have a6 := hv.s4
      exact copy_any d r W (h.next hb) (by omega) (by omega) (by omega))
    clear h hs hn hw0 HBAD
    have HRF : Hid (runF 0 d ss = runF 0 d (ss.drop 0)) := Lib.hid rfl
    obtain ⟨A1, n1, c1, A2, n2, c2, A3, n3, c3⟩ := r
    unfold wv wcs
    unfold CopyPost at HCP
    unfold wv wcs at HCK HCP
    unfold wcs at HS0
    dsimp only at HCK HS0 HCP ⊢
    go_enter Try.func9, Try.ntmps9
    go_wp2_with fail
    generalize World.alloc (World.alloc w _) _ = w1 at *
    obtain ⟨k0, k1, k2, k3⟩ := HS0.out.one4
    dsimp only at k0 k1 k2 k3
    go_wp2_with fail
    refine (HCK.out _ HS0.out.bel).mono ?_
    rintro e w2 ⟨rfl, hb2⟩
    have HW2 := Lib.hid (HS0.out.next hb2); clear hb2 k0 k1 k2 k3 HS0
    obtain ⟨k0, k1, k2, k3⟩ := HW2.out.one4
    dsimp only at k0 k1 k2 k3
    go_wp2_with fail
    refine (HCP.out _ HW2.out.bel).mono ?_
    rintro e w3 ⟨⟨B1, m1, e1, B2, m2, e2, B3, m3, e3⟩, rfl, _, _, _, hR3⟩
    have HW3 := Lib.hid (HW2.out.copy hR3)
    clear hR3 k0 k1 k2 k3 HW2
    unfold wcs at HW3
    dsimp only at HW3 ⊢
    go_upto_region 5 with (fail)
    generalize w3.heap.size = po at *
    generalize World.alloc w3 _ = w4 at *
    go_wp2_with fail
    go_loopg [23] n (fun kx i wr => ∃ (j : Nat) (dj : Wd) (rj : Raw), kx = n - j ∧ j ≤ n ∧ i = .int .i64 j ∧ Hid (RnS w po dj rj wr) ∧ Hid (runF 0 d ss = runF j dj (ss.drop j)) ∧ Hid True)
    case atStart => exact ⟨0, d, _, by omega, Nat.zero_le _, rfl, HW3, HRF, Lib.hid trivial⟩
    case round =>
      clear HW3 HRF
      obtain ⟨j, dj, rj, hgk, hj, rfl, HR, HF, HL⟩ := hrel
      have HGK := Lib.hid hgk; clear hgk
      obtain ⟨A1, n1, c1, A2, n2, c2, A3, n3, c3⟩ := rj
      by_cases hlt : j < n
      · obtain ⟨s, hx⟩ := get_of_lt HN.out hlt
        obtain ⟨b, off, rfl, hb, g0, g1, g2, g3, g4⟩ := HSS.out.five hx
        have HX := Lib.hid hx
        rw [← HR.out.bel.cell (p := ⟨b, _, none⟩) hb] at g0 g1 g2 g3 g4
        clear hx hb
        obtain ⟨sk, sa, sp, s0, st⟩ := s
        dsimp only at g0 g1 g2 g3 g4
        go_upto_region 8 with (fail)
        have hbx : Below wr.heap.size wr (wr.alloc (.cells #[.int .i64 sk, .int .i64 sa, .int .i64 sp, .int .i64 s0, .int .i64 st] 39)) := (Below.refl _ _).alloc (Nat.le_refl _) _
        have HR4 := Lib.hid (HR.out.next hbx)
        have HX4 := Lib.hid (Blk.new wr 39 #[.int .i64 sk, .int .i64 sa, .int .i64 sp, .int .i64 s0, .int .i64 st])
        clear hbx g0 g1 g2 g3 g4 HR
        generalize World.alloc wr _ = w4 at *
        generalize wr.heap.size = px at *
        have o0 := HX4.out.cell 0
        have o1 := HX4.out.cell 1
        have o2 := HX4.out.cell 2
        have o3 := HX4.out.cell 3
        have o4 := HX4.out.cell 4
        simp at o0 o1 o2 o3 o4
        obtain ⟨k0, k1, k2, k3⟩ := HR4.out.one4
        dsimp only at k0 k1 k2 k3
        go_wp2_with fail
        by_cases hc0 : canE dj ⟨sk, sa, sp, s0, st⟩ = 0
        · have HSO := Lib.hid ((do_any dj _ ⟨sk, sa, sp, s0, st⟩ w4 HR4.out.ok).mono fun e w' h9 => DoPost.ok h9 hc0)
          unfold wv wcs sv at HSO
          dsimp only at HSO
          refine HSO.out.mono ?_
          rintro e w5 ⟨⟨B1, m1, e1, B2, m2, e2, B3, m3, e3⟩, rfl, ho5, hf5, hb5⟩
          have HR5 := Lib.hid (HR4.out.next hb5)
          have HO5 := Lib.hid ho5
          have HF5 := Lib.hid (And.intro hf5 HR4.out.lt)
          have HC0 := Lib.hid hc0
          clear ho5 hf5 hb5 hc0 o0 o1 o2 o3 o4 k0 k1 k2 k3 HSO HR4 HX4
          dsimp only
          go_upto_region 9 with (fail)
          have hbx : Below w5.heap.size w5 (w5.alloc (.cells #[.int .i64 dj.sl, .slice B1 m1 e1, .slice B2 m2 e2, .slice B3 m3 e3] 25)) := (Below.refl _ _).alloc (Nat.le_refl _) _
          have HR6 := Lib.hid (HR5.out.next hbx)
          have HO6 := Lib.hid (HO5.out.next hbx)
          have HX6 := Lib.hid (Blk.new w5 25 #[.int .i64 dj.sl, .slice B1 m1 e1, .slice B2 m2 e2, .slice B3 m3 e3])
          clear hbx HR5 HO5
          generalize World.alloc w5 _ = w6 at *
          generalize w5.heap.size = py at *
          have o0 := HX6.out.cell 0
          have o1 := HX6.out.cell 1
          have o2 := HX6.out.cell 2
          have o3 := HX6.out.cell 3
          simp at o0 o1 o2 o3
          obtain ⟨k0, k1, k2, k3⟩ := HR6.out.one4
          dsimp only at k0 k1 k2 k3
          obtain ⟨f0, f1, f2, f3⟩ := HR6.out.froz
          have HRM : Hid (RnS w po (stepN dj ⟨sk, sa, sp, s0, st⟩) ⟨B1, m1, e1, B2, m2, e2, B3, m3, e3⟩ (put4 w6 po (.int .i64 dj.sl) (.slice B1 m1 e1) (.slice B2 m2 e2) (.slice B3 m3 e3))) := Lib.hid (by
            have h9 := HR6.out.move HO6.out HF5.out.1 HF5.out.2.1 HF5.out.2.2
            rw [stepN_len.1] at h9
            exact h9)
          have HF9 := Lib.hid (run_more HF.out HX.out HC0.out)
          have HL9 : Hid True := Lib.hid (trivial)
          go_wp2_with fail
          go_roundg (n - (j + 1))
          case measure => rw [HGK.out]; omega
          case rel => exact ⟨j+1, _, _, rfl, hlt, by go_num, HRM, HF9, HL9⟩
        · have HSO := Lib.hid ((do_any dj _ ⟨sk, sa, sp, s0, st⟩ w4 HR4.out.ok).mono fun e w' h9 => DoPost.no h9 hc0)
          unfold wv wcs sv at HSO
          dsimp only at HSO
          have HD8 := Lib.hid (fun W hb => run_stop (w := w) (W := W) HW0.out HF.out HX.out rfl hc0 hb)
          have hne : (canE dj ⟨sk, sa, sp, s0, st⟩ != 0) = true := by simp [hc0]
          generalize canE dj ⟨sk, sa, sp, s0, st⟩ = ce at *
          clear hc0
          refine HSO.out.mono ?_
          rintro e w5 ⟨⟨B1, m1, e1, B2, m2, e2, B3, m3, e3⟩, rfl, hb5⟩
          have HR5 := Lib.hid (HR4.out.next hb5)
          clear hb5 o0 o1 o2 o3 o4 k0 k1 k2 k3 HSO HR4 HX4
          dsimp only
          go_upto_region 9 with (fail)
          have hbx : Below w5.heap.size w5 (w5.alloc (.cells #[.int .i64 0, .slice B1 m1 e1, .slice B2 m2 e2, .slice B3 m3 e3] 25)) := (Below.refl _ _).alloc (Nat.le_refl _) _
          have HR6 := Lib.hid (HR5.out.next hbx)
          clear hbx HR5
          generalize World.alloc w5 _ = w6 at *
          obtain ⟨x0, y0, z0, u0, ⟨q0, q1, q2, q3⟩, q4, q5, q6, q7⟩ := HR6.out.room
          have HST := Lib.hid (HR6.out.stored (.int .i64 0) (.slice none 0 0) (.slice none 0 0) (.slice none 0 0))
          have HD9 := Lib.hid (HD8.out _ HST.out.2)
          go_wp2_with fail
          exact ret_blk3 rfl rfl rfl rfl rfl HST.out.1 (n := 4) rfl (by kernel_rfl) HD9.out
      · obtain rfl : j = n := by omega
        have HFI := Lib.hid HR.out.fin
        have HD9 := Lib.hid (run_end HW0.out HF.out (Nat.le_of_eq HN.out.symm) HFI.out.2.1 HFI.out.2.2)
        have HST := Lib.hid HFI.out.1
        obtain ⟨x0, y0, z0, u0, ⟨q0, q1, q2, q3⟩, q4, q5, q6, q7⟩ := HR.out.room
        unfold wcs at HST
        dsimp only at HST HD9
        obtain ⟨k0, k1, k2, k3⟩ := HR.out.one4
        dsimp only at k0 k1 k2 k3
        go_wp2_with fail
        exact ret_blk3 rfl rfl rfl rfl rfl HST.out (n := 4) rfl (by kernel_rfl) HD9.out
  · have hne : (wErr d != 0) = true := by simp [hw0]
    have HD8 := Lib.hid (fun W hb => HBAD.out W _ rfl hw0 hb)
    clear h hs hn hw0 HBAD
    generalize wErr d = ce at *
    obtain ⟨A1, n1, c1, A2, n2, c2, A3, n3, c3⟩ := r
    unfold wv wcs
    unfold wv wcs at HCK
    unfold wcs at HS0
    dsimp only at HCK HS0 ⊢
    go_enter Try.func9, Try.ntmps9
    go_wp2_with fail
    generalize World.alloc (World.alloc w _) _ = w1 at *
    obtain ⟨k0, k1, k2, k3⟩ := HS0.out.one4
    dsimp only at k0 k1 k2 k3
    go_wp2_with fail
    refine (HCK.out _ HS0.out.bel).mono ?_
    rintro e w2 ⟨rfl, hb2⟩
    have HW2 := Lib.hid (HS0.out.next hb2); clear hb2 k0 k1 k2 k3 HS0
    obtain ⟨x0, y0, z0, u0, ⟨q0, q1, q2, q3⟩, q4, q5, q6, q7⟩ := HW2.out.room
    have HST := Lib.hid (HW2.out.stored (.int .i64 0) (.slice none 0 0) (.slice none 0 0) (.slice none 0 0))
    have HD9 := Lib.hid (HD8.out _ HST.out.2)
    go_wp2_with fail
    exact ret_blk3 rfl rfl rfl rfl rfl HST.out.1 (n := 4) rfl (by kernel_rfl) HD9.out
end Go.Proofs.Ytnaiflokmihmeaa

namespace Go.Proofs.Ytnaiflokmihmeaa
open Go.RowKit
set_option linter.unusedVariables false
set_option linter.unusedSimpArgs false

/-- two worlds in variables -/
structure W2S (w : World) (s1 s2 : Int) (r1 r2 : Raw) (wr : World) : Prop where
  bel : Below w.heap.size w wr
  one : Blk wr w.heap.size 25 (wcs s1 r1)
  two : Blk wr (w.heap.size + 1) 25 (wcs s2 r2)
section
variable {w wr w' : World} {s1 s2 : Int} {r1 r2 : Raw}
theorem W2S.start (w : World) (s1 s2 : Int) (r1 r2 : Raw) : W2S w s1 s2 r1 r2 ((w.alloc (.cells (wcs s1 r1) 25)).alloc (.cells (wcs s2 r2) 25)) := by
  have hz : (w.alloc (.cells (wcs s1 r1) 25)).heap.size = w.heap.size + 1 := by simp
  exact ⟨((Below.refl w.heap.size w).alloc (Nat.le_refl _) _).alloc (by omega) _, (Blk.new _ _ _).alloc _, Blk.at_ hz.symm⟩
theorem W2S.next (h : W2S w s1 s2 r1 r2 wr) (hb : Below wr.heap.size wr w') : W2S w s1 s2 r1 r2 w' := by
  obtain ⟨h1, h2, h3⟩ := h
  exact ⟨h1.trans (hb.mono h1.size), h2.belowB hb, h3.belowB hb⟩
theorem W2S.all (h : W2S w s1 s2 r1 r2 wr) : wr.cell? ⟨w.heap.size, 0, none⟩ = some (.int .i64 s1) ∧ wr.cell? ⟨w.heap.size, 1, none⟩ = some (.slice r1.A1 r1.n1 r1.c1) ∧ wr.cell? ⟨w.heap.size, 2, none⟩ = some (.slice r1.A2 r1.n2 r1.c2) ∧ wr.cell? ⟨w.heap.size, 3, none⟩ = some (.slice r1.A3 r1.n3 r1.c3) ∧
    wr.cell? ⟨w.heap.size + 1, 0, none⟩ = some (.int .i64 s2) ∧ wr.cell? ⟨w.heap.size + 1, 1, none⟩ = some (.slice r2.A1 r2.n1 r2.c1) ∧ wr.cell? ⟨w.heap.size + 1, 2, none⟩ = some (.slice r2.A2 r2.n2 r2.c2) ∧ wr.cell? ⟨w.heap.size + 1, 3, none⟩ = some (.slice r2.A3 r2.n3 r2.c3) :=
  ⟨h.one.cell 0, h.one.cell 1, h.one.cell 2, h.one.cell 3, h.two.cell 0, h.two.cell 1, h.two.cell 2, h.two.cell 3⟩
end
theorem wd_eq {d e : Wd} : d = e ↔ d.sl = e.sl ∧ d.pl = e.pl ∧ d.se = e.se ∧ d.sp = e.sp := by
  cases d; cases e; simp
set_option maxHeartbeats 2000000 in
set_option maxRecDepth 20000 in
theorem same_any (d e : Wd) (r q : Raw) (w : World) (h : WOk w r d) (h' : WOk w q e) :
    Calls Try.prog 12 #[wv d.sl r, wv e.sl q] w fun x w' => x = .returned (.bool (decide (d = e))) ∧ Below w.heap.size w w' := by
  have HS0 := Lib.hid (W2S.start w d.sl e.sl r q)
  have HE1 := Lib.hid (fun W (hb : Below w.heap.size w W) => equalI_any d.pl e.pl r.A1 q.A1 r.n1 q.n1 r.c1 q.c1 W h.h1 h'.h1 (by have := h.l1; have := h.m1; omega) (by have := h'.l1; have := h'.m1; omega) (h.next hb).i1 (h'.next hb).i1 rfl)
  have HE2 := Lib.hid (fun W (hb : Below w.heap.size w W) => equalB_any d.se e.se r.A2 q.A2 r.n2 q.n2 r.c2 q.c2 W h.h2 h'.h2 (by have := h.l2; have := h.m2; omega) (by have := h'.l2; have := h'.m2; omega) (h.next hb).i2 (h'.next hb).i2 rfl)
  have HE3 := Lib.hid (fun W (hb : Below w.heap.size w W) => equalI_any d.sp e.sp r.A3 q.A3 r.n3 q.n3 r.c3 q.c3 W h.h3 h'.h3 (by have := h.l3; have := h.m3; omega) (by have := h'.l3; have := h'.m3; omega) (h.next hb).i3 (h'.next hb).i3 rfl)
  have HEQ := Lib.hid (wd_eq (d := d) (e := e))
  clear h h'
  by_cases a1 : d.sl = e.sl
  · skip
    by_cases a2 : d.pl = e.pl
    · skip
      by_cases a3 : d.se = e.se
      · skip
        by_cases a4 : d.sp = e.sp
        · skip
          have HD : decide (d = e) = true := decide_eq_true (HEQ.out.2 ⟨a1, a2, a3, a4⟩)
          rw [HD]
          rw [decide_eq_true a2] at HE1
          rw [decide_eq_true a3] at HE2
          rw [decide_eq_true a4] at HE3
          clear HD HEQ
          obtain ⟨A1, n1, c1, A2, n2, c2, A3, n3, c3⟩ := r
          obtain ⟨B1, m1, b1, B2, m2, b2, B3, m3, b3⟩ := q
          unfold wv wcs
          unfold wcs at HS0
          dsimp only at HS0 HE1 HE2 HE3 ⊢
          generalize d.sl = sd at *
          generalize e.sl = se at *
          subst a1
          clear a2 a3 a4
          go_enter Try.func12, Try.ntmps12
          go_wp2_with fail
          generalize World.alloc (World.alloc w _) _ = w1 at *
          obtain ⟨k0, k1, k2, k3, g0, g1, g2, g3⟩ := HS0.out.all
          dsimp only at k0 k1 k2 k3 g0 g1 g2 g3
          go_wp2_with fail
          refine (HE1.out _ HS0.out.bel).mono ?_
          rintro e0 w2 ⟨rfl, hb⟩
          have HS1 := Lib.hid (HS0.out.next hb)
          clear hb HS0 k0 k1 k2 k3 g0 g1 g2 g3
          have HS0 := HS1
          clear HS1
          obtain ⟨k0, k1, k2, k3, g0, g1, g2, g3⟩ := HS0.out.all
          dsimp only at k0 k1 k2 k3 g0 g1 g2 g3
          go_wp2_with fail
          refine (HE2.out _ HS0.out.bel).mono ?_
          rintro e0 w3 ⟨rfl, hb⟩
          have HS1 := Lib.hid (HS0.out.next hb)
          clear hb HS0 k0 k1 k2 k3 g0 g1 g2 g3
          have HS0 := HS1
          clear HS1
          obtain ⟨k0, k1, k2, k3, g0, g1, g2, g3⟩ := HS0.out.all
          dsimp only at k0 k1 k2 k3 g0 g1 g2 g3
          go_wp2_with fail
          refine (HE3.out _ HS0.out.bel).mono ?_
          rintro e0 w4 ⟨rfl, hb⟩
          have HS1 := Lib.hid (HS0.out.next hb)
          clear hb HS0 k0 k1 k2 k3 g0 g1 g2 g3
          have HS0 := HS1
          clear HS1
          obtain ⟨k0, k1, k2, k3, g0, g1, g2, g3⟩ := HS0.out.all
          dsimp only at k0 k1 k2 k3 g0 g1 g2 g3
          go_wp2_with fail
          go_ret
          exact ⟨rfl, HS0.out.bel⟩
        · skip
          have HD : decide (d = e) = false := decide_eq_false fun h9 => a4 (HEQ.out.1 h9).2.2.2
          rw [HD]
          rw [decide_eq_true a2] at HE1
          rw [decide_eq_true a3] at HE2
          rw [decide_eq_false a4] at HE3
          clear HD HEQ
          obtain ⟨A1, n1, c1, A2, n2, c2, A3, n3, c3⟩ := r
          obtain ⟨B1, m1, b1, B2, m2, b2, B3, m3, b3⟩ := q
          unfold wv wcs
          unfold wcs at HS0
          dsimp only at HS0 HE1 HE2 HE3 ⊢
          generalize d.sl = sd at *
          generalize e.sl = se at *
          subst a1
          clear a2 a3 a4
          go_enter Try.func12, Try.ntmps12
          go_wp2_with fail
          generalize World.alloc (World.alloc w _) _ = w1 at *
          obtain ⟨k0, k1, k2, k3, g0, g1, g2, g3⟩ := HS0.out.all
          dsimp only at k0 k1 k2 k3 g0 g1 g2 g3
          go_wp2_with fail
          refine (HE1.out _ HS0.out.bel).mono ?_
          rintro e0 w2 ⟨rfl, hb⟩
          have HS1 := Lib.hid (HS0.out.next hb)
          clear hb HS0 k0 k1 k2 k3 g0 g1 g2 g3
          have HS0 := HS1
          clear HS1
          obtain ⟨k0, k1, k2, k3, g0, g1, g2, g3⟩ := HS0.out.all
          dsimp only at k0 k1 k2 k3 g0 g1 g2 g3
          go_wp2_with fail
          refine (HE2.out _ HS0.out.bel).mono ?_
          rintro e0 w3 ⟨rfl, hb⟩
          have HS1 := Lib.hid (HS0.out.next hb)
          clear hb HS0 k0 k1 k2 k3 g0 g1 g2 g3
          have HS0 := HS1
          clear HS1
          obtain ⟨k0, k1, k2, k3, g0, g1, g2, g3⟩ := HS0.out.all
          dsimp only at k0 k1 k2 k3 g0 g1 g2 g3
          go_wp2_with fail
          refine (HE3.out _ HS0.out.bel).mono ?_
          rintro e0 w4 ⟨rfl, hb⟩
          have HS1 := Lib.hid (HS0.out.next hb)
          clear hb HS0 k0 k1 k2 k3 g0 g1 g2 g3
          have HS0 := HS1
          clear HS1
          obtain ⟨k0, k1, k2, k3, g0, g1, g2, g3⟩ := HS0.out.all
          dsimp only at k0 k1 k2 k3 g0 g1 g2 g3
          go_wp2_with fail
          go_ret
          exact ⟨rfl, HS0.out.bel⟩
      · skip
        have HD : decide (d = e) = false := decide_eq_false fun h9 => a3 (HEQ.out.1 h9).2.2.1
        rw [HD]
        rw [decide_eq_true a2] at HE1
        rw [decide_eq_false a3] at HE2
        clear HD HEQ
        obtain ⟨A1, n1, c1, A2, n2, c2, A3, n3, c3⟩ := r
        obtain ⟨B1, m1, b1, B2, m2, b2, B3, m3, b3⟩ := q
        unfold wv wcs
        unfold wcs at HS0
        dsimp only at HS0 HE1 HE2 HE3 ⊢
        generalize d.sl = sd at *
        generalize e.sl = se at *
        subst a1
        clear a2 a3
        go_enter Try.func12, Try.ntmps12
        go_wp2_with fail
        generalize World.alloc (World.alloc w _) _ = w1 at *
        obtain ⟨k0, k1, k2, k3, g0, g1, g2, g3⟩ := HS0.out.all
        dsimp only at k0 k1 k2 k3 g0 g1 g2 g3
        go_wp2_with fail
        refine (HE1.out _ HS0.out.bel).mono ?_
        rintro e0 w2 ⟨rfl, hb⟩
        have HS1 := Lib.hid (HS0.out.next hb)
        clear hb HS0 k0 k1 k2 k3 g0 g1 g2 g3
        have HS0 := HS1
        clear HS1
        obtain ⟨k0, k1, k2, k3, g0, g1, g2, g3⟩ := HS0.out.all
        dsimp only at k0 k1 k2 k3 g0 g1 g2 g3
        go_wp2_with fail
        refine (HE2.out _ HS0.out.bel).mono ?_
        rintro e0 w3 ⟨rfl, hb⟩
        have HS1 := Lib.hid (HS0.out.next hb)
        clear hb HS0 k0 k1 k2 k3 g0 g1 g2 g3
        have HS0 := HS1
        clear HS1
        obtain ⟨k0, k1, k2, k3, g0, g1, g2, g3⟩ := HS0.out.all
        dsimp only at k0 k1 k2 k3 g0 g1 g2 g3
        go_wp2_with fail
        go_ret
        exact ⟨rfl, HS0.out.bel⟩
    · skip
      have HD : decide (d = e) = false := decide_eq_false fun h9 => a2 (HEQ.out.1 h9).2.1
      rw [HD]
      rw [decide_eq_false a2] at HE1
      clear HD HEQ
      obtain ⟨A1, n1, c1, A2, n2, c2, A3, n3, c3⟩ := r
      obtain ⟨B1, m1, b1, B2, m2, b2, B3, m3, b3⟩ := q
      unfold wv wcs
      unfold wcs at HS0
      dsimp only at HS0 HE1 HE2 HE3 ⊢
      generalize d.sl = sd at *
      generalize e.sl = se at *
      subst a1
      clear a2
      go_enter Try.func12, Try.ntmps12
      go_wp2_with fail
      generalize World.alloc (World.alloc w _) _ = w1 at *
      obtain ⟨k0, k1, k2, k3, g0, g1, g2, g3⟩ := HS0.out.all
      dsimp only at k0 k1 k2 k3 g0 g1 g2 g3
      go_wp2_with fail
      refine (HE1.out _ HS0.out.bel).mono ?_
      rintro e0 w2 ⟨rfl, hb⟩
      have HS1 := Lib.hid (HS0.out.next hb)
      clear hb HS0 k0 k1 k2 k3 g0 g1 g2 g3
      have HS0 := HS1
      clear HS1
      obtain ⟨k0, k1, k2, k3, g0, g1, g2, g3⟩ := HS0.out.all
      dsimp only at k0 k1 k2 k3 g0 g1 g2 g3
      go_wp2_with fail
      go_ret
      exact ⟨rfl, HS0.out.bel⟩
  · skip
    have HD : decide (d = e) = false := decide_eq_false fun h9 => a1 (HEQ.out.1 h9).1
    rw [HD]
    clear HD HEQ
    obtain ⟨A1, n1, c1, A2, n2, c2, A3, n3, c3⟩ := r
    obtain ⟨B1, m1, b1, B2, m2, b2, B3, m3, b3⟩ := q
    unfold wv wcs
    unfold wcs at HS0
    dsimp only at HS0 HE1 HE2 HE3 ⊢
    generalize d.sl = sd at *
    generalize e.sl = se at *
    have hq : (sd == se) = false := by simpa using a1
    clear a1
    go_enter Try.func12, Try.ntmps12
    go_wp2_with fail
    generalize World.alloc (World.alloc w _) _ = w1 at *
    obtain ⟨k0, k1, k2, k3, g0, g1, g2, g3⟩ := HS0.out.all
    dsimp only at k0 k1 k2 k3 g0 g1 g2 g3
    go_wp2_with fail
    go_ret
    exact ⟨rfl, HS0.out.bel⟩
end Go.Proofs.Ytnaiflokmihmeaa

namespace Go.Proofs.Ytnaiflokmihmeaa
open Go.RowKit
set_option linter.unusedVariables false
set_option linter.unusedSimpArgs false

theorem IntsAt.one {w : World} {g : Nat} {t : TypeId} {x : Int} (h : Blk w g t #[.int .i64 x]) : IntsAt w w.heap.size (some ⟨g, 0, none⟩) [x] := by
  intro k y hy
  cases k with
  | zero => cases hy; exact ⟨g, 0, rfl, h.lt, h.cell 0⟩
  | succ k => simp at hy
theorem BoolsAt.one {w : World} {g : Nat} {t : TypeId} {x : Bool} (h : Blk w g t #[.bool x]) : BoolsAt w w.heap.size (some ⟨g, 0, none⟩) [x] := by
  intro k y hy
  cases k with
  | zero => cases hy; exact ⟨g, 0, rfl, h.lt, h.cell 0⟩
  | succ k => simp at hy
theorem act_can : canE ⟨1, [0], [false], [-1]⟩ ⟨0, 0, 0, -1, 0⟩ = 0 := by decide
theorem act_do : stepN ⟨1, [0], [false], [-1]⟩ ⟨0, 0, 0, -1, 0⟩ = ⟨1, [0], [false], [0]⟩ := by decide
theorem act_ok (w : World) : WOk (((w.alloc (.cells #[.int .i64 0] 3)).alloc (.cells #[.bool false] 4)).alloc (.cells #[.int .i64 (-1)] 3)) ⟨some ⟨w.heap.size, 0, none⟩, 1, 1, some ⟨w.heap.size + 1, 0, none⟩, 1, 1, some ⟨w.heap.size + 2, 0, none⟩, 1, 1⟩ ⟨1, [0], [false], [-1]⟩ := by
  have z1 : (w.alloc (.cells #[.int .i64 0] 3)).heap.size = w.heap.size + 1 := by simp
  have z2 : ((w.alloc (.cells #[.int .i64 0] 3)).alloc (.cells #[.bool false] 4)).heap.size = w.heap.size + 2 := by simp
  exact ⟨rfl, rfl, rfl, by simp, by simp, by simp, by simp, by simp, by simp, IntsAt.one (((Blk.new w 3 #[.int .i64 0]).alloc _).alloc _), BoolsAt.one ((Blk.at_ (w := w.alloc (.cells #[.int .i64 0] 3)) (t := 4) (cs := #[.bool false]) z1.symm).alloc _), IntsAt.one (Blk.at_ z2.symm)⟩
set_option maxHeartbeats 1000000 in
set_option maxRecDepth 20000 in
theorem acted_any (w : World) : Calls Try.prog 11 #[] w fun x w' => x = .returned (.bool true) ∧ Below w.heap.size w w' := by
  have HO := Lib.hid (act_ok w)
  have HB1 : Hid (Below w.heap.size w (((w.alloc (.cells #[.int .i64 0] 3)).alloc (.cells #[.bool false] 4)).alloc (.cells #[.int .i64 (-1)] 3))) := Lib.hid ((((Below.refl _ _).alloc (Nat.le_refl _) _).alloc (by simp) _).alloc (by simp; omega) _)
  have HH := Lib.hid (fun W => held_any 1 W (by omega) (by omega))
  go_enter Try.func11, Try.ntmps11
  go_wp2_with fail
  generalize World.alloc (World.alloc (World.alloc w _) _) _ = w1 at *
  have HD := Lib.hid ((do_any _ _ ⟨0, 0, 0, -1, 0⟩ w1 HO.out).mono fun e w' h9 => DoPost.ok h9 act_can)
  rw [act_do] at HD
  unfold wv wcs sv at HD
  dsimp only at HD
  refine HD.out.mono ?_
  rintro e w2 ⟨⟨B1, m1, e1, B2, m2, e2, B3, m3, e3⟩, rfl, ho, _, hb⟩
  have hm3 : m3 = 1 := ho.h3
  subst hm3
  obtain ⟨b, off, hA, hlt, hc⟩ := ho.i3 0 0 rfl
  dsimp only at hA
  subst hA
  have HB2 := Lib.hid (HB1.out.trans (hb.mono HB1.out.size))
  have HB3 := Lib.hid (HB2.out.alloc HB2.out.size (.cells #[.int .i64 1, .slice B1 m1 e1, .slice B2 m2 e2, .slice (some ⟨b, off, none⟩) 1 e3] 25))
  have HX3 := Lib.hid (Blk.new w2 25 #[.int .i64 1, .slice B1 m1 e1, .slice B2 m2 e2, .slice (some ⟨b, off, none⟩) 1 e3])
  have hc3 := ((Below.refl w2.heap.size w2).alloc (Nat.le_refl _) (.cells #[.int .i64 1, .slice B1 m1 e1, .slice B2 m2 e2, .slice (some ⟨b, off, none⟩) 1 e3] 25)).cell (p := ⟨b, off + 0, none⟩) hlt
  rw [hc] at hc3
  clear hc hlt ho hb HB1 HB2 HD HO
  dsimp only
  go_upto_region 2 with (fail)
  generalize World.alloc w2 _ = w3 at *
  generalize w2.heap.size = px at *
  have o3 := HX3.out.cell 3
  simp at o3 hc3
  go_wp2_with fail
  refine (HH.out _).mono ?_
  rintro e w4 ⟨rfl, rfl⟩
  go_wp2_with fail
  go_ret
  exact ⟨rfl, HB3.out⟩
end Go.Proofs.Ytnaiflokmihmeaa

