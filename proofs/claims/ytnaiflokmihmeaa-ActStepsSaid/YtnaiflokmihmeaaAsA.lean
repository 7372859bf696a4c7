/- Walks: Compare (package act), StepLess (reference). -/
import Derived.Test.YtnaiflokmihmeaaActRuns
import Derived.Test.YtnaiflokmihmeaaMgF
import Derived.Test.YtnaiflokmihmeaaMgD
import Derived.Deep.LoopGhost
import Derived.Deep.QuietTactic
import Derived.BigQuiet
namespace Go.Proofs.Ytnaiflokmihmeaa
open Go.RowKit
set_option linter.unusedVariables false
set_option linter.unusedSimpArgs false

def lstS (s : Stp) : List Int := [s.k, s.a, s.p, s.s, s.t]
def scmp (s t : Stp) : Int := lexC (lstS s) (lstS t)
theorem ints_5 {w : World} {g : Nat} {t : TypeId} {x y z u v : Int} (h : Blk w g t #[.int .i64 x, .int .i64 y, .int .i64 z, .int .i64 u, .int .i64 v]) : IntsAt w w.heap.size (some ⟨g, 0, none⟩) [x, y, z, u, v] := by
  intro k q hk
  refine ⟨g, 0, rfl, h.lt, ?_⟩
  rw [Nat.zero_add, h.cell]
  rcases k with _ | _ | _ | _ | _ | k
  · simp at hk; subst hk; rfl
  · simp at hk; subst hk; rfl
  · simp at hk; subst hk; rfl
  · simp at hk; subst hk; rfl
  · simp at hk; subst hk; rfl
  · simp at hk
theorem scmp_blks (w : World) {k a p s t kk aa pp ss tt : Int} {v w4 : World} (h2 : v = (w.alloc (.cells #[.int .i64 k, .int .i64 a, .int .i64 p, .int .i64 s, .int .i64 t] 39)).alloc (.cells #[.int .i64 kk, .int .i64 aa, .int .i64 pp, .int .i64 ss, .int .i64 tt] 39))
    (h4 : w4 = (v.alloc (.cells #[.int .i64 k, .int .i64 a, .int .i64 p, .int .i64 s, .int .i64 t] 3)).alloc (.cells #[.int .i64 kk, .int .i64 aa, .int .i64 pp, .int .i64 ss, .int .i64 tt] 3)) :
    Below w.heap.size w w4 ∧ IntsAt w4 w4.heap.size (some ⟨w.heap.size + 1 + 1, 0, none⟩) [k, a, p, s, t] ∧ IntsAt w4 w4.heap.size (some ⟨w.heap.size + 1 + 1 + 1, 0, none⟩) [kk, aa, pp, ss, tt] := by
  have hz : v.heap.size = w.heap.size + 1 + 1 := by rw [h2]; simp
  have hb : Below w.heap.size w v := by rw [h2]; exact ((Below.refl _ _).alloc (Nat.le_refl _) _).alloc (by simp) _
  subst h4
  refine ⟨(hb.alloc (by omega) _).alloc (by simp; omega) _, ?_, ?_⟩
  · exact ints_5 ((Blk.at_ (by omega)).alloc _)
  · exact ints_5 (Blk.at_ (by simp; omega))
set_option maxHeartbeats 2000000 in
set_option maxRecDepth 20000 in
theorem scmp_any (f g : Stp) (w : World) : Calls Try.prog 56 #[sv f, sv g] w fun e w' => e = .returned (.int .i64 (scmp f g)) ∧ Below w.heap.size w w' := by
  obtain ⟨k, a, p, s, t⟩ := f
  obtain ⟨kk, aa, pp, ss, tt⟩ := g
  unfold sv
  dsimp only
  show Calls Try.prog 56 _ w fun e w' => e = .returned (.int .i64 (lexC [k, a, p, s, t] [kk, aa, pp, ss, tt])) ∧ Below w.heap.size w w'
  go_enter Try.func56, Try.ntmps56
  go_wp2_with fail
  have hbl := scmp_blks w (k := k) (a := a) (p := p) (s := s) (t := t) (kk := kk) (aa := aa) (pp := pp) (ss := ss) (tt := tt) rfl rfl
  generalize World.alloc (World.alloc (World.alloc (World.alloc w _) _) _) _ = w4 at *
  refine (compareI_any [k, a, p, s, t] [kk, aa, pp, ss, tt] _ _ 5 5 5 w4 rfl rfl (by omega) hbl.2.1 hbl.2.2).mono ?_
  rintro e w' ⟨rfl, rfl⟩
  have HB := Lib.hid hbl.1
  clear hbl
  go_wp2_with fail
  go_ret
  exact ⟨rfl, HB.out⟩
/-- two steps in variables -/
structure S2S (w : World) (x y : Array Value) (wr : World) : Prop where
  bel : Below w.heap.size w wr
  one : Blk wr w.heap.size 39 x
  two : Blk wr (w.heap.size + 1) 39 y
theorem S2S.start (w : World) (x y : Array Value) : S2S w x y ((w.alloc (.cells x 39)).alloc (.cells y 39)) := by
  have hz : (w.alloc (.cells x 39)).heap.size = w.heap.size + 1 := by simp
  exact ⟨((Below.refl _ _).alloc (Nat.le_refl _) _).alloc (by simp) _, (Blk.new _ _ _).alloc _, Blk.at_ hz.symm⟩
/-- the two arrays of numbers -/
structure A2S (w : World) (px py : Nat) (x y : Array Value) (wr : World) : Prop where
  bel : Below w.heap.size w wr
  one : Blk wr px 117 x
  two : Blk wr py 117 y
theorem A2S.drewN {w : World} {px py : Nat} {x y : Array Value} {wr : World} (h : A2S w px py x y wr) (n : Nat) : A2S w px py x y (wr.drewN n) :=
  ⟨below_drewN h.bel n, h.one.belowB (below_drewN (Below.refl _ _) n), h.two.belowB (below_drewN (Below.refl _ _) n)⟩
theorem cell5 {x y z u v : Int} {j : Nat} {q : Int} (h : [x, y, z, u, v][j]? = some q) : (#[.int .i64 x, .int .i64 y, .int .i64 z, .int .i64 u, .int .i64 v] : Array Value)[j]? = some (.int .i64 q) := by
  rcases j with _ | _ | _ | _ | _ | j
  all_goals simp at h
  all_goals subst h; rfl
theorem S2S.a {w w1 : World} {x y : Array Value} (h : S2S w x y w1) : A2S w w1.heap.size (w1.heap.size + 1) x y ((w1.alloc (.cells x 117)).alloc (.cells y 117)).drew := by
  have hz : (w1.alloc (.cells x 117)).heap.size = w1.heap.size + 1 := by simp
  exact ⟨((h.bel.alloc h.bel.size _).alloc (by have := h.bel.size; omega) _).drew, ((Blk.new _ _ _).alloc _).drew, (Blk.at_ hz.symm).drew⟩
theorem S2S.b {w w1 : World} {x y : Array Value} (h : S2S w x y w1) : A2S w (w1.heap.size + 1) w1.heap.size x y ((w1.alloc (.cells y 117)).alloc (.cells x 117)).drew := by
  have hz : (w1.alloc (.cells y 117)).heap.size = w1.heap.size + 1 := by simp
  exact ⟨((h.bel.alloc h.bel.size _).alloc (by have := h.bel.size; omega) _).drew, (Blk.at_ hz.symm).drew, ((Blk.new _ _ _).alloc _).drew⟩
set_option maxHeartbeats 4000000 in
set_option maxRecDepth 20000 in
theorem sless_any (f g : Stp) (w : World) : Calls Try.prog 53 #[sv f, sv g] w fun e w' => e = .returned (.bool (decide (scmp f g < 0))) ∧ Below w.heap.size w w' := by
  obtain ⟨k, a, p, s, t⟩ := f
  obtain ⟨kk, aa, pp, ss, tt⟩ := g
  unfold sv
  dsimp only
  show Calls Try.prog 53 _ w fun e w' => e = .returned (.bool (decide (lexC [k, a, p, s, t] [kk, aa, pp, ss, tt] < 0))) ∧ Below w.heap.size w w'
  have HS0 := Lib.hid (S2S.start w #[.int .i64 k, .int .i64 a, .int .i64 p, .int .i64 s, .int .i64 t] #[.int .i64 kk, .int .i64 aa, .int .i64 pp, .int .i64 ss, .int .i64 tt])
  go_enter Try.func53, Try.ntmps53
  go_upto_region 1 with (fail)
  generalize World.alloc (World.alloc w _) _ = w1 at *
  have HB1 := Lib.hid HS0.out.bel
  refine wp_seq [] (by kernel_rfl) (by kernel_rfl) Reg.fin_no (StR.no (St.start (W := w1))) ?_
  refine Seq.pure rfl rfl (by intro wz; go_simp; try first | with_reducible rfl | rfl) ?_
  simp only [Act.put, List.setIfInBounds_toArray, List.set_cons_zero, List.set_cons_succ]
  refine Seq.loadCellF rfl rfl rfl rfl HS0.out.one (f := 0) (v := .int .i64 k) rfl (by kernel_rfl) rfl ?_
  simp only [Act.put, List.setIfInBounds_toArray, List.set_cons_zero, List.set_cons_succ]
  refine Seq.pure rfl rfl (by intro wz; go_simp; try first | with_reducible rfl | rfl) ?_
  simp only [Act.put, List.setIfInBounds_toArray, List.set_cons_zero, List.set_cons_succ]
  refine Seq.loadCellF rfl rfl rfl rfl HS0.out.one (f := 1) (v := .int .i64 a) rfl (by kernel_rfl) rfl ?_
  simp only [Act.put, List.setIfInBounds_toArray, List.set_cons_zero, List.set_cons_succ]
  refine Seq.pure rfl rfl (by intro wz; go_simp; try first | with_reducible rfl | rfl) ?_
  simp only [Act.put, List.setIfInBounds_toArray, List.set_cons_zero, List.set_cons_succ]
  refine Seq.loadCellF rfl rfl rfl rfl HS0.out.one (f := 2) (v := .int .i64 p) rfl (by kernel_rfl) rfl ?_
  simp only [Act.put, List.setIfInBounds_toArray, List.set_cons_zero, List.set_cons_succ]
  refine Seq.pure rfl rfl (by intro wz; go_simp; try first | with_reducible rfl | rfl) ?_
  simp only [Act.put, List.setIfInBounds_toArray, List.set_cons_zero, List.set_cons_succ]
  refine Seq.loadCellF rfl rfl rfl rfl HS0.out.one (f := 3) (v := .int .i64 s) rfl (by kernel_rfl) rfl ?_
  simp only [Act.put, List.setIfInBounds_toArray, List.set_cons_zero, List.set_cons_succ]
  refine Seq.pure rfl rfl (by intro wz; go_simp; try first | with_reducible rfl | rfl) ?_
  simp only [Act.put, List.setIfInBounds_toArray, List.set_cons_zero, List.set_cons_succ]
  refine Seq.loadCellF rfl rfl rfl rfl HS0.out.one (f := 4) (v := .int .i64 t) rfl (by kernel_rfl) rfl ?_
  simp only [Act.put, List.setIfInBounds_toArray, List.set_cons_zero, List.set_cons_succ]
  refine Seq.pure (v := .agg #[.int .i64 k, .int .i64 a, .int .i64 p, .int .i64 s, .int .i64 t]) rfl rfl (fun wz => by kernel_rfl) ?_
  simp only [Act.put, List.setIfInBounds_toArray, List.set_cons_zero, List.set_cons_succ]
  refine Seq.pure rfl rfl (by intro wz; go_simp; try first | with_reducible rfl | rfl) ?_
  simp only [Act.put, List.setIfInBounds_toArray, List.set_cons_zero, List.set_cons_succ]
  refine Seq.loadCellF rfl rfl rfl rfl HS0.out.two (f := 0) (v := .int .i64 kk) rfl (by kernel_rfl) rfl ?_
  simp only [Act.put, List.setIfInBounds_toArray, List.set_cons_zero, List.set_cons_succ]
  refine Seq.pure rfl rfl (by intro wz; go_simp; try first | with_reducible rfl | rfl) ?_
  simp only [Act.put, List.setIfInBounds_toArray, List.set_cons_zero, List.set_cons_succ]
  refine Seq.loadCellF rfl rfl rfl rfl HS0.out.two (f := 1) (v := .int .i64 aa) rfl (by kernel_rfl) rfl ?_
  simp only [Act.put, List.setIfInBounds_toArray, List.set_cons_zero, List.set_cons_succ]
  refine Seq.pure rfl rfl (by intro wz; go_simp; try first | with_reducible rfl | rfl) ?_
  simp only [Act.put, List.setIfInBounds_toArray, List.set_cons_zero, List.set_cons_succ]
  refine Seq.loadCellF rfl rfl rfl rfl HS0.out.two (f := 2) (v := .int .i64 pp) rfl (by kernel_rfl) rfl ?_
  simp only [Act.put, List.setIfInBounds_toArray, List.set_cons_zero, List.set_cons_succ]
  refine Seq.pure rfl rfl (by intro wz; go_simp; try first | with_reducible rfl | rfl) ?_
  simp only [Act.put, List.setIfInBounds_toArray, List.set_cons_zero, List.set_cons_succ]
  refine Seq.loadCellF rfl rfl rfl rfl HS0.out.two (f := 3) (v := .int .i64 ss) rfl (by kernel_rfl) rfl ?_
  simp only [Act.put, List.setIfInBounds_toArray, List.set_cons_zero, List.set_cons_succ]
  refine Seq.pure rfl rfl (by intro wz; go_simp; try first | with_reducible rfl | rfl) ?_
  simp only [Act.put, List.setIfInBounds_toArray, List.set_cons_zero, List.set_cons_succ]
  refine Seq.loadCellF rfl rfl rfl rfl HS0.out.two (f := 4) (v := .int .i64 tt) rfl (by kernel_rfl) rfl ?_
  simp only [Act.put, List.setIfInBounds_toArray, List.set_cons_zero, List.set_cons_succ]
  refine Seq.pure (v := .agg #[.int .i64 kk, .int .i64 aa, .int .i64 pp, .int .i64 ss, .int .i64 tt]) rfl rfl (fun wz => by kernel_rfl) ?_
  simp only [Act.put, List.setIfInBounds_toArray, List.set_cons_zero, List.set_cons_succ]
  refine Seq.alloc rfl rfl rfl (z := .agg #[.int .i64 0, .int .i64 0, .int .i64 0, .int .i64 0, .int .i64 0]) (by kernel_rfl) rfl ?_
  intro px _ _ hpx
  simp only [Act.put, List.setIfInBounds_toArray, List.set_cons_zero, List.set_cons_succ]
  refine Seq.alloc rfl rfl rfl (z := .agg #[.int .i64 0, .int .i64 0, .int .i64 0, .int .i64 0, .int .i64 0]) (by kernel_rfl) rfl ?_
  intro py _ _ hpy
  obtain ⟨hne, hpy⟩ := Reg.ne_of_put hpy
  have hne2 := Ne.symm hne
  simp only [Act.put, List.setIfInBounds_toArray, List.set_cons_zero, List.set_cons_succ]
  refine Seq.store rfl rfl rfl rfl rfl (by first | exact Reg.put_same _ _ _ | exact (Reg.put_ne _ _ (by assumption)).trans (Reg.put_same _ _ _)) (n := 5) rfl rfl (by kernel_rfl) (fun u hu => by simp at hu; rcases hu with rfl | rfl | rfl | rfl | rfl <;> rfl) ?_
  simp only [Act.put, List.setIfInBounds_toArray, List.set_cons_zero, List.set_cons_succ]
  refine Seq.store rfl rfl rfl rfl rfl (by first | exact Reg.put_same _ _ _ | exact (Reg.put_ne _ _ (by assumption)).trans (Reg.put_same _ _ _)) (n := 5) rfl rfl (by kernel_rfl) (fun u hu => by simp at hu; rcases hu with rfl | rfl | rfl | rfl | rfl <;> rfl) ?_
  simp only [Act.put, List.setIfInBounds_toArray, List.set_cons_zero, List.set_cons_succ]
  refine Seq.done fun wz hws => ?_
  have HZ : St w1 [(px, 117, #[.int .i64 k, .int .i64 a, .int .i64 p, .int .i64 s, .int .i64 t]), (py, 117, #[.int .i64 kk, .int .i64 aa, .int .i64 pp, .int .i64 ss, .int .i64 tt])] wz := hws.listN [(px, 117, #[.int .i64 k, .int .i64 a, .int .i64 p, .int .i64 s, .int .i64 t]), (py, 117, #[.int .i64 kk, .int .i64 aa, .int .i64 pp, .int .i64 ss, .int .i64 tt])] (by simp [*]) (by intro e he; simp only [List.mem_cons, List.not_mem_nil, or_false] at he; rcases he with rfl | rfl <;> first | exact Reg.put_same _ _ _ | simp [Reg.put, *])
  have HA := Lib.hid (show A2S w px py #[.int .i64 k, .int .i64 a, .int .i64 p, .int .i64 s, .int .i64 t] #[.int .i64 kk, .int .i64 aa, .int .i64 pp, .int .i64 ss, .int .i64 tt] wz from ⟨HB1.out.trans (HZ.below.mono HB1.out.size), (HZ.blk _ (List.mem_cons_self)).2, (HZ.blk _ (List.mem_cons_of_mem _ List.mem_cons_self)).2⟩)
  clear HZ hws hpx hpy hne hne2 HS0 HB1
  go_wp2_with fail
  go_loopg [30] 5 (fun kx i wr => ∃ j : Nat, kx = 5 - j ∧ j ≤ 5 ∧ i = .int .i64 j ∧ Hid (A2S w px py #[.int .i64 k, .int .i64 a, .int .i64 p, .int .i64 s, .int .i64 t] #[.int .i64 kk, .int .i64 aa, .int .i64 pp, .int .i64 ss, .int .i64 tt] wr) ∧ Hid (lexC [k, a, p, s, t] [kk, aa, pp, ss, tt] = lexC ([k, a, p, s, t].drop j) ([kk, aa, pp, ss, tt].drop j)))
  case atStart => exact ⟨0, rfl, Nat.zero_le _, rfl, HA, Lib.hid rfl⟩
  case round =>
    clear HA
    obtain ⟨j, hgk, hj, rfl, HA, HL⟩ := hrel
    have HGK := Lib.hid hgk; clear hgk
    by_cases hlt : j < 5
    · obtain ⟨x, hx⟩ := get_ex (xs := [k, a, p, s, t]) (k := j) (by simpa using hlt)
      obtain ⟨y, hy⟩ := get_ex (xs := [kk, aa, pp, ss, tt]) (k := j) (by simpa using hlt)
      have k0 := HA.out.one.cell j
      have g0 := HA.out.two.cell j
      rw [show (#[.int .i64 k, .int .i64 a, .int .i64 p, .int .i64 s, .int .i64 t] : Array Value)[j]? = some (.int .i64 x) from cell5 hx] at k0
      rw [show (#[.int .i64 kk, .int .i64 aa, .int .i64 pp, .int .i64 ss, .int .i64 tt] : Array Value)[j]? = some (.int .i64 y) from cell5 hy] at g0
      have HS := Lib.hid (HL.out.trans (lexC_step hx hy))
      have i1 : (0 : Int) ≤ (j : Int) := by omega
      have i2 : (j : Int) < 5 := by omega
      clear hx hy HL
      by_cases hxy : x = y
      · subst hxy
        have hq : (x != x) = false := by simp
        have HT : Hid (lexC [k, a, p, s, t] [kk, aa, pp, ss, tt] = lexC ([k, a, p, s, t].drop (j+1)) ([kk, aa, pp, ss, tt].drop (j+1))) := Lib.hid (by rw [HS.out, if_neg (by simp [cmpI])])
        clear HS
        go_wp2_with fail
        go_quiet (fail)
        go_wp2_with fail
        go_roundg (5 - (j + 1))
        case measure => rw [HGK.out]; omega
        case rel => exact ⟨j+1, rfl, hlt, by go_num, Lib.hid (HA.out.drewN _), HT⟩
      · have hq : (x != y) = true := by simp [hxy]
        have HT : Hid (decide (lexC [k, a, p, s, t] [kk, aa, pp, ss, tt] < 0) = decide (x < y)) := Lib.hid (by
          rw [HS.out]
          have hc : cmpI x y ≠ 0 := by unfold cmpI; split <;> (try split) <;> omega
          rw [if_pos hc]
          unfold cmpI
          split <;> (try split) <;> simp <;> omega)
        clear HS hxy
        go_wp2_with fail
        go_quiet (fail)
        go_wp2_with fail
        go_quiet (fail)
        go_wp2_with fail
        go_ret
        exact ⟨by rw [HT.out]; rfl, ((HA.out.drewN _).drewN _).bel⟩
    · obtain rfl : j = 5 := by omega
      have HT : Hid (lexC [k, a, p, s, t] [kk, aa, pp, ss, tt] = 0) := Lib.hid HL.out
      clear HL
      go_wp2_with fail
      go_ret
      exact ⟨by rw [HT.out]; rfl, HA.out.bel⟩
end Go.Proofs.Ytnaiflokmihmeaa
