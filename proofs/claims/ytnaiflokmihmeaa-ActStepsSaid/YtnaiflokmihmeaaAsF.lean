/- The order of steps; slices.SortFunc at steps. -/
import Derived.Test.YtnaiflokmihmeaaAsE
import Derived.Test.YtnaiflokmihmeaaMgF
import Derived.Test.YtnaiflokmihmeaaSlst
namespace Go.Proofs.Ytnaiflokmihmeaa
open Go.RowKit
set_option linter.unusedVariables false
set_option linter.unusedSimpArgs false

set_option maxHeartbeats 2000000 in
set_option maxRecDepth 20000 in
theorem scmp_grow (f g : Stp) (w : World) : Calls Try.prog 56 #[sv f, sv g] w fun e w' => e = .returned (.int .i64 (scmp f g)) ∧ ∃ q os, w' = Go.Sort.grow (w.drewN q) os := by
  obtain ⟨k, a, p, s, t⟩ := f
  obtain ⟨kk, aa, pp, ss, tt⟩ := g
  unfold sv
  dsimp only
  show Calls Try.prog 56 _ w fun e w' => e = .returned (.int .i64 (lexC [k, a, p, s, t] [kk, aa, pp, ss, tt])) ∧ ∃ q os, w' = Go.Sort.grow (w.drewN q) os
  go_enter Try.func56, Try.ntmps56
  go_wp2_with fail
  have hbl := scmp_blks w (k := k) (a := a) (p := p) (s := s) (t := t) (kk := kk) (aa := aa) (pp := pp) (ss := ss) (tt := tt) rfl rfl
  have hgr : Go.Sort.grow (w.drewN 0) #[.cells #[.int .i64 k, .int .i64 a, .int .i64 p, .int .i64 s, .int .i64 t] 39, .cells #[.int .i64 kk, .int .i64 aa, .int .i64 pp, .int .i64 ss, .int .i64 tt] 39, .cells #[.int .i64 k, .int .i64 a, .int .i64 p, .int .i64 s, .int .i64 t] 3, .cells #[.int .i64 kk, .int .i64 aa, .int .i64 pp, .int .i64 ss, .int .i64 tt] 3] = ((((w.alloc (.cells #[.int .i64 k, .int .i64 a, .int .i64 p, .int .i64 s, .int .i64 t] 39)).alloc (.cells #[.int .i64 kk, .int .i64 aa, .int .i64 pp, .int .i64 ss, .int .i64 tt] 39)).alloc (.cells #[.int .i64 k, .int .i64 a, .int .i64 p, .int .i64 s, .int .i64 t] 3)).alloc (.cells #[.int .i64 kk, .int .i64 aa, .int .i64 pp, .int .i64 ss, .int .i64 tt] 3)) := by rfl
  generalize World.alloc (World.alloc (World.alloc (World.alloc w _) _) _) _ = w4 at *
  refine (compareI_any [k, a, p, s, t] [kk, aa, pp, ss, tt] _ _ 5 5 5 w4 rfl rfl (by omega) hbl.2.1 hbl.2.2).mono ?_
  rintro e w' ⟨rfl, rfl⟩
  have HG := Lib.hid hgr.symm
  clear hbl hgr
  go_wp2_with fail
  go_ret
  exact ⟨rfl, 0, _, HG.out⟩
theorem lexC_cases : ∀ (xs ys : List Int), xs.length = ys.length → (lexC xs ys = -1) ∨ (xs = ys ∧ lexC xs ys = 0) ∨ (lexC xs ys = 1)
  | [], [], _ => .inr (.inl ⟨rfl, rfl⟩)
  | x :: xs, y :: ys, h => by
    have ih := lexC_cases xs ys (by simpa using h)
    have e : lexC (x :: xs) (y :: ys) = if cmpI x y ≠ 0 then cmpI x y else lexC xs ys := rfl
    rw [e]
    unfold cmpI
    by_cases h1 : x < y
    · simp [h1]
    · by_cases h2 : y < x
      · simp [h1, h2]
      · have : x = y := by omega
        subst this
        simp [h1]
        exact ih
theorem lexC_anti : ∀ (xs ys : List Int), lexC ys xs = - lexC xs ys
  | [], [] => rfl
  | [], _ :: _ => rfl
  | _ :: _, [] => rfl
  | x :: xs, y :: ys => by
    have ih := lexC_anti xs ys
    have e1 : lexC (x :: xs) (y :: ys) = if cmpI x y ≠ 0 then cmpI x y else lexC xs ys := rfl
    have e2 : lexC (y :: ys) (x :: xs) = if cmpI y x ≠ 0 then cmpI y x else lexC ys xs := rfl
    rw [e1, e2]
    unfold cmpI
    by_cases h1 : x < y
    · have h2 : ¬ y < x := by omega
      simp [h1, h2]
    · by_cases h2 : y < x
      · simp [h1, h2]
      · simp [h1, h2, ih]
theorem lexC_trans : ∀ (xs ys zs : List Int), xs.length = ys.length → ys.length = zs.length → lexC xs ys < 0 → lexC ys zs < 0 → lexC xs zs < 0
  | [], [], [], _, _, h, _ => by simp [lexC] at h
  | x :: xs, y :: ys, z :: zs, hl, hm, h1, h2 => by
    have ih := lexC_trans xs ys zs (by simpa using hl) (by simpa using hm)
    have e1 : lexC (x :: xs) (y :: ys) = if cmpI x y ≠ 0 then cmpI x y else lexC xs ys := rfl
    have e2 : lexC (y :: ys) (z :: zs) = if cmpI y z ≠ 0 then cmpI y z else lexC ys zs := rfl
    have e3 : lexC (x :: xs) (z :: zs) = if cmpI x z ≠ 0 then cmpI x z else lexC xs zs := rfl
    rw [e1] at h1
    rw [e2] at h2
    rw [e3]
    unfold cmpI at *
    by_cases a1 : x < y
    · by_cases b1 : y < z
      · have : x < z := by omega
        simp [this]
      · by_cases b2 : z < y
        · simp [b1, b2] at h2
        · have : x < z := by omega
          simp [this]
    · by_cases a2 : y < x
      · simp [a1, a2] at h1
      · have : x = y := by omega
        subst this
        by_cases b1 : x < z
        · simp [b1]
        · by_cases b2 : z < x
          · simp [b1, b2] at h2
          · have : x = z := by omega
            subst this
            simp at h1 h2 ⊢
            exact ih h1 h2
def SLt (s t : Stp) : Prop := scmp s t < 0
instance (s t : Stp) : Decidable (SLt s t) := by unfold SLt; infer_instance
theorem slt_irrefl (s : Stp) : ¬ SLt s s := by
  unfold SLt scmp
  have := lexC_anti (lstS s) (lstS s)
  omega
theorem slt_trans {s t u : Stp} (h1 : SLt s t) (h2 : SLt t u) : SLt s u := lexC_trans (lstS s) (lstS t) (lstS u) rfl rfl h1 h2
theorem slt_total {s t : Stp} (h1 : ¬ SLt s t) (h2 : ¬ SLt t s) : s = t := by
  unfold SLt scmp at *
  rw [lexC_anti] at h2
  rcases lexC_cases (lstS s) (lstS t) rfl with h | ⟨h, _⟩ | h
  · omega
  · obtain ⟨a1, a2, a3, a4, a5⟩ := s
    obtain ⟨b1, b2, b3, b4, b5⟩ := t
    simp only [lstS, List.cons.injEq, and_true] at h
    obtain ⟨c1, c2, c3, c4, c5⟩ := h
    subst c1 c2 c3 c4 c5
    rfl
  · omega
theorem ltS_iff (f g : Stp) : Go.Proofs.ltOf scmp f g = decide (SLt f g) := rfl
theorem swoS : Go.Sort.SWO (Go.Proofs.ltOf scmp) where
  irrefl x := by rw [ltS_iff]; simp [slt_irrefl]
  trans x y z h1 h2 := by rw [ltS_iff] at *; simp at *; exact slt_trans h1 h2
  ntrans x y z h1 h2 := by
    rw [ltS_iff] at *
    simp at *
    intro h3
    by_cases h4 : SLt y x
    · exact h2 (slt_trans h4 h3)
    · have e := slt_total h1 h4
      exact h2 (e ▸ h3)
theorem totS (x y : Stp) (h1 : Go.Proofs.ltOf scmp x y = false) (h2 : Go.Proofs.ltOf scmp y x = false) : x = y := by
  rw [ltS_iff] at *
  simp at *
  exact slt_total h1 h2
def AscS (l : List Stp) : Prop := l.Pairwise SLt
theorem ascS_ext {l r : List Stp} (h1 : AscS l) (h2 : AscS r) (h : ∀ x, x ∈ l ↔ x ∈ r) : l = r := by
  have p : l.Perm r := by
    refine (List.perm_ext_iff_of_nodup ?_ ?_).2 h
    · exact h1.imp (fun {a b} hab e => by subst e; exact slt_irrefl a hab)
    · exact h2.imp (fun {a b} hab e => by subst e; exact slt_irrefl a hab)
  exact List.Perm.eq_of_pairwise (le := SLt) (fun a b _ _ h1 h2 => absurd (slt_trans h1 h2) (slt_irrefl a)) h1 h2 p
/-- a list without doubles, sorted, ascends -/
theorem sorted_asc {l : List Stp} (hn : l.Nodup) : AscS (l.mergeSort fun x y => !(Go.Proofs.ltOf scmp y x)) := by
  have hp := List.pairwise_mergeSort (le := fun x y => !(Go.Proofs.ltOf scmp y x)) (fun a b c h1 h2 => by
    simp only [Bool.not_eq_true'] at *
    exact swoS.ntrans _ _ _ h2 h1) (fun a b => by
    simp only [Bool.or_eq_true, Bool.not_eq_true']
    rw [ltS_iff, ltS_iff]
    by_cases h : SLt b a
    · right; simp; exact fun h2 => slt_irrefl a (slt_trans h2 h)
    · left; simp [h]) l
  have hnd : (l.mergeSort fun x y => !(Go.Proofs.ltOf scmp y x)).Nodup := (List.mergeSort_perm l _).nodup_iff.2 hn
  refine (hp.and hnd).imp (fun {a b} hab => ?_)
  obtain ⟨h1, h2⟩ := hab
  rw [ltS_iff] at h1
  simp only [Bool.not_eq_true', decide_eq_false_iff_not] at h1
  refine Classical.byContradiction fun h3 => h2 (slt_total h3 h1)
open Go.Sort in
theorem SBlk.sorted {w : World} {g cap n : Nat} {d d' : Array Stp} {os : Array Obj} (h : SBlk w g cap d) (hs : d'.size = d.size) : SBlk (sortWorldK valS 5 w g 0 n d' os) g cap d' := by
  obtain ⟨cs, h1, h2, h3, h4⟩ := h
  have hlt := h1.lt
  refine ⟨putCells id 0 (flatK valS 5 d') cs, ?_, by simpa [putCells] using h2, by omega, fun t ht => ?_⟩
  · unfold Blk sortWorldK
    rw [heap_grow_old _ _ (by simpa [putRowK] using hlt)]
    unfold Blk at h1
    simp [putRowK, putRow, mapBlock, Sort.ahead, Array.getElem?_modify, h1, onCells]
  · have htc : t < cs.size := by omega
    simp only [putCells, Array.getElem?_mapIdx, Array.getElem?_eq_getElem htc, Option.map_some, Nat.zero_le, true_and, Nat.zero_add, size_flatK, if_pos ht, Nat.sub_zero, get_flatK _ _ _ _ ht]
    rfl
open Go.Sort in
theorem sortedS_below {w : World} {g n B : Nat} {d' : Array Stp} {os : Array Obj} (hB : B ≤ g) (hw : B ≤ w.heap.size) : Below B w (sortWorldK valS 5 w g 0 n d' os) := by
  have hg : w.grownBy (sortWorldK valS 5 w g 0 n d' os) (some g) := by
    unfold sortWorldK putRowK
    refine ⟨rfl, rfl, rfl, by simp, fun k hk hne => ?_⟩
    rw [heap_grow_old _ _ (by simpa using hk)]
    have : g ≠ k := fun e => hne (by rw [e])
    simp [putRow, mapBlock, Sort.ahead, Array.getElem?_modify, this]
  exact below_of_grown hg hw (fun k hk => by cases hk; exact hB)

theorem isAggS (w : World) : (isAgg 39).run Try.prog w = .ok true w := by kernel_rfl
theorem sizeS (w : World) : (Go.sizeOf 39).run Try.prog w = .ok 5 w := by kernel_rfl
/-- slices.SortFunc at steps with act.Compare -/
theorem sortS_any (g cap c : Nat) (d : Array Stp) (w : World) (B : Nat) (hB : B ≤ g) (h : SBlk w g cap d) (hsz : d.size < 4611686018427387904) :
    Calls Try.prog 93 #[.slice (some ⟨g, 0, none⟩) d.size c, .func (.func 56) #[] #[]] w fun e w' => e = .returned (.tuple #[]) ∧ SBlk w' g cap (d.toList.mergeSort fun x y => !(Go.Proofs.ltOf scmp y x)).toArray ∧ Below B w w' := by
  have eg : ∀ args w, (callFunc 56 args).run Try.prog w = .ok (.enter 56 args) w := enters_of Try.func56 (by kernel_rfl) rfl
  have hcmp : Go.Proofs.CmpLays Try.prog 56 #[] valS 5 scmp g 0 d.size w := fun m os dk hs x y => scmp_grow x y _
  have h1 : ∀ x, ∀ v ∈ valS x, v.oneCell' = true := fun x v hv => by simp [valS] at hv; rcases hv with rfl | rfl | rfl | rfl | rfl <;> rfl
  have hcon := AnyQ.slices_SortFunc_total Try.sortStep 5 isAggS sizeS valS (fun _ => rfl) h1 scmp swoS 56 #[] g 0 c d w eg hcmp h.holds h.lt hsz totS
  refine hcon.mono ?_
  rintro e w' ⟨he, n, os, rfl⟩
  exact ⟨he, h.sorted (by simp [List.length_mergeSort]), sortedS_below hB (Nat.le_trans hB (Nat.le_of_lt h.lt))⟩
theorem sortS_none (p : Option Addr) (c : Nat) (fv : Value) (w : World) : Calls Try.prog 93 #[.slice p 0 c, fv] w fun e w' => e = .returned (.tuple #[]) ∧ w' = w :=
  AnyF.slices_SortFunc_none { Try.sortStep with } p c fv w
end Go.Proofs.Ytnaiflokmihmeaa
