/- ToolsChecks: Valid, Clash, Check, Book and Busy return what the reference says, for all uses: the walk of the law, with no condition. -/
import Derived.Test.YtkoibebejhmpaaaToolsB
import Derived.Test.YtkoibebejhmpaaaToolsE
import Derived.Test.YtkoibebejhmpaaaToolsG
import Derived.Test.YtkoibebejhmpaaaToolsFirst
import Derived.Deep.DeepCutAuto
import Derived.Deep.RegionHeld3
namespace Go.Proofs.Ytkoibebejhmpaaa
open Go.RowKit Go.ChangeShapes Go.WideShapes Go.Deep
set_option linter.unusedVariables false
set_option linter.unusedSimpArgs false

theorem clashU_comm (a b : U) : clashU a b = clashU b a := by
  rw [Bool.eq_iff_iff]; simp only [clashU, Bool.and_eq_true, decide_eq_true_eq]
  constructor <;> rintro ⟨⟨h1, h2⟩, h3, h4, h5⟩ <;> exact ⟨⟨h2, h1⟩, h3.symm, h5, h4⟩
theorem chk_two {u v : U} (hu : okU u = true) (hv : okU v = true) : (chk [u, v] == 10) = clashU u v := by
  have h0 : chkAt [u, v] 0 = none := chkAt_ok rfl hu (fun j hj => absurd hj (by omega))
  cases hc : clashU u v with
  | true =>
    rw [chk_some (us := [u, v]) (k := 1) (by simp) (by simp) (fun j hj => by rw [show j = 0 by omega]; exact h0) (chkAt_clash (j := 0) (u := v) (v := u) rfl hv rfl (by omega) (by rw [clashU_comm]; exact hc))]
    rfl
  | false =>
    rw [chk_none (us := [u, v]) (by simp) (fun j hj => by
      have : j = 0 ∨ j = 1 := by simp at hj; omega
      rcases this with rfl | rfl
      · exact h0
      · exact chkAt_ok (u := v) rfl hv (fun j hj v' hv' => by
          have : j = 0 := by omega
          subst this; simp at hv'; subst hv'; rw [clashU_comm]; exact hc))]
    rfl

/-- what holds of the world while the law runs: nothing old has turned; the law's own boxes hold u and v -/
theorem below_next {w W W' : World} (h : Below w.heap.size w W) (h' : Below W.heap.size W W') : Below w.heap.size w W' := h.trans (h'.mono h.size)
structure SS (w : World) (u v : U) (T : TypeId) (w' : World) : Prop where
  bel : Below w.heap.size w w'
  bu : Blk w' w.heap.size T #[.int .i64 u.t, .int .i64 u.f, .int .i64 u.l]
  bv : Blk w' (w.heap.size + 1) T #[.int .i64 v.t, .int .i64 v.f, .int .i64 v.l]
theorem SS.next {w W W' : World} {u v : U} {T : TypeId} (h : SS w u v T W) (hb : Below W.heap.size W W') : SS w u v T W' := ⟨h.bel.trans (hb.mono h.bel.size), h.bu.belowB hb, h.bv.belowB hb⟩
theorem SS.drew {w W : World} {u v : U} {T : TypeId} (h : SS w u v T W) : SS w u v T W.drew := ⟨h.bel.drew, h.bu, h.bv⟩
theorem SS.drewN {w W : World} {u v : U} {T : TypeId} (h : SS w u v T W) (n : Nat) : SS w u v T (W.drewN n) := ⟨below_drewN h.bel n, h.bu, h.bv⟩
theorem SS.alloc {w W : World} {u v : U} {T : TypeId} (h : SS w u v T W) (o : Obj) : SS w u v T (W.alloc o) := ⟨h.bel.alloc h.bel.size _, h.bu.alloc _, h.bv.alloc _⟩
theorem SS.all {w W : World} {u v : U} {T : TypeId} (h : SS w u v T W) : W.cell? ⟨w.heap.size, 0, none⟩ = some (.int .i64 u.t) ∧ W.cell? ⟨w.heap.size, 1, none⟩ = some (.int .i64 u.f) ∧ W.cell? ⟨w.heap.size, 2, none⟩ = some (.int .i64 u.l) ∧
    W.cell? ⟨w.heap.size + 1, 0, none⟩ = some (.int .i64 v.t) ∧ W.cell? ⟨w.heap.size + 1, 1, none⟩ = some (.int .i64 v.f) ∧ W.cell? ⟨w.heap.size + 1, 2, none⟩ = some (.int .i64 v.l) ∧ SS w u v T W :=
  ⟨h.bu.cell 0, h.bu.cell 1, h.bu.cell 2, h.bv.cell 0, h.bv.cell 1, h.bv.cell 2, h⟩
theorem SS.keep2 {w w2 W W' : World} (h : Hid (Below w2.heap.size w2 W)) (hb : Below W.heap.size W W') : Hid (Below w2.heap.size w2 W') := h.out.trans (hb.mono h.out.size)
theorem SS.drew2 {w2 W : World} (h : Hid (Below w2.heap.size w2 W)) : Hid (Below w2.heap.size w2 W.drew) := h.out.drew
theorem SS.alloc2 {w2 W : World} (h : Hid (Below w2.heap.size w2 W)) (o : Obj) : Hid (Below w2.heap.size w2 (W.alloc o)) := h.out.alloc h.out.size o
theorem SS.grown {w W W' : World} {u v : U} {T : TypeId} {row : Option Nat} (h : SS w u v T W) (hg : W.grownBy W' row) (hr : ∀ k, row = some k → w.heap.size + 2 ≤ k) : SS w u v T W' :=
  ⟨h.bel.grown hg h.bel.size (fun k hk => by have := hr k hk; omega), h.bu.grown hg (fun e => by have := hr _ e.symm; omega), h.bv.grown hg (fun e => by have := hr _ e.symm; omega)⟩
theorem SS.grown2 {w2 W W' : World} {row : Option Nat} (h : Hid (Below w2.heap.size w2 W)) (hg : W.grownBy W' row) (hr : ∀ k, row = some k → w2.heap.size ≤ k) : Hid (Below w2.heap.size w2 W') := h.out.grown hg h.out.size hr
theorem SS.all3 {w W : World} {u v : U} {T : TypeId} {P : Prop} (h : SS w u v T W) (hp : P) : W.cell? ⟨w.heap.size, 0, none⟩ = some (.int .i64 u.t) ∧ W.cell? ⟨w.heap.size, 1, none⟩ = some (.int .i64 u.f) ∧ W.cell? ⟨w.heap.size, 2, none⟩ = some (.int .i64 u.l) ∧ SS w u v T W ∧ P :=
  ⟨h.bu.cell 0, h.bu.cell 1, h.bu.cell 2, h, hp⟩
theorem usesNil (w : World) (B : Nat) (A : Option Addr) : UsesAt w B A [] := fun k u hu => by simp at hu
def wantSum (us : List U) (cc t f l : Int) (j : Nat) : Int := if cc = 0 then busySum (us.take j) t f l else 0
theorem wantSum_all {us : List U} {cc t f l : Int} {n : Nat} (hn : n = us.length) : wantSum us cc t f l n = if cc = 0 then busySum us t f l else 0 := by rw [wantSum, hn, List.take_length]
def bookList (us : List U) (u : U) : List U := if bookErr us u = 0 then us ++ [u] else []
theorem uses_two {w : World} {g : Nat} {t : TypeId} {u v : U} (h : Blk w g t #[.int .i64 u.t, .int .i64 u.f, .int .i64 u.l, .int .i64 v.t, .int .i64 v.f, .int .i64 v.l]) : UsesAt w w.heap.size (some ⟨g, 0, none⟩) [u, v] := by
  intro k x hx
  match k, hx with
  | 0, hx => simp at hx; subst hx; exact ⟨g, 0, rfl, h.lt, h.cell 0, h.cell 1, h.cell 2⟩
  | 1, hx => simp at hx; subst hx; exact ⟨g, 0, rfl, h.lt, h.cell 3, h.cell 4, h.cell 5⟩
  | k+2, hx => simp at hx

set_option maxRecDepth 100000 in
set_option maxHeartbeats 4000000 in
theorem toolsChecks_core (us : List U) (A : Option Addr) (c : Nat) (u v : U) (t f l : Int) (w : World) (hnc : us.length ≤ c) (hm : c ≤ maxLen) (hreach : c * 24 ≤ 140737488351232) (hf : (Lit.int .i64 f).wf = true) (hl : (Lit.int .i64 l).wf = true) (h : UsesAt w w.heap.size A us) :
    Calls Try.prog 4 #[.slice A us.length c, u.v, v.v, .int .i64 t, .int .i64 f, .int .i64 l] w fun e w' => e = .returned (.bool true) ∧ Below w.heap.size w w' := by
  have H := Lib.hid h; clear h
  have HM := Lib.hid hm; clear hm
  have HF := Lib.hid (And.intro hf hl); clear hf hl
  generalize hn : us.length = n at *
  have HN := Lib.hid hn.symm; clear hn
  have KEEP : Hid (∀ {W : World}, Below w.heap.size w W → UsesAt W W.heap.size A us) := fun {W} hb => (H.out.below hb (Nat.le_refl _)).more hb.size
  go_enter Try.func4, Try.ntmps4
  go_wp2_with fail
  refine (fault_any us _ _ _ _ HN.out hnc HM.out (KEEP.out (((Below.refl _ _).alloc (Nat.le_refl _) _).alloc (by simp) _))).mono ?_
  rintro e w1 ⟨rfl, hb1⟩
  have hbw1 : Below w.heap.size w w1 := (((Below.refl _ _).alloc (Nat.le_refl _) _).alloc (by simp) _).trans (hb1.mono (by simp; omega))
  have hbu : Blk w1 w.heap.size 29 #[.int .i64 u.t, .int .i64 u.f, .int .i64 u.l] := ((Blk.new w _ _).alloc _).belowB hb1
  have hbv : Blk w1 (w.heap.size + 1) 29 #[.int .i64 v.t, .int .i64 v.f, .int .i64 v.l] := (Blk.at_ (w := w.alloc (.cells #[.int .i64 u.t, .int .i64 u.f, .int .i64 u.l] 29)) (by simp)).belowB hb1
  have pu0 : w1.cell? ⟨w.heap.size, 0, none⟩ = some (.int .i64 u.t) := hbu.cell 0
  have pu1 : w1.cell? ⟨w.heap.size, 1, none⟩ = some (.int .i64 u.f) := hbu.cell 1
  have pu2 : w1.cell? ⟨w.heap.size, 2, none⟩ = some (.int .i64 u.l) := hbu.cell 2
  have pv0 : w1.cell? ⟨w.heap.size + 1, 0, none⟩ = some (.int .i64 v.t) := hbv.cell 0
  have pv1 : w1.cell? ⟨w.heap.size + 1, 1, none⟩ = some (.int .i64 v.f) := hbv.cell 1
  have pv2 : w1.cell? ⟨w.heap.size + 1, 2, none⟩ = some (.int .i64 v.l) := hbv.cell 2
  have hz1 : w.heap.size < w1.heap.size := hbu.lt
  have hz2 : w.heap.size + 1 < w1.heap.size := hbv.lt
  clear hb1
  go_upto_region 2 with (fail)
  go_cut [14] (fun s14 wc => s14 = .bool (clashU u v) ∧ Hid (Below w.heap.size w wc) ∧ Hid (Blk wc w.heap.size 29 #[.int .i64 u.t, .int .i64 u.f, .int .i64 u.l] ∧ Blk wc (w.heap.size + 1) 29 #[.int .i64 v.t, .int .i64 v.f, .int .i64 v.l]))
  case first =>
    cases hu : okU u with
    | false =>
      have hc : clashU u v = false := by simp [clashU, hu]
      have HU := Lib.hid hu; clear hu
      go_wp2_with fail
      refine (useis_is _ _ _ _ HU.out).mono ?_
      rintro e w2 ⟨rfl, hb2⟩
      go_wp2_with fail
      go_meet
      exact ⟨by rw [hc], hbw1.trans (hb2.mono (by omega)), hbu.belowB hb2, hbv.belowB hb2⟩
    | true =>
      cases hv : okU v with
      | false =>
        have hc : clashU u v = false := by simp [clashU, hv]
        have HU := Lib.hid hu; clear hu
        have HV := Lib.hid hv; clear hv
        go_wp2_with fail
        refine (useis_is _ _ _ _ HU.out).mono ?_
        rintro e w2 ⟨rfl, hb2⟩
        have x0 := (hbv.belowB hb2).cell 0
        have x1 := (hbv.belowB hb2).cell 1
        have x2 := (hbv.belowB hb2).cell 2
        go_wp2_with fail
        refine (useis_is _ _ _ _ HV.out).mono ?_
        rintro e w3 ⟨rfl, hb3⟩
        clear x0 x1 x2
        go_wp2_with fail
        go_meet
        exact ⟨by rw [hc], (hbw1.trans (hb2.mono (by omega))).trans (hb3.mono (by have := hb2.size; omega)), (hbu.belowB hb2).belowB hb3, (hbv.belowB hb2).belowB hb3⟩
      | true =>
        have hc := chk_two hu hv
        generalize hcc : clashU u v = cc at *
        have HCC := Lib.hid hcc; clear hcc
        have HU := Lib.hid hu; clear hu
        have HV := Lib.hid hv; clear hv
        go_wp2_with fail
        refine (useis_is _ _ _ _ HU.out).mono ?_
        rintro e w2 ⟨rfl, hb2⟩
        have x0 := (hbv.belowB hb2).cell 0
        have x1 := (hbv.belowB hb2).cell 1
        have x2 := (hbv.belowB hb2).cell 2
        go_wp2_with fail
        refine (useis_is _ _ _ _ HV.out).mono ?_
        rintro e w3 ⟨rfl, hb3⟩
        clear x0 x1 x2
        have hbu3 := (hbu.belowB hb2).belowB hb3
        have hbv3 := (hbv.belowB hb2).belowB hb3
        have x0 := hbv3.cell 0
        have x1 := hbv3.cell 1
        have x2 := hbv3.cell 2
        have y0 := hbu3.cell 0
        have y1 := hbu3.cell 1
        have y2 := hbu3.cell 2
        go_wp2_with fail
        refine (fault_any [u, v] _ _ _ _ rfl (Nat.le_refl _) (by show 2 ≤ maxLen; unfold maxLen; omega) (uses_two (t := 29) (Blk.new _ _ _))).mono ?_
        rintro e w4 ⟨rfl, hb4⟩
        clear x0 x1 x2 y0 y1 y2
        go_wp2_with fail
        go_meet
        have := hb2.size
        have := hb3.size
        exact ⟨by first | rfl | rw [hc], ((hbw1.trans (hb2.mono (by omega))).trans (hb3.mono (by omega))).trans (((Below.refl _ _).alloc (by omega) _).trans (hb4.mono (by simp; omega))), (hbu3.alloc _).belowB hb4, (hbv3.alloc _).belowB hb4⟩
  case rest =>
    clear pu0 pu1 pu2 pv0 pv1 pv2 hbu hbv hbw1 hz1 hz2
    obtain ⟨rfl, hbw, hblks⟩ := hcut
    obtain ⟨hbu, hbv⟩ := hblks.out
    have hS : SS w u v 29 wc := ⟨hbw.out, hbu, hbv⟩
    clear hbw hblks hbu hbv
    go_wp2_with fail
    go_cut [61] (fun s61 wc => s61 = .bool false ∧ SS w u v 29 wc)
    case first =>
      go_region_held3 (fun w' => w'.cell? ⟨w.heap.size, 0, none⟩ = some (.int .i64 u.t) ∧ w'.cell? ⟨w.heap.size, 1, none⟩ = some (.int .i64 u.f) ∧ w'.cell? ⟨w.heap.size, 2, none⟩ = some (.int .i64 u.l) ∧
          w'.cell? ⟨w.heap.size + 1, 0, none⟩ = some (.int .i64 v.t) ∧ w'.cell? ⟨w.heap.size + 1, 1, none⟩ = some (.int .i64 v.f) ∧ w'.cell? ⟨w.heap.size + 1, 2, none⟩ = some (.int .i64 v.l) ∧ SS w u v 29 w')
        (first | exact SS.all (by assumption) | exact SS.all (SS.drew (by assumption)))
        (first
          | (go_at_call 10; refine (tooled_any _).mono ?_; rintro e w2 ⟨rfl, hb2⟩; have hS2 := SS.next (by first | assumption | exact SS.drew (by assumption) | (go_split_ands; assumption)) hb2)
          | (go_at_call 11; refine (valid_any _ _ _ _).mono ?_; rintro e w3 ⟨rfl, hb3⟩; have hS3 := SS.next (by first | assumption | exact SS.drew (by assumption) | (go_split_ands; assumption)) hb3)
          | (go_at_call 8; refine (useis_any _ _ _ _).mono ?_; rintro e w4 ⟨rfl, hb4⟩; have hS4 := SS.next (by first | assumption | exact SS.drew (by assumption) | (go_split_ands; assumption)) hb4)
          | (go_at_call 12; refine (clash_any u v _).mono ?_; rintro e w5 ⟨rfl, hb5⟩; have hS5 := SS.next (by first | assumption | exact SS.drew (by assumption) | (go_split_ands; assumption)) hb5)
          | (go_at_call 13; refine (check_any us _ _ _ _ HN.out hnc HM.out (KEEP.out (SS.bel (by first | assumption | exact SS.drew (by assumption) | (go_split_ands; assumption))))).mono ?_; rintro e w6 ⟨rfl, hb6⟩; have hS6 := SS.next (by first | assumption | exact SS.drew (by assumption) | (go_split_ands; assumption)) hb6))
      go_wp2_with fail
      go_meet
      exact ⟨rfl, hS6⟩
    case rest =>
      clear hS
      obtain ⟨rfl, hS⟩ := hcut
      have pu0 := hS.bu.cell 0
      have pu1 := hS.bu.cell 1
      have pu2 := hS.bu.cell 2
      go_wp2_with fail
      refine (book_any us _ _ _ u _ HN.out hnc HM.out (KEEP.out hS.bel)).mono ?_
      rintro e w2 ⟨vk, rfl, hb2, hvk⟩
      have hS2 := SS.next hS hb2
      have HVK := Lib.hid hvk; clear hvk pu0 pu1 pu2
      have pu0 := hS2.bu.cell 0
      have pu1 := hS2.bu.cell 1
      have pu2 := hS2.bu.cell 2
      go_wp2_with fail
      have hD : Hid (Below w2.heap.size w2 w2) := Below.refl _ _
      have hz2 := hS2.bel.size
      have hz3 := hS2.bv.lt
      obtain ⟨i0, hi0, hy0, hy1, hy2⟩ := info_parts infoUseG
      go_cut [18] (fun s18 wc => wc.ownsRow w.heap.size 29 3 s18 (us ++ [u]).length (cellsU (us ++ [u])) ∧ SS w u v 29 wc ∧ Hid (Below w2.heap.size w2 wc))
      case first =>
        go_region_held3 (fun w' => w'.cell? ⟨w.heap.size, 0, none⟩ = some (.int .i64 u.t) ∧ w'.cell? ⟨w.heap.size, 1, none⟩ = some (.int .i64 u.f) ∧ w'.cell? ⟨w.heap.size, 2, none⟩ = some (.int .i64 u.l) ∧ SS w u v 29 w' ∧ Hid (Below w2.heap.size w2 w'))
          (first | exact SS.all3 (by assumption) (by assumption) | exact SS.all3 (SS.drew (by assumption)) (SS.drew2 (by assumption)) | (go_split_ands; exact SS.all3 (SS.alloc (by assumption) _) (SS.alloc2 (by assumption) _)) | (go_split_ands; exact SS.all3 (SS.drew (SS.alloc (by assumption) _)) (SS.drew2 (SS.alloc2 (by assumption) _))))
          (first
            | (go_at_call 15; refine (cloneU_any us _ _ _ _ HN.out hnc HM.out hreach (KEEP.out (SS.bel (u := u) (v := v) (T := 29) (by first | assumption | exact SS.drew (by assumption) | (go_split_ands; assumption))))).mono ?_; rintro e w3 ⟨vc, rfl, hown3, hb3⟩; have hS3 := SS.next (u := u) (v := v) (T := 29) (by first | assumption | exact SS.drew (by assumption) | (go_split_ands; assumption)) hb3; have hD3 := SS.keep2 (w := w) (w2 := w2) (by first | assumption | exact SS.drew2 (by assumption) | (go_split_ands; assumption)) hb3; go_must (have hown4 := own_mono hown3 (Hid.out (p := Below w2.heap.size w2 _) (by first | assumption | exact SS.drew2 (by assumption) | (go_split_ands; assumption))).size))
            | (refine step_append_any _ rfl (.tmp 70) (.tmp 72) _ rfl w2.heap.size 29 i0 _ 3 24 Try.underlying22 hi0 hy0 hy1 hy2 rfl (by omega) vc us.length (cellsU us) rfl (by first | exact hown4 | exact hown4.alloc _) _ _ 1 1 (cellsU [u]) rfl (Blk.reads (t := 29) (cs := #[.int .i64 u.t, .int .i64 u.f, .int .i64 u.l]) (by first | exact Blk.new _ _ _ | exact (Blk.new _ _ _).belowB hb3 | exact (Blk.new _ _ _).drew.belowB hb3) rfl rfl) (cellsU_oneCell _) (by rw [← HN.out]; unfold maxLen; omega) (by rw [← HN.out]; omega) (by have := hD3.out.size; first | omega | (simp; omega)) ?_
               intro v5 w5 hown5 hg5 hat5
               have hlt5 := hown4.lt
               have hS5 := SS.grown (u := u) (v := v) (T := 29) (w := w) (by first | exact hS3 | exact SS.alloc hS3 _) hg5 (fun k hk => by have := (hlt5 k hk).1; omega)
               have hD5 := SS.grown2 (w2 := w2) (by first | exact hD3 | exact SS.alloc2 hD3 _) hg5 (fun k hk => (hlt5 k hk).1))
            | fail)
        all_goals
          go_wp2_with fail
          go_meet
          refine ⟨?_, hS5, hD5⟩
          have := own_mono hown5 (by omega : w.heap.size ≤ w2.heap.size)
          rw [cellsU_append]
          simpa using this
      case rest =>
        clear pu0 pu1 pu2 hS hS2 hD
        obtain ⟨hown, hS, hD⟩ := hcut
        obtain ⟨Aa, ca, rfl, hla, hma, hua⟩ := UsesAt.of_own hown
        have HUA := Lib.hid hua; clear hua hown
        have HX : Hid (∃ Ak ck, vk = .slice Ak (bookList us u).length ck ∧ UsesAt wc wc.heap.size Ak (bookList us u)) := by
          rcases HVK.out with ⟨hne, rfl⟩ | ⟨h0, hown⟩
          · exact ⟨none, 0, by simp [bookList, hne], by rw [bookList, if_neg hne]; exact usesNil _ _ _⟩
          · obtain ⟨Ak, ck, rfl, _, _, hu⟩ := UsesAt.of_own (own_below hown hD.out)
            exact ⟨Ak, ck, by rw [bookList, if_pos h0], by rw [bookList, if_pos h0]; exact hu⟩
        clear HVK
        have hw2 := hD.out.size
        clear hD
        generalize hna : (us ++ [u]).length = na at *
        have HNA := Lib.hid hna.symm; clear hna
        generalize hcc : chk us = cc at *
        have HCC := Lib.hid hcc; clear hcc
        go_upto_if 75 with (fail)
        go_cut [17] (fun s17 wc' => s17 = .int .i64 (bookErr us u) ∧ SS w u v 29 wc' ∧ Hid (Below wc.heap.size wc wc'))
        case first =>
          by_cases hcz : cc = 0
          · have hcb : (cc == 0) = true := by simpa using hcz
            have hbe : bookErr us u = chk (us ++ [u]) := by simp [bookErr, HCC.out, hcz]
            have HBE := Lib.hid hbe; clear hbe hcz
            go_wp2_with fail
            refine (fault_any (us ++ [u]) _ _ _ _ HNA.out hla hma HUA.out).mono ?_
            rintro e w3 ⟨rfl, hb3⟩
            go_wp2_with fail
            go_meet
            exact ⟨by rw [HBE.out], hS.next hb3, hb3⟩
          · have hcb : (cc == 0) = false := by simpa using hcz
            have hbe : bookErr us u = cc := by simp [bookErr, HCC.out, hcz]
            have HBE := Lib.hid hbe; clear hbe hcz
            go_wp2_with fail
            go_meet
            exact ⟨by rw [HBE.out], hS, Below.refl _ _⟩
        case rest =>
          obtain ⟨rfl, hS', hD'⟩ := hcut
          have HUA' := Lib.hid ((HUA.out.below hD'.out (Nat.le_refl _)).more hD'.out.size)
          obtain ⟨Ak, ck, rfl, hk⟩ := HX.out
          have HK := Lib.hid ((hk.below hD'.out (Nat.le_refl _)).more hD'.out.size)
          clear hk HX HUA hS hD'
          obtain ⟨wb, rfl⟩ : ∃ wb : World, wb = wc := ⟨_, rfl⟩
          generalize hnb : (bookList us u).length = nb at *
          have HNB := Lib.hid hnb.symm; clear hnb
          go_upto_if 79 with (fail)
          go_cut [18] (fun s18 wc => wb = wc ∧ ∃ Aa ca, s18 = .slice Aa nb ca ∧ Hid (UsesAt wb wb.heap.size Aa (bookList us u)))
          case first =>
            by_cases hbz : bookErr us u = 0
            · have hbb : (bookErr us u != 0) = false := by simpa using hbz
              have hbl : bookList us u = us ++ [u] := by rw [bookList, if_pos hbz]
              have HBL := Lib.hid hbl; clear hbl hbz
              go_wp2_with fail
              go_meet
              exact ⟨rfl, Aa, ca, by rw [HNB.out, HBL.out, ← HNA.out], by rw [HBL.out]; exact HUA'.out⟩
            · have hbb : (bookErr us u != 0) = true := by simpa using hbz
              have hbl : bookList us u = [] := by rw [bookList, if_neg hbz]
              have HBL := Lib.hid hbl; clear hbl hbz
              go_wp2_with fail
              go_meet
              exact ⟨rfl, none, 0, by rw [HNB.out, HBL.out]; rfl, by rw [HBL.out]; exact usesNil _ _ _⟩
          case rest =>
            obtain ⟨rfl, Ab, cb, rfl, HUB⟩ := hcut
            clear HUA'
            go_wp2_with fail
            refine (busy_any us _ _ _ t f l _ HN.out hnc HM.out HF.out.1 HF.out.2 (KEEP.out hS'.bel)).mono ?_
            rw [HCC.out, ← wantSum_all HN.out]
            rintro e w4 ⟨rfl, hb4⟩
            have hS4 := hS'.next hb4
            have hk4 := Lib.hid ((HK.out.below hb4 (Nat.le_refl _)).more hb4.size)
            have hub4 := Lib.hid ((HUB.out.below hb4 (Nat.le_refl _)).more hb4.size)
            clear hb4 HK HUB hS'
            generalize hws : wantSum us cc t f l n = ws
            have HWS := Lib.hid hws; clear hws
            have hbf := wf_i64 HF.out.1
            have hbl := wf_i64 HF.out.2
            obtain ⟨f0, f1⟩ := hbf
            obtain ⟨l0, l1⟩ := hbl
            unfold maxLen at HM
            have hmm := HM.out
            go_wp2_with fail
            go_loopg [21, 90] n (fun k s i wr => ∃ j : Nat, k = n - j ∧ j ≤ n ∧ i = .int .i64 j ∧ s = .int .i64 (wantSum us cc t f l j) ∧ Hid (Below w4.heap.size w4 wr))
            case atStart => exact ⟨0, by omega, Nat.zero_le _, rfl, by simp [wantSum, busySum], Below.refl _ _⟩
            case round =>
              obtain ⟨j, hgk, hj, rfl, rfl, hbel⟩ := hrel
              have HGK := Lib.hid hgk; clear hgk
              by_cases hlt : j < n
              · obtain ⟨x, hx⟩ := get_of_lt HN.out hlt
                obtain ⟨bb, off, rfl, hb, h0, h1, h2⟩ := H.out j x hx
                have hbx := below_next hS4.bel hbel.out
                have g0 := (hbx.cell (p := ⟨bb, off + j*3, none⟩) hb).trans h0
                have g1 := (hbx.cell (p := ⟨bb, off + j*3+1, none⟩) hb).trans h1
                have g2 := (hbx.cell (p := ⟨bb, off + j*3+2, none⟩) hb).trans h2
                clear h0 h1 h2 hbx
                have hz := hbel.out.size
                have HXX := Lib.hid hx; clear hx
                by_cases hcz : cc = 0
                · have hcb : (cc == 0) = true := by simpa using hcz
                  have hc0 : chk us = 0 := by rw [HCC.out]; exact hcz
                  have h60 := (chk_zero hc0).1
                  have hok := all_ok hc0 x (List.mem_of_getElem? HXX.out)
                  have hbd := busySum_bd (us := us.take j) (fun y hy => all_ok hc0 y (List.mem_of_mem_take hy)) t f l
                  rw [← HN.out] at h60
                  have hlen : (us.take j).length ≤ 60 := by rw [List.length_take, ← HN.out]; omega
                  have hwj : wantSum us cc t f l j = busySum (us.take j) t f l := by simp [wantSum, hcz]
                  have hwj1 : wantSum us cc t f l (j+1) = busySum (us.take j) t f l + if x.t = t then over x f l else 0 := by
                    simp only [wantSum, hcz, if_true]; rw [take_succ_of HXX.out]; exact busySum_snoc _ _ _ _ _
                  generalize hss : busySum (us.take j) t f l = ss at *
                  have HWJ1 := Lib.hid hwj1; clear hwj1
                  have HSS := Lib.hid hss; clear hss
                  rw [hwj]
                  clear hwj
                  obtain ⟨s0, s1⟩ := hbd
                  obtain ⟨q1, q2, q3, q4, q5, q6⟩ := okU_iff.1 hok
                  obtain ⟨xt, xf, xl⟩ := x
                  dsimp only at g0 g1 g2 q1 q2 q3 q4 q5 q6
                  have HCZ := Lib.hid (And.intro hcz (And.intro hc0 hok)); clear hcz hc0 hok
                  by_cases htt : xt = t
                  · have htb : (xt == t) = true := by simp [htt]
                    have HTT := Lib.hid htt; clear htt
                    go_wp2_with fail
                    have hcs : Hid ((wr.alloc (.cells #[.int .i64 xt, .int .i64 xf, .int .i64 xl] 29)).cell? ⟨wr.heap.size, 0, none⟩ = some (.int .i64 xt) ∧ (wr.alloc (.cells #[.int .i64 xt, .int .i64 xf, .int .i64 xl] 29)).cell? ⟨wr.heap.size, 1, none⟩ = some (.int .i64 xf) ∧ (wr.alloc (.cells #[.int .i64 xt, .int .i64 xf, .int .i64 xl] 29)).cell? ⟨wr.heap.size, 2, none⟩ = some (.int .i64 xl)) := ⟨by simp, by simp, by simp⟩
                    have hbw : Hid (Below w4.heap.size w4 (wr.alloc (.cells #[.int .i64 xt, .int .i64 xf, .int .i64 xl] 29))) := hbel.out.alloc hz _
                    generalize hW : wr.alloc (.cells #[.int .i64 xt, .int .i64 xf, .int .i64 xl] 29) = wa at *
                    generalize hg : wr.heap.size = g at *
                    clear hW hg g0 g1 g2
                    obtain ⟨e0, e1, e2⟩ := hcs.out
                    go_loopg [21, 24] (xl.toNat) (fun k s i wi => wa = wi ∧ ∃ y : Int, k = (xf + xl - y).toNat ∧ xf ≤ y ∧ y ≤ xf + xl ∧ i = .int .i64 y ∧ s = .int .i64 (ss + max (min y (max l 0) - max xf f) 0))
                    case atStart => exact ⟨rfl, xf, by congr 1; omega, by omega, by omega, rfl, by congr 1; omega⟩
                    case round =>
                      obtain ⟨rfl, y, hgk2, hy0, hy1, rfl, rfl⟩ := hrel
                      have HGK2 := Lib.hid hgk2; clear hgk2
                      have b0 : 0 ≤ max (min y (max l 0) - max xf f) 0 := by omega
                      have b1 : max (min y (max l 0) - max xf f) 0 ≤ 2000 := by omega
                      generalize hm0 : max (min y (max l 0) - max xf f) 0 = m0 at *
                      have HM0 := Lib.hid hm0; clear hm0
                      by_cases hy2 : y < xf + xl
                      · by_cases hfy : f ≤ y
                        · by_cases hyl : y < l
                          · go_wp2_with fail
                            go_roundg ((xf + xl - (y + 1)).toNat)
                            case measure => rw [HGK2.out]; omega
                            case rel => exact ⟨rfl, y + 1, rfl, by omega, by omega, rfl, by have := HM0.out; congr 1; omega⟩
                          · go_wp2_with fail
                            go_roundg ((xf + xl - (y + 1)).toNat)
                            case measure => rw [HGK2.out]; omega
                            case rel => exact ⟨rfl, y + 1, rfl, by omega, by omega, rfl, by have := HM0.out; congr 1; omega⟩
                        · go_wp2_with fail
                          go_roundg ((xf + xl - (y + 1)).toNat)
                          case measure => rw [HGK2.out]; omega
                          case rel => exact ⟨rfl, y + 1, rfl, by omega, by omega, rfl, by have := HM0.out; congr 1; omega⟩
                      · go_wp2_with fail
                        go_roundg (n - (j + 1))
                        case measure => rw [HGK.out]; omega
                        case rel =>
                          refine ⟨j+1, rfl, by omega, by go_num, ?_, hbw.out⟩
                          rw [HWJ1.out, if_pos HTT.out]
                          have := HM0.out
                          have : over ⟨xt, xf, xl⟩ f l = max (min (xf + xl) (max l 0) - max xf f) 0 := rfl
                          rw [this]
                          congr 1
                          omega
                  · have htb : (xt == t) = false := by simp [htt]
                    have HTT := Lib.hid htt; clear htt
                    go_wp2_with fail
                    refine wp_loop_once ?_
                    go_wp2_with fail
                    go_roundg (n - (j + 1))
                    case measure => rw [HGK.out]; omega
                    case rel => exact ⟨j+1, rfl, by omega, by go_num, by rw [HWJ1.out, if_neg HTT.out]; go_num, hbel.out.alloc hz _⟩
                · have hcb : (cc == 0) = false := by simpa using hcz
                  have hws : wantSum us cc t f l (j+1) = wantSum us cc t f l j := by simp [wantSum, hcz]
                  have HW := Lib.hid hws; clear hws
                  have HCZ := Lib.hid hcz; clear hcz
                  go_wp2_with fail
                  refine wp_loop_once ?_
                  go_wp2_with fail
                  go_roundg (n - (j + 1))
                  case measure => rw [HGK.out]; omega
                  case rel => exact ⟨j+1, rfl, by omega, by go_num, by rw [HW.out], hbel.out.alloc hz _⟩
              · obtain rfl : j = n := by omega
                rw [HWS.out]
                go_wp2_with fail
                refine (equalU_any (bookList us u) _ _ _ _ _ _ _ HNB.out HNB.out ?_ ((hk4.out.below hbel.out (Nat.le_refl _)).more hbel.out.size) ((hub4.out.below hbel.out (Nat.le_refl _)).more hbel.out.size)).mono ?_
                · rw [HNB.out]
                  unfold bookList
                  split
                  · rw [← HNA.out, HNA.out, List.length_append, ← HN.out]; simp; omega
                  · simp
                rintro e w5 ⟨rfl, hb5⟩
                go_wp2_with fail
                go_ret
                exact ⟨rfl, below_next (below_next hS4.bel hbel.out) hb5⟩

end Go.Proofs.Ytkoibebejhmpaaa
