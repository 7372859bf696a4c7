/- Facts: slices.Index and Contains, Has. -/
import Derived.Test.YtnaiflokmihmeaaFacG
namespace Go.Proofs.Ytnaiflokmihmeaa
open Go.RowKit
set_option linter.unusedVariables false
set_option linter.unusedSimpArgs false

def IdxF (l : List Ft) (x : Ft) (w : World) (e : Ending) (w' : World) : Prop := ∃ r : Int, e = .returned (.int .i64 r) ∧ (0 ≤ r ↔ x ∈ l) ∧ Below w.heap.size w w'
set_option maxHeartbeats 2000000 in
theorem indexF_any (l : List Ft) (A : Option Addr) (n c : Nat) (x : Ft) (w : World) (hn : n = l.length) (hm : n ≤ 9223372036854775807) (h : FactsAt w w.heap.size A l) :
    Calls Try.prog 66 #[.slice A n c, valF x] w (IdxF l x w) := by
  have HN := Lib.hid hn; clear hn
  have H := Lib.hid h; clear h
  obtain ⟨xk, xa, xb⟩ := x
  unfold valF
  dsimp only
  go_enter Try.func66, Try.ntmps66
  go_wp2_with fail
  have HW := Lib.hid (And.intro ((Below.refl w.heap.size w).alloc (Nat.le_refl _) (.cells #[.int .i64 xk, .int .i64 xa, .int .i64 xb] 45)) (Blk.new w 45 #[.int .i64 xk, .int .i64 xa, .int .i64 xb]))
  go_loopg [8] n (fun k i wr => ∃ j : Nat, k = n - j ∧ j ≤ n ∧ i = .int .i64 j ∧ Hid (Below w.heap.size w wr ∧ Blk wr w.heap.size 45 #[.int .i64 xk, .int .i64 xa, .int .i64 xb]) ∧ Hid (∀ i, i < j → ∀ p, l[i]? = some p → p ≠ ⟨xk, xa, xb⟩))
  case atStart => exact ⟨0, by omega, Nat.zero_le _, rfl, HW.out, Lib.hid (fun i hi => by omega)⟩
  case round =>
    clear HW
    obtain ⟨j, hgk, hj, rfl, hbk, hall⟩ := hrel
    have HGK := Lib.hid hgk; clear hgk
    by_cases hlt : j < n
    · obtain ⟨⟨pk, pa, pb⟩, hp⟩ := get_of_lt HN.out hlt
      obtain ⟨b, off, rfl, hb, h0, h1, h2⟩ := H.out.three hp
      have g0 := (hbk.out.1.cell (p := ⟨b, off + j*3, none⟩) hb).trans h0
      have g1 := (hbk.out.1.cell (p := ⟨b, off + j*3+1, none⟩) hb).trans h1
      have g2 := (hbk.out.1.cell (p := ⟨b, off + j*3+2, none⟩) hb).trans h2
      have g3 := hbk.out.2.cell 0
      have g4 := hbk.out.2.cell 1
      have g5 := hbk.out.2.cell 2
      simp at g3 g4 g5
      have HP := Lib.hid hp; clear hp h0 h1 h2
      dsimp only at g0 g1 g2
      have i1 : (0 : Int) ≤ (j : Int) := by omega
      have i2 : (j : Int) < (n : Int) := by omega
      by_cases hx : (⟨xk, xa, xb⟩ : Ft) = ⟨pk, pa, pb⟩
      · have heq := equal_ft xk xa xb pk pa pb (decide_eq_true hx)
        have heq2 := equal_ft2 xk xa xb pk pa pb (decide_eq_true hx)
        have HM : Hid ((⟨xk, xa, xb⟩ : Ft) ∈ l) := Lib.hid (by rw [hx]; exact List.mem_of_getElem? HP.out)
        clear hx
        go_wp2_with fail
        go_quiet (fail)
        go_wp2_with fail
        go_ret
        exact ⟨(j : Int), rfl, ⟨fun _ => HM.out, fun _ => by omega⟩, below_drewN hbk.out.1 _⟩
      · have heq := equal_ft xk xa xb pk pa pb (decide_eq_false hx)
        have heq2 := equal_ft2 xk xa xb pk pa pb (decide_eq_false hx)
        have HNE : Hid (∀ z, l[j]? = some z → z ≠ ⟨xk, xa, xb⟩) := Lib.hid (fun z hz e => by rw [HP.out] at hz; rw [← Option.some.inj hz] at e; exact hx e.symm)
        clear hx
        go_wp2_with fail
        go_quiet (fail)
        go_wp2_with fail
        go_roundg (n - (j + 1))
        case measure => rw [HGK.out]; omega
        case rel => exact ⟨j+1, rfl, by omega, by go_num, ⟨below_drewN hbk.out.1 _, hbk.out.2.drewN _⟩, Lib.hid (forall_lt_succ hall.out HNE.out)⟩
    · obtain rfl : j = n := by omega
      have HNM : Hid ((⟨xk, xa, xb⟩ : Ft) ∉ l) := Lib.hid (fun hm => by
        obtain ⟨i, hi⟩ := List.mem_iff_getElem?.1 hm
        exact hall.out i (by rw [HN.out]; exact (List.getElem?_eq_some_iff.1 hi).1) _ hi rfl)
      go_wp2_with fail
      go_ret
      exact ⟨-1, rfl, ⟨fun h => by omega, fun h => absurd h HNM.out⟩, hbk.out.1⟩
set_option maxHeartbeats 2000000 in
theorem containsF_any (l : List Ft) (A : Option Addr) (n c : Nat) (x : Ft) (w : World) (hn : n = l.length) (hm : n ≤ 9223372036854775807) (h : FactsAt w w.heap.size A l) :
    Calls Try.prog 19 #[.slice A n c, valF x] w fun e w' => e = .returned (.bool (decide (x ∈ l))) ∧ Below w.heap.size w w' := by
  have HC := Lib.hid (fun W (hb : Below w.heap.size w W) => indexF_any l A n c x W hn hm (h.next hb))
  obtain ⟨xk, xa, xb⟩ := x
  unfold valF at HC ⊢
  dsimp only at HC ⊢
  have HB := Lib.hid ((Below.refl w.heap.size w).alloc (Nat.le_refl _) (.cells #[.int .i64 xk, .int .i64 xa, .int .i64 xb] 45))
  clear hn h
  go_enter Try.func19, Try.ntmps19
  go_wp2_with fail
  refine (HC.out _ HB.out).mono ?_
  rintro e w' ⟨r, rfl, hr, hb⟩
  have HR := Lib.hid hr; clear hr
  have HB2 := Lib.hid (HB.out.trans (hb.mono HB.out.size)); clear hb
  go_wp2_with fail
  go_ret
  exact ⟨ret_bool (by simp [HR.out]), HB2.out⟩
set_option maxHeartbeats 2000000 in
theorem hasF_any (l : List Ft) (A : Option Addr) (n c : Nat) (x : Ft) (w : World) (hn : n = l.length) (hm : n ≤ 9223372036854775807) (h : FactsAt w w.heap.size A l) :
    Calls Try.prog 29 #[.slice A n c, valF x] w fun e w' => e = .returned (.bool (decide (x ∈ l))) ∧ Below w.heap.size w w' := by
  have HC := Lib.hid (fun W (hb : Below w.heap.size w W) => containsF_any l A n c x W hn hm (h.next hb))
  obtain ⟨xk, xa, xb⟩ := x
  unfold valF at HC ⊢
  dsimp only at HC ⊢
  have HB := Lib.hid ((Below.refl w.heap.size w).alloc (Nat.le_refl _) (.cells #[.int .i64 xk, .int .i64 xa, .int .i64 xb] 45))
  clear hn h
  generalize decide ((⟨xk, xa, xb⟩ : Ft) ∈ l) = r at *
  go_enter Try.func29, Try.ntmps29
  go_wp2_with fail
  refine (HC.out _ HB.out).mono ?_
  rintro e w' ⟨rfl, hb⟩
  have HB2 := Lib.hid (HB.out.trans (hb.mono HB.out.size)); clear hb
  go_wp2_with fail
  go_ret
  exact ⟨rfl, HB2.out⟩
end Go.Proofs.Ytnaiflokmihmeaa
