/- Facts: Within, by its closure. -/
import Derived.Test.YtnaiflokmihmeaaFacW
import Derived.OwnWalk
namespace Go.Proofs.Ytnaiflokmihmeaa
open Go.RowKit
set_option linter.unusedVariables false
set_option linter.unusedSimpArgs false

set_option maxHeartbeats 2000000 in
theorem within1_any (lb : List Ft) (B : Option Addr) (m cb p : Nat) (x : Ft) (w : World) (hm : m = lb.length) (hs2 : m ≤ 1100000) (hB : FactsAt w w.heap.size B lb) (hp : Blk w p 43 #[.slice B m cb]) :
    Calls Try.prog 72 #[valF x, .pointer (some ⟨p, 0, none⟩)] w fun e w' => e = .returned (.bool (!decide (x ∈ lb))) ∧ Below w.heap.size w w' := by
  have HC := Lib.hid (fun W (hb : Below w.heap.size w W) => hasF_any lb B m cb x W hm (by omega) (hB.next hb))
  obtain ⟨xk, xa, xb⟩ := x
  unfold valF at HC ⊢
  dsimp only at HC ⊢
  have HB := Lib.hid ((Below.refl w.heap.size w).alloc (Nat.le_refl _) (.cells #[.int .i64 xk, .int .i64 xa, .int .i64 xb] 45))
  have HP := Lib.hid hp
  have hplt := hp.lt
  clear hm hB hp
  generalize decide ((⟨xk, xa, xb⟩ : Ft) ∈ lb) = r at *
  go_enter Try.func72, Try.ntmps72
  have k0 := (HP.out.belowB HB.out).cell 0
  simp at k0
  go_wp2_with fail
  refine (HC.out _ HB.out).mono ?_
  rintro e w' ⟨rfl, hb⟩
  have HB2 := Lib.hid (HB.out.trans (hb.mono HB.out.size)); clear hb
  go_wp2_with fail
  go_ret
  exact ⟨rfl, HB2.out⟩
def OutF (la lb : List Ft) (w : World) (e : Ending) (w' : World) : Prop := ∃ r : Int, e = .returned (.int .i64 r) ∧ (0 ≤ r ↔ ∃ x ∈ la, x ∉ lb) ∧ Below w.heap.size w w'
set_option maxHeartbeats 2000000 in
theorem indexOut_any (la lb : List Ft) (A B : Option Addr) (n m ca cb p : Nat) (w : World) (hn : n = la.length) (hm : m = lb.length) (hs : n ≤ 1100000) (hs2 : m ≤ 1100000) (hA : FactsAt w w.heap.size A la) (hB : FactsAt w w.heap.size B lb) (hp : Blk w p 43 #[.slice B m cb]) :
    Calls Try.prog 99 #[.slice A n ca, .func (.func 72) #[] #[.pointer (some ⟨p, 0, none⟩)]] w (OutF la lb w) := by
  have HC := Lib.hid (fun x W (hb : Below w.heap.size w W) => within1_any lb B m cb p x W hm hs2 (hB.next hb) (hp.belowB hb))
  have HN := Lib.hid hn; clear hn
  have H := Lib.hid hA; clear hA
  clear hm hB hp
  go_enter Try.func99, Try.ntmps99
  go_wp2_with fail
  go_loopg [8] n (fun k i wr => ∃ j : Nat, k = n - j ∧ j ≤ n ∧ i = .int .i64 j ∧ Hid (Below w.heap.size w wr) ∧ Hid (∀ i, i < j → ∀ x, la[i]? = some x → x ∈ lb))
  case atStart => exact ⟨0, by omega, Nat.zero_le _, rfl, Below.refl _ _, Lib.hid (fun i hi => by omega)⟩
  case round =>
    obtain ⟨j, hgk, hj, rfl, hbk, hall⟩ := hrel
    have HGK := Lib.hid hgk; clear hgk
    by_cases hlt : j < n
    · obtain ⟨⟨pk, pa, pb⟩, hpx⟩ := get_of_lt HN.out hlt
      obtain ⟨b, off, rfl, hb, h0, h1, h2⟩ := H.out.three hpx
      have g0 := (hbk.out.cell (p := ⟨b, off + j*3, none⟩) hb).trans h0
      have g1 := (hbk.out.cell (p := ⟨b, off + j*3+1, none⟩) hb).trans h1
      have g2 := (hbk.out.cell (p := ⟨b, off + j*3+2, none⟩) hb).trans h2
      have HP := Lib.hid hpx; clear hpx h0 h1 h2
      dsimp only at g0 g1 g2
      have i1 : (0 : Int) ≤ (j : Int) := by omega
      have i2 : (j : Int) < (n : Int) := by omega
      have HV := Lib.hid (fun W hb => HC.out ⟨pk, pa, pb⟩ W hb)
      unfold valF at HV
      dsimp only at HV
      by_cases hx : (⟨pk, pa, pb⟩ : Ft) ∈ lb
      · have HNE : Hid (∀ z, la[j]? = some z → z ∈ lb) := Lib.hid (fun z hz => by rw [HP.out] at hz; rw [← Option.some.inj hz]; exact hx)
        rw [decide_eq_true hx] at HV
        clear hx
        go_wp2_with fail
        refine (HV.out _ hbk.out).mono ?_
        rintro e w2 ⟨rfl, hb2⟩
        have HB2 := Lib.hid (hbk.out.trans (hb2.mono hbk.out.size)); clear hb2
        go_wp2_with fail
        go_roundg (n - (j + 1))
        case measure => rw [HGK.out]; omega
        case rel => exact ⟨j+1, rfl, by omega, by go_num, HB2.out, Lib.hid (forall_lt_succ hall.out HNE.out)⟩
      · have HM : Hid (∃ x ∈ la, x ∉ lb) := Lib.hid ⟨_, List.mem_of_getElem? HP.out, hx⟩
        rw [decide_eq_false hx] at HV
        clear hx
        go_wp2_with fail
        refine (HV.out _ hbk.out).mono ?_
        rintro e w2 ⟨rfl, hb2⟩
        have HB2 := Lib.hid (hbk.out.trans (hb2.mono hbk.out.size)); clear hb2
        go_wp2_with fail
        go_ret
        exact ⟨(j : Int), rfl, ⟨fun _ => HM.out, fun _ => by omega⟩, HB2.out⟩
    · obtain rfl : j = n := by omega
      have HNM : Hid (¬ ∃ x ∈ la, x ∉ lb) := Lib.hid (fun ⟨x, hm, hx⟩ => by
        obtain ⟨i, hi⟩ := List.mem_iff_getElem?.1 hm
        exact hx (hall.out i (by rw [HN.out]; exact (List.getElem?_eq_some_iff.1 hi).1) _ hi))
      go_wp2_with fail
      go_ret
      exact ⟨-1, rfl, ⟨fun h => by omega, fun h => absurd h HNM.out⟩, hbk.out⟩
set_option maxHeartbeats 2000000 in
theorem containsOut_any (la lb : List Ft) (A B : Option Addr) (n m ca cb p : Nat) (w : World) (hn : n = la.length) (hm : m = lb.length) (hs : n ≤ 1100000) (hs2 : m ≤ 1100000) (hA : FactsAt w w.heap.size A la) (hB : FactsAt w w.heap.size B lb) (hp : Blk w p 43 #[.slice B m cb]) :
    Calls Try.prog 71 #[.slice A n ca, .func (.func 72) #[] #[.pointer (some ⟨p, 0, none⟩)]] w fun e w' => e = .returned (.bool (!la.all fun x => decide (x ∈ lb))) ∧ Below w.heap.size w w' := by
  have HC := Lib.hid (indexOut_any la lb A B n m ca cb p w hn hm hs hs2 hA hB hp)
  clear hn hm hA hB hp
  go_enter Try.func71, Try.ntmps71
  go_wp2_with fail
  refine HC.out.mono ?_
  rintro e w' ⟨r, rfl, hr, hb⟩
  have HR := Lib.hid hr; clear hr
  have HB2 := Lib.hid hb; clear hb
  go_wp2_with fail
  go_ret
  refine ⟨ret_bool ?_, HB2.out⟩
  rw [Bool.eq_iff_iff]
  simp [HR.out]
set_option maxHeartbeats 2000000 in
theorem withinF_any (la lb : List Ft) (A B : Option Addr) (n m ca cb : Nat) (w : World) (hn : n = la.length) (hm : m = lb.length) (hs : n ≤ 1100000) (hs2 : m ≤ 1100000) (hA : FactsAt w w.heap.size A la) (hB : FactsAt w w.heap.size B lb) :
    Calls Try.prog 34 #[.slice A n ca, .slice B m cb] w fun e w' => e = .returned (.bool (la.all fun x => decide (x ∈ lb))) ∧ Below w.heap.size w w' := by
  have hb0 : Below w.heap.size w (w.alloc (.cells #[.slice B m cb] 43)) := (Below.refl _ _).alloc (Nat.le_refl _) _
  have HC := Lib.hid (containsOut_any la lb A B n m ca cb w.heap.size _ hn hm hs hs2 (hA.next hb0) (hB.next hb0) (Blk.new w _ _))
  have HB0 := Lib.hid hb0
  clear hA hB hn hm hb0
  generalize (la.all fun x => decide (x ∈ lb)) = r at *
  go_enter Try.func34, Try.ntmps34
  go_wp2_with fail
  refine HC.out.mono ?_
  rintro e w' ⟨rfl, hb⟩
  have HB2 := Lib.hid (HB0.out.trans (hb.mono HB0.out.size)); clear hb
  go_wp2_with fail
  go_ret
  exact ⟨ret_bool (by simp), HB2.out⟩
end Go.Proofs.Ytnaiflokmihmeaa
