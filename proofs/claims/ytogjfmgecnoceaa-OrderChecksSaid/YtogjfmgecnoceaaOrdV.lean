/- Walks: Apply (package order). -/
import Derived.Test.YtogjfmgecnoceaaOrdU
import Derived.Test.YtogjfmgecnoceaaOrdS
import Derived.Test.YtogjfmgecnoceaaOrdI
namespace Go.Proofs.Ytogjfmgecnoceaa
open Go.RowKit
set_option linter.unusedVariables false
set_option linter.unusedSimpArgs false

def OneOk (n : Nat) (p : List Int) (i : Nat) (k : Int) : Prop := 0 ≤ k ∧ k < n ∧ k ∉ p.take i
def PermP (n : Nat) (p : List Int) : Prop := p.length = n ∧ ∀ (i : Nat) k, p[i]? = some k → OneOk n p i k
open Classical in
noncomputable def appE (n : Nat) (p : List Int) : Int := if p.length ≠ n then 3 else if PermP n p then 0 else 1
def getS (ls : List Sp) (k : Int) : Sp := (ls[k.toNat]?).getD ⟨0, 0, 0, 0, 0⟩
def appL (ls : List Sp) (p : List Int) : List Sp := p.map (getS ls)
open Classical in
noncomputable def appR (ls : List Sp) (p : List Int) : List Sp := if PermP ls.length p then appL ls p else []
theorem appE_len {n : Nat} {p : List Int} (h : p.length ≠ n) : appE n p = 3 := by unfold appE; rw [if_pos h]
theorem appE_bad {n : Nat} {p : List Int} (h : p.length = n) (h2 : ¬ PermP n p) : appE n p = 1 := by unfold appE; rw [if_neg (by simp [h]), if_neg h2]
theorem appE_ok {n : Nat} {p : List Int} (h2 : PermP n p) : appE n p = 0 := by unfold appE; rw [if_neg (by simp [h2.1]), if_pos h2]
theorem oneOk_bad {n : Nat} {p : List Int} {i : Nat} {k : Int} (hk : p[i]? = some k) (h : ¬ OneOk n p i k) : ¬ PermP n p := fun hr => h (hr.2 i k hk)
def ApplyPost (ls : List Sp) (p : List Int) (w : World) (e : Ending) (w' : World) : Prop := ∃ v, e = .returned (.tuple #[v, .int .i64 (appE ls.length p)]) ∧ StepsV w' v (appR ls p) ∧ Below w.heap.size w w'
theorem applyPost_len {ls : List Sp} {p : List Int} {w w' : World} (h : p.length ≠ ls.length) (hb : Below w.heap.size w w') : ApplyPost ls p w (.returned (.tuple #[.slice none 0 0, .int .i64 3])) w' :=
  ⟨.slice none 0 0, by rw [appE_len h], by unfold appR; rw [if_neg (fun hp => h hp.1)]; exact StepsV.nil _, hb⟩
theorem applyPost_bad {ls : List Sp} {p : List Int} {w w' : World} (h : p.length = ls.length) (h2 : ¬ PermP ls.length p) (hb : Below w.heap.size w w') : ApplyPost ls p w (.returned (.tuple #[.slice none 0 0, .int .i64 1])) w' :=
  ⟨.slice none 0 0, by rw [appE_bad h h2], by unfold appR; rw [if_neg h2]; exact StepsV.nil _, hb⟩
theorem applyPost_ok {ls : List Sp} {p : List Int} {w w' : World} {v : Value} (h2 : PermP ls.length p) (hv : StepsV w' v (appL ls p)) (hb : Below w.heap.size w w') : ApplyPost ls p w (.returned (.tuple #[v, .int .i64 0])) w' :=
  ⟨v, by rw [appE_ok h2], by unfold appR; rw [if_pos h2]; exact hv, hb⟩

set_option maxHeartbeats 4000000 in
set_option maxRecDepth 20000 in
theorem apply_any (ls : List Sp) (A : Option Addr) (n c : Nat) (ts : List Int) (A1 : Option Addr) (n1 c1 : Nat) (w : World) (hn : n = ls.length) (hm : n * 40 ≤ 140737488351232) (h : StepsAt w w.heap.size A ls) (hn1 : n1 = ts.length) (hm1 : n1 ≤ 9223372036854775807) (hc1 : n1 ≤ c1) (hs : IntsAt w w.heap.size A1 ts) :
    Calls Try.prog 46 #[.slice A n c, .slice A1 n1 c1] w (ApplyPost ls ts w) := by
  have HN := Lib.hid hn; clear hn
  have HN1 := Lib.hid hn1; clear hn1
  have H := Lib.hid h; clear h
  have H1 := Lib.hid hs; clear hs
  by_cases hl : n = n1
  · subst hl
    have hd0 : ((n : Int) != (n : Int)) = false := by simp
    have HLL : Hid (ts.length = ls.length) := Lib.hid (by rw [← HN1.out]; exact HN.out)
    go_enter Try.func46, Try.ntmps46
    go_wp2_with fail
    go_loopg [6, 16] n (fun k o i wr => ∃ j : Nat, k = n - j ∧ j ≤ n ∧ i = .int .i64 j ∧ Hid (SRow w o (appL ls (ts.take j)) wr) ∧ Hid (∀ i, i < j → ∀ k, ts[i]? = some k → OneOk ls.length ts i k))
    case atStart => exact ⟨0, by omega, Nat.zero_le _, rfl, SRow.nil (Below.refl _ _), Lib.hid (fun i hi => by omega)⟩
    case round =>
      obtain ⟨j, hgk, hj, rfl, hrow, hall⟩ := hrel
      have HGK := Lib.hid hgk; clear hgk
      by_cases hlt : j < n
      · obtain ⟨x, hx⟩ := get_of_lt HN1.out hlt
        obtain ⟨b1, off1, rfl, hb1, h1⟩ := H1.out j x hx
        have g1 := (hrow.out.bel.cell (p := ⟨b1, off1 + j, none⟩) hb1).trans h1
        clear h1
        have HX := Lib.hid hx; clear hx
        by_cases hx0 : x < 0
        · have HB := Lib.hid (oneOk_bad (n := ls.length) HX.out (fun hs => by have := hs.1; omega))
          go_wp2_with fail
          go_ret2
          exact applyPost_bad HLL.out HB.out hrow.out.bel
        · by_cases hxn : (n : Int) ≤ x
          · have HB := Lib.hid (oneOk_bad (n := ls.length) HX.out (fun hs => by have := hs.2.1; rw [← HN.out] at this; omega))
            have hx0' : 0 ≤ x := by omega
            go_wp2_with fail
            go_ret2
            exact applyPost_bad HLL.out HB.out hrow.out.bel
          · obtain ⟨x, rfl⟩ := Int.eq_ofNat_of_zero_le (show 0 ≤ x by omega)
            have hxl : x < n := by omega
            have hlen : (ts.take j).length = j := by rw [List.length_take, ← HN1.out]; omega
            have HTI := Lib.hid (show IntsAt wr wr.heap.size (some ⟨b1, off1, none⟩) (ts.take j) from fun k y hy => by
              rw [List.getElem?_take] at hy
              split at hy
              · obtain ⟨b, off, hA, hb, h0⟩ := H1.out k y hy
                injection hA with hA
                injection hA with e1 e2
                subst e1 e2
                exact ⟨_, _, rfl, Nat.lt_of_lt_of_le hb hrow.out.bel.size, (hrow.out.bel.cell (p := ⟨_, _, none⟩) hb).trans h0⟩
              · cases hy)
            by_cases hin : decide ((x : Int) ∈ ts.take j) = true
            · have HCC := Lib.hid (fun c2 => containsI_any (ts.take j) (some ⟨b1, off1, none⟩) j c2 (x : Int) wr hlen.symm (by omega) HTI.out hin)
              have HB := Lib.hid (oneOk_bad (n := ls.length) HX.out (fun hs => hs.2.2 (by simpa using hin)))
              clear hin hlen
              go_wp2_with fail
              refine (HCC.out _).mono ?_
              rintro e w' ⟨rfl, rfl⟩
              go_wp2_with fail
              go_ret2
              exact applyPost_bad HLL.out HB.out hrow.out.bel
            · have hin' : decide ((x : Int) ∈ ts.take j) = false := by simpa using hin
              have HCC := Lib.hid (fun c2 => containsI_any (ts.take j) (some ⟨b1, off1, none⟩) j c2 (x : Int) wr hlen.symm (by omega) HTI.out hin')
              have HOK : Hid (OneOk ls.length ts j (x : Int)) := Lib.hid ⟨by omega, by rw [← HN.out]; omega, by simpa using hin⟩
              obtain ⟨u, hu⟩ := get_of_lt HN.out hxl
              obtain ⟨b, off, rfl, hb, h0, h1, h2, h3, h4⟩ := H.out.five hu
              have g20 := (hrow.out.bel.cell (p := ⟨b, off + x*5, none⟩) hb).trans h0
              have g21 := (hrow.out.bel.cell (p := ⟨b, off + x*5+1, none⟩) hb).trans h1
              have g22 := (hrow.out.bel.cell (p := ⟨b, off + x*5+2, none⟩) hb).trans h2
              have g23 := (hrow.out.bel.cell (p := ⟨b, off + x*5+3, none⟩) hb).trans h3
              have g24 := (hrow.out.bel.cell (p := ⟨b, off + x*5+4, none⟩) hb).trans h4
              have HTK : Hid (appL ls (ts.take (j+1)) = appL ls (ts.take j) ++ [u]) := Lib.hid (by
                rw [List.take_add_one, HX.out]
                simp [appL, getS, hu])
              have HLEN : Hid ((appL ls (ts.take j)).length = j) := Lib.hid (by unfold appL; rw [List.length_map]; exact hlen)
              clear hin hin' hlen h0 h1 h2 h3 h4 hu
              have hnm : j + 1 ≤ maxLen := by unfold maxLen; omega
              have hby : (j + 1) * 40 ≤ 140737488355328 := by omega
              have k0 : (0 : Int) ≤ (x : Int) := by omega
              have k1 : (x : Int) < (n : Int) := by omega
              go_wp2_with fail
              refine (HCC.out _).mono ?_
              rintro e w' ⟨rfl, rfl⟩
              go_wp2_with (
                at_builtin
                refine wpList_append_oneL rfl (.tmp 36) (.tmp 41) _ rfl Try.underlying46 infoT rfl rfl (hrow.out.row HLEN.out) rfl rfl rfl (one_t _) hnm hby ?_
                intro v5 w9 hR4 hb4
                have HR4 := Lib.hid (SRow.add HLEN.out hR4)
                clear hR4)
              go_roundg (n - (j + 1))
              case measure => rw [HGK.out]; omega
              case rel => exact ⟨j+1, rfl, by omega, by go_num, HR4.out.re HTK.out, Lib.hid (forall_lt_succ hall.out (fun k hk => by rw [HX.out] at hk; rw [← Option.some.inj hk]; exact HOK.out))⟩
      · obtain rfl : j = n := by omega
        have HB : Hid (PermP ls.length ts) := Lib.hid ⟨HLL.out, fun i k hi => hall.out i (by rw [HN1.out]; exact (List.getElem?_eq_some_iff.1 hi).1) k hi⟩
        have HTK : Hid (appL ls (ts.take j) = appL ls ts) := Lib.hid (by rw [HN1.out, List.take_length])
        have HSV := Lib.hid hrow.out.stepsV
        rw [HTK.out] at HSV
        go_wp2_with fail
        go_ret2
        exact applyPost_ok HB.out HSV.out hrow.out.bel
  · have hd0 : ((n : Int) != (n1 : Int)) = true := by simp; omega
    have HB : Hid (ts.length ≠ ls.length) := Lib.hid (fun hr => hl (by rw [HN.out, ← hr, HN1.out]))
    clear hl
    go_enter Try.func46, Try.ntmps46
    go_wp2_with fail
    go_ret2
    exact applyPost_len HB.out (Below.refl _ _)

/-! ### the sorted list -/
theorem permP_sorted {n : Nat} {p : List Int} (hl : p.length = n) : PermP n p ↔ ∀ (i : Nat) x, (p.mergeSort (fun x y => decide (x ≤ y)))[i]? = some x → x = (i : Int) := by
  have hp := List.mergeSort_perm p (fun x y => decide (x ≤ y))
  have hlen : (p.mergeSort (fun x y => decide (x ≤ y))).length = n := by rw [List.length_mergeSort, hl]
  constructor
  · rintro ⟨-, h⟩ i x hx
    have hnd := nd_take fun i k hi => (h i k hi).2.2
    have hsub : ∀ x ∈ p, x ∈ rangeI n := by
      intro x hx
      obtain ⟨i, hi⟩ := List.mem_iff_getElem?.1 hx
      obtain ⟨a, b, _⟩ := h i x hi
      exact rangeI_mem.2 ⟨a, b⟩
    have hpr := nd_perm hnd hsub (by rw [rangeI_len]; omega)
    have hs : p.mergeSort (fun x y => decide (x ≤ y)) = rangeI n := by
      refine List.Perm.eq_of_pairwise (le := fun a b : Int => a ≤ b) (fun a b _ _ h1 h2 => by omega) ?_ ?_ (hp.trans hpr)
      · have := List.pairwise_mergeSort (le := fun x y : Int => decide (x ≤ y)) (fun a b c h1 h2 => by simp at *; omega) (fun a b => by simp; omega) p
        exact this.imp (fun h => by simpa using h)
      · refine List.pairwise_iff_getElem.2 fun i j hi hj hij => ?_
        simp only [rangeI, List.getElem_map, List.getElem_range]
        omega
    rw [hs] at hx
    have hi : i < n := by rw [← rangeI_len n]; exact (List.getElem?_eq_some_iff.1 hx).1
    rw [rangeI_get hi] at hx
    exact (Option.some.inj hx).symm
  · intro h
    have hs : p.mergeSort (fun x y => decide (x ≤ y)) = rangeI n := by
      refine List.ext_getElem? fun i => ?_
      by_cases hi : i < n
      · obtain ⟨x, hx⟩ := get_of_lt hlen.symm hi
        rw [hx, rangeI_get hi, h i x hx]
      · rw [List.getElem?_eq_none (by omega), List.getElem?_eq_none (by rw [rangeI_len]; omega)]
    rw [hs] at hp
    have hnd : p.Nodup := hp.nodup_iff.1 (rangeI_nd n)
    refine ⟨hl, fun i k hi => ?_⟩
    obtain ⟨a, b⟩ := rangeI_mem.1 (hp.mem_iff.2 (List.mem_of_getElem? hi))
    refine ⟨a, b, fun hc => ?_⟩
    obtain ⟨j, hj, hjk⟩ := mem_tk.1 hc
    have := nd_inj hnd hi hjk
    omega
theorem appL_take {ls : List Sp} {p : List Int} {i : Nat} {k : Int} {u : Sp} (hk : p[i]? = some k) (hu : ls[k.toNat]? = some u) : appL ls (p.take (i+1)) = appL ls (p.take i) ++ [u] := by
  rw [List.take_add_one, hk]
  simp [appL, getS, hu]
end Go.Proofs.Ytogjfmgecnoceaa
