/- Walk: change (reference). -/
import Derived.Test.YtnaiflokmihmeaaActM
import Derived.Test.YtnaiflokmihmeaaMgJ
namespace Go.Proofs.Ytnaiflokmihmeaa
open Go.RowKit
set_option linter.unusedVariables false
set_option linter.unusedSimpArgs false

/-- a step in a variable, and the set -/
structure CS (w : World) (b : Nat) (s : Stp) (S : List Ft) (wr : World) : Prop where
  bel : Below b w wr
  two : Blk wr w.heap.size 39 (scs s)
  st : SetN valF wr b S
  lt : b < w.heap.size
section
variable {w wr w' : World} {b : Nat} {s : Stp} {S : List Ft}
theorem CS.start (h : SetN valF w b S) (s : Stp) : CS w b s S (w.alloc (.cells (scs s) 39)) :=
  ⟨(Below.refl _ _).alloc (Nat.le_of_lt h.lt) _, Blk.new _ _ _, h.alloc _, h.lt⟩
theorem CS.put (h : CS w b s S wr) {S' : List Ft} (hs : SetN valF w' b S') (hg : wr.grownBy w' (some b)) : CS w b s S' w' :=
  ⟨h.bel.grown hg (Nat.le_trans (Nat.le_of_lt h.lt) h.bel.size) (fun k hk => by cases hk; exact Nat.le_refl _), h.two.grown hg (fun e => by injection e with e; have := h.lt; omega), hs, h.lt⟩
theorem CS.alloc (h : CS w b s S wr) (o : Obj) : CS w b s S (wr.alloc o) := ⟨h.bel.alloc (Nat.le_trans (Nat.le_of_lt h.lt) h.bel.size) o, h.two.alloc o, h.st.alloc o, h.lt⟩
theorem CS.cells (h : CS w b s S wr) : wr.cell? ⟨w.heap.size, 0, none⟩ = some (.int .i64 s.k) ∧ wr.cell? ⟨w.heap.size, 1, none⟩ = some (.int .i64 s.a) ∧ wr.cell? ⟨w.heap.size, 2, none⟩ = some (.int .i64 s.p) ∧ wr.cell? ⟨w.heap.size, 3, none⟩ = some (.int .i64 s.s) ∧ wr.cell? ⟨w.heap.size, 4, none⟩ = some (.int .i64 s.t) := ⟨h.two.cell 0, h.two.cell 1, h.two.cell 2, h.two.cell 3, h.two.cell 4⟩
end
/-- what a step that can be done stands on -/
structure CanS (d : Wd) (s : Stp) (ka : Nat) : Prop where
  vd : Vd d
  a : s.a = (ka : Int)
  ka : ka < d.sp.length
theorem can_s {d : Wd} {s : Stp} (h : canE d s = 0) : ∃ ka, CanS d s ka := by
  obtain ⟨hv, hf, ha, hp, hs, hm⟩ := canE_inv h
  obtain ⟨f1, f2, f3, f4⟩ := formB_inv hf
  obtain ⟨ka, hka⟩ := Int.eq_ofNat_of_zero_le f3
  exact ⟨ka, hv, hka, by omega⟩
theorem targ_hi {d : Wd} (hv : Vd d) {s : Stp} (hs : s.s < d.sl) (hp : s.p < (d.pl.length : Int)) : targ d s < 14 := by
  unfold targ
  split
  · rename_i h
    obtain ⟨kp, hkp⟩ := Int.eq_ofNat_of_zero_le h
    obtain ⟨x, hx⟩ : ∃ x, d.pl[kp]? = some x := ⟨_, List.getElem?_eq_getElem (by omega)⟩
    have h1 := (hv.plo kp x hx).1
    have h2 := hv.sl8
    have h3 := hv.p6
    rw [hkp, whr_at hx]
    split <;> (try split) <;> omega
  · have := hv.sl8; omega
theorem targ_lo {d : Wd} {s : Stp} (h : -1 ≤ s.s) : -1 ≤ targ d s := by
  unfold targ
  split
  · unfold whr
    split
    · omega
    · split
      · omega
      · split <;> omega
  · exact h
theorem may0 {d : Wd} {s : Stp} (hk : s.k = 0) (h : mayE d s = 0) : targ d s ≠ -1 := by
  unfold mayE at h
  rw [if_pos hk] at h
  intro h2
  split at h
  · cases h
  · simp [h2] at h
theorem may1 {d : Wd} {s : Stp} (hk : s.k = 1 ∨ s.k = 3) (h : mayE d s = 0) : full d s = false ∧ targ d s ≠ -1 := by
  unfold mayE at h
  rw [if_neg (by omega), if_pos hk] at h
  cases hf : full d s with
  | true => rw [hf, if_pos rfl] at h; cases h
  | false =>
    rw [hf, if_neg (by simp)] at h
    cases hh : here d s with
    | false => rw [hh, if_pos rfl] at h; cases h
    | true => unfold here at hh; exact ⟨rfl, (of_decide_eq_true hh).1⟩
theorem may2s {d : Wd} {s : Stp} (hk : s.k = 2) (h : mayE d s = 0) : inn d s.s < 0 := by
  unfold mayE at h
  rw [if_neg (by omega), if_neg (by omega), if_pos hk] at h
  split at h
  · cases h
  · split at h
    · cases h
    · omega
theorem not_full {d : Wd} {s : Stp} {ka : Nat} (ha : s.a = (ka : Int)) (hk : ka < d.sp.length) (h : full d s = false) : (-2 - (ka : Int)) ∉ d.pl := by
  unfold full at h
  have h1 : ¬ 0 ≤ hold d s.a := of_decide_eq_false h
  rw [ha, hold_in (by omega) (by omega)] at h1
  intro hm
  have := ixI_any (fun y => (-2 - (ka : Int)) == y) d.pl
  rw [decide_eq_false h1] at this
  have h2 := List.any_eq_false.1 this.symm _ hm
  simp at h2
theorem not_in {d : Wd} {x : Int} (h0 : 0 ≤ x) (h : inn d x < 0) : x ∉ d.pl := by
  rw [inn_ge h0] at h
  intro hm
  have := ixI_any (fun y => x == y) d.pl
  rw [decide_eq_false (by omega)] at this
  have h2 := List.any_eq_false.1 this.symm _ hm
  simp at h2

set_option maxHeartbeats 4000000 in
set_option maxRecDepth 20000 in
theorem change_any (d : Wd) (s : Stp) (b : Nat) (w : World) (h : StAt d b w) (hc : canE d s = 0) :
    Calls Try.prog 88 #[.map (some b), sv s, .int .i64 (targ d s)] w fun e w' => e = .returned (.tuple #[]) ∧ StAt (stepN d s) b w' ∧ Below b w w' := by
  obtain ⟨hv, hf, ha, hp, hs, hm⟩ := canE_inv hc
  obtain ⟨f1, f2, f3, f4⟩ := formB_inv hf
  obtain ⟨S, hset, hnd, hin⟩ := h
  have HT : Hid (Tells S (inS d)) := Lib.hid ⟨hnd, hin⟩
  have HC1 := Lib.hid (CS.start hset s)
  have HV := Lib.hid hv
  have hthi := targ_hi hv hs hp
  have htlo := targ_lo (d := d) f2
  obtain ⟨ka, hka⟩ := Int.eq_ofNat_of_zero_le f3
  have hkl : ka < d.sp.length := by omega
  have HKL := Lib.hid hkl
  have HM0 := Lib.hid (fun hk => may0 (d := d) (s := s) hk hm)
  have HM1 := Lib.hid (fun hk => may1 (d := d) (s := s) hk hm)
  have HM2 := Lib.hid (fun hk => may2 (d := d) (s := s) hk hm)
  have HM3 := Lib.hid (fun hk => may2s (d := d) (s := s) hk hm)
  have HNF := Lib.hid (fun h => not_full (d := d) hka hkl h)
  have HP0 := Lib.hid hp
  have HS0 := Lib.hid hs
  have HF4 := Lib.hid f4
  have HTG := Lib.hid (show targ d s = if 0 ≤ s.p then whr d s.p else s.s from rfl)
  generalize hfu : full d s = fu at *
  clear hset hnd hin hc hf hv hm hkl hfu f4 ha hp hs
  have HSN : Hid (stepN d s = stepN d s) := Lib.hid rfl
  unfold stepN at HSN
  generalize hgt : targ d s = tv at *
  have HTV := Lib.hid hgt
  clear hgt
  obtain ⟨k, a, p, s0, t⟩ := s
  dsimp only at hka f1 f2 f3 HM0 HM1 HM2 HM3 HP0 HS0 HF4 HTG
  subst hka
  unfold sv
  unfold scs at HC1
  dsimp only at HC1 ⊢
  obtain ⟨a10, a11, a12, a13, a14⟩ := HC1.out.cells
  dsimp only at a10 a11 a12 a13 a14
  rcases HF4.out with ⟨hk, fp, ft⟩ | ⟨hk, fp, fs, ft⟩ | ⟨hk, fs, fp, ft⟩ | ⟨hk, fp, fs, ft, ft2⟩
  · subst hk ft
    have HSE : Hid (stepN d ⟨0, (ka : Int), p, s0, 0⟩ = { d with sp := d.sp.set ka tv }) := Lib.hid (by simp [stepN, HTV.out])
    have ht0 : 0 ≤ tv := by have := HM0.out rfl; omega
    have HCG := Lib.hid (chg_go HV.out HKL.out ht0)
    go_enter Try.func88, Try.ntmps88
    go_wp2_with fail
    clear a10 a11 a12 a13 a14
    go_loopg [13] 14 (fun kx i wr => ∃ (q : Nat) (S : List Ft), kx = 14 - q ∧ q ≤ 14 ∧ i = .int .i64 q ∧ Hid (CS w b ⟨0, (ka : Int), p, s0, 0⟩ S wr) ∧ Hid (Tells S (fun f => inS d f ∧ ¬ (f.k = 6 ∧ f.a = (ka : Int) ∧ f.b < (q : Int) ∧ 0 ≤ f.b))))
    case atStart => exact ⟨0, S, by omega, Nat.zero_le _, rfl, HC1.out, Lib.hid (HT.out.re (fun f => ⟨fun h => h.1, fun h => ⟨h, fun h2 => by omega⟩⟩))⟩
    case round =>
      clear HC1 HT
      obtain ⟨q, S, hgk, hq, rfl, HCS, HT⟩ := hrel
      have HGK := Lib.hid hgk; clear hgk
      obtain ⟨a20, a21, a22, a23, a24⟩ := HCS.out.cells
      dsimp only at a20 a21 a22 a23 a24
      by_cases hlt : q < 14
      · go_wp2_with (first | (at_delete; refine wpList_set_del _ rfl _ _ 114 45 rfl klaw_ft Try.underlying114 HCS.out.st ⟨6, (ka : Int), (q : Int)⟩ rfl rfl ?_; intro w3 hs3 hg3 hz3; have HC3 := Lib.hid (HCS.out.put hs3 hg3); obtain ⟨a30, a31, a32, a33, a34⟩ := HC3.out.cells; dsimp only at a30 a31 a32 a33 a34))
        clear a20 a21 a22 a23 a24 a30 a31 a32 a33 a34 hs3 hg3 hz3
        go_roundg (14 - (q + 1))
        case measure => rw [HGK.out]; omega
        case rel => exact ⟨q+1, _, rfl, hlt, by go_num, HC3, Lib.hid (HT.out.del ⟨6, (ka : Int), (q : Int)⟩ (fun f => by
          obtain ⟨k, a, b⟩ := f
          simp only [Ft.mk.injEq, ne_eq, Int.natCast_add, Int.cast_ofNat_Int]
          constructor
          · rintro ⟨h1, h2⟩
            exact ⟨⟨h1, fun h3 => h2 ⟨h3.1, h3.2.1, by omega, h3.2.2.2⟩⟩, fun h3 => h2 ⟨h3.1, h3.2.1, by omega, by omega⟩⟩
          · rintro ⟨⟨h1, h2⟩, h4⟩
            exact ⟨h1, fun h3 => by
              by_cases hb : b < (q : Int)
              · exact h2 ⟨h3.1, h3.2.1, hb, h3.2.2.2⟩
              · exact h4 ⟨h3.1, h3.2.1, by omega⟩⟩))⟩
      · obtain rfl : q = 14 := by omega
        have HTE := Lib.hid (HT.out.put (q := inS { d with sp := d.sp.set ka tv }) ⟨6, (ka : Int), tv⟩ (fun f => by
          rw [HCG.out f]
          constructor
          · rintro (⟨h1, h2⟩ | h)
            · exact .inl ⟨h1, fun h3 => h2 ⟨h3.1, h3.2.1, h3.2.2.1⟩⟩
            · exact .inr h
          · rintro (⟨h1, h2⟩ | h)
            · exact .inl ⟨h1, fun h3 => h2 ⟨h3.1, h3.2.1, h3.2.2, by
                rcases h1 with h4 | h4 | h4 | h4 | h4 | h4 <;> first | (exact h4.2.1) | omega⟩⟩
            · exact .inr h))
        go_wp2_with (first | (at_mapUpdate; refine wpList_set_put _ rfl _ _ _ 114 rfl klaw_ft Try.underlying114 HCS.out.st ⟨6, (ka : Int), tv⟩ rfl rfl rfl ?_; intro w3 hs3 hg3 hz3; have HC3 := Lib.hid (HCS.out.put hs3 hg3); obtain ⟨a30, a31, a32, a33, a34⟩ := HC3.out.cells; dsimp only at a30 a31 a32 a33 a34))
        go_end0
        exact ⟨rfl, ⟨_, HC3.out.st, by rw [HSE.out]; exact HTE.out⟩, HC3.out.bel⟩
  · obtain ⟨kp, hkp⟩ := Int.eq_ofNat_of_zero_le fp
    subst hkp ft
    have hkl : kp < d.pl.length := by have := HP0.out; omega
    obtain ⟨x, hx⟩ : ∃ x, d.pl[kp]? = some x := ⟨_, List.getElem?_eq_getElem hkl⟩
    have hm1 := HM1.out hk
    have htw : tv = if x < -1 then -1 else if x = -1 then 8 + (kp : Int) else x := by
      have h := HTG.out
      rw [if_pos fp, whr_at hx] at h
      exact h
    rcases hk with hk | hk
    · subst hk
      have HSE : Hid (stepN d ⟨1, (ka : Int), (kp : Int), s0, 0⟩ = { d with pl := d.pl.set kp (-2 - (ka : Int)) }) := Lib.hid (by simp [stepN])
      have hx1 : -1 ≤ x := by
        by_cases h : x < -1
        · rw [if_pos h] at htw; exact absurd htw hm1.2
        · omega
      have HCT := Lib.hid (chg_take HV.out HKL.out hx hx1 (HNF.out hm1.1))
      have hxs := (HV.out.plo kp x hx).1
      have hs8 := HV.out.sl8
      by_cases hx0 : 0 ≤ x
      · have htx : tv = x := by rw [htw, if_neg (by omega), if_neg (by omega)]
        subst htx
        have ht8 : tv < 8 := by omega
        have HTE := Lib.hid ((((HT.out.del ⟨3, (ka : Int), 0⟩ (fun f => Iff.rfl)).del ⟨1, (kp : Int), tv⟩ (fun f => Iff.rfl)).put ⟨4, tv, 0⟩ (fun f => Iff.rfl)).put (q := inS { d with pl := d.pl.set kp (-2 - (ka : Int)) }) ⟨2, (ka : Int), (kp : Int)⟩ (fun f => by rw [HCT.out f, if_pos hx0]))
        clear htw hx hx1 hm1 hxs hs8
        go_enter Try.func88, Try.ntmps88
        go_wp2_with (first | (at_mapUpdate; refine wpList_set_put _ rfl _ _ _ 114 rfl klaw_ft Try.underlying114 HC5.out.st ⟨2, (ka : Int), (kp : Int)⟩ rfl rfl rfl ?_; intro w6 hs6 hg6 hz6; have HC6 := Lib.hid (HC5.out.put hs6 hg6); obtain ⟨a60, a61, a62, a63, a64⟩ := HC6.out.cells; dsimp only at a60 a61 a62 a63 a64) | (at_mapUpdate; refine wpList_set_put _ rfl _ _ _ 114 rfl klaw_ft Try.underlying114 HC4.out.st ⟨4, tv, 0⟩ rfl rfl rfl ?_; intro w5 hs5 hg5 hz5; have HC5 := Lib.hid (HC4.out.put hs5 hg5); obtain ⟨a50, a51, a52, a53, a54⟩ := HC5.out.cells; dsimp only at a50 a51 a52 a53 a54) | (at_delete; refine wpList_set_del _ rfl _ _ 114 45 rfl klaw_ft Try.underlying114 HC3.out.st ⟨1, (kp : Int), tv⟩ rfl rfl ?_; intro w4 hs4 hg4 hz4; have HC4 := Lib.hid (HC3.out.put hs4 hg4); obtain ⟨a40, a41, a42, a43, a44⟩ := HC4.out.cells; dsimp only at a40 a41 a42 a43 a44) | (at_delete; refine wpList_set_del _ rfl _ _ 114 45 rfl klaw_ft Try.underlying114 HC1.out.st ⟨3, (ka : Int), 0⟩ rfl rfl ?_; intro w3 hs3 hg3 hz3; have HC3 := Lib.hid (HC1.out.put hs3 hg3); obtain ⟨a30, a31, a32, a33, a34⟩ := HC3.out.cells; dsimp only at a30 a31 a32 a33 a34))
        go_end0
        exact ⟨rfl, ⟨_, HC6.out.st, by rw [HSE.out]; exact HTE.out⟩, HC6.out.bel⟩
      · obtain rfl : x = -1 := by omega
        have htx : tv = 8 + (kp : Int) := by rw [htw, if_neg (by omega), if_pos rfl]
        have ht8 : 8 ≤ tv := by omega
        have HTE := Lib.hid ((HT.out.del ⟨3, (ka : Int), 0⟩ (fun f => Iff.rfl)).put (q := inS { d with pl := d.pl.set kp (-2 - (ka : Int)) }) ⟨2, (ka : Int), (kp : Int)⟩ (fun f => by rw [HCT.out f, if_neg (by omega)]))
        clear htw hx hx1 hm1 hxs hs8 htx hx0
        go_enter Try.func88, Try.ntmps88
        go_wp2_with (first | (at_mapUpdate; refine wpList_set_put _ rfl _ _ _ 114 rfl klaw_ft Try.underlying114 HC3.out.st ⟨2, (ka : Int), (kp : Int)⟩ rfl rfl rfl ?_; intro w4 hs4 hg4 hz4; have HC4 := Lib.hid (HC3.out.put hs4 hg4); obtain ⟨a40, a41, a42, a43, a44⟩ := HC4.out.cells; dsimp only at a40 a41 a42 a43 a44) | (at_delete; refine wpList_set_del _ rfl _ _ 114 45 rfl klaw_ft Try.underlying114 HC1.out.st ⟨3, (ka : Int), 0⟩ rfl rfl ?_; intro w3 hs3 hg3 hz3; have HC3 := Lib.hid (HC1.out.put hs3 hg3); obtain ⟨a30, a31, a32, a33, a34⟩ := HC3.out.cells; dsimp only at a30 a31 a32 a33 a34))
        go_end0
        exact ⟨rfl, ⟨_, HC4.out.st, by rw [HSE.out]; exact HTE.out⟩, HC4.out.bel⟩
    · subst hk
      have HSE : Hid (stepN d ⟨3, (ka : Int), (kp : Int), s0, 0⟩ = { d with se := d.se.set kp true }) := Lib.hid (by simp [stepN])
      have HTE := Lib.hid (HT.out.put (q := inS { d with se := d.se.set kp true }) ⟨5, (kp : Int), 0⟩ (fun f => chg_look HV.out hkl f))
      clear htw hx hm1
      go_enter Try.func88, Try.ntmps88
      go_wp2_with (first | (at_mapUpdate; refine wpList_set_put _ rfl _ _ _ 114 rfl klaw_ft Try.underlying114 HC1.out.st ⟨5, (kp : Int), 0⟩ rfl rfl rfl ?_; intro w3 hs3 hg3 hz3; have HC3 := Lib.hid (HC1.out.put hs3 hg3); obtain ⟨a30, a31, a32, a33, a34⟩ := HC3.out.cells; dsimp only at a30 a31 a32 a33 a34))
      go_end0
      exact ⟨rfl, ⟨_, HC3.out.st, by rw [HSE.out]; exact HTE.out⟩, HC3.out.bel⟩
  · subst hk ft
    obtain ⟨ks, hks⟩ := Int.eq_ofNat_of_zero_le fs
    subst hks
    obtain ⟨kh, hh1, hh2, hh3⟩ := hold_spec (HM2.out rfl)
    have hk6 : kh < 6 := by have := HV.out.p6; omega
    have HCP := Lib.hid (chg_put HV.out HKL.out hh3 HS0.out (not_in (by omega) (HM3.out rfl)))
    have HMM : Hid (∀ q : Nat, inS d ⟨2, (ka : Int), (q : Int)⟩ ↔ q = kh) := Lib.hid (fun q => by
      rw [inS_holds]
      constructor
      · rintro ⟨_, q', h1, h2⟩
        have : q = q' := by omega
        subst this
        exact HV.out.pun q kh _ h2 hh3 (by omega)
      · rintro rfl
        exact ⟨by omega, q, rfl, hh3⟩)
    have HSE : Hid (stepN d ⟨2, (ka : Int), p, (ks : Int), 0⟩ = { d with pl := d.pl.set kh (ks : Int), se := d.se.set kh false }) := Lib.hid (by simp [stepN, hh1])
    clear hh1 hh2 hh3
    go_enter Try.func88, Try.ntmps88
    go_wp2_with fail
    clear a10 a11 a12 a13 a14
    go_loopg [57] 6 (fun kx i wr => ∃ (q : Nat) (S : List Ft), kx = 6 - q ∧ q ≤ 6 ∧ i = .int .i64 q ∧ Hid (CS w b ⟨2, (ka : Int), p, (ks : Int), 0⟩ S wr) ∧ Hid (Tells S (fun f => if q ≤ kh then inS d f else ((inS d f ∧ f ≠ ⟨2, (ka : Int), (kh : Int)⟩) ∧ f ≠ ⟨5, (kh : Int), 0⟩) ∨ f = ⟨1, (kh : Int), (ks : Int)⟩)))
    case atStart => exact ⟨0, S, by omega, Nat.zero_le _, rfl, HC1.out, Lib.hid (HT.out.re (fun f => by rw [if_pos (Nat.zero_le _)]))⟩
    case round =>
      clear HC1 HT
      obtain ⟨q, S, hgk, hq, rfl, HCS, HT⟩ := hrel
      have HGK := Lib.hid hgk; clear hgk
      obtain ⟨a20, a21, a22, a23, a24⟩ := HCS.out.cells
      dsimp only at a20 a21 a22 a23 a24
      by_cases hlt : q < 6
      · go_upto_region 22 with (fail)
        have HCA := Lib.hid (HCS.out.alloc (.cells #[.int .i64 2, .int .i64 (ka : Int), .int .i64 (q : Int)] 45))
        have HBX := Lib.hid (Blk.new wr 45 #[.int .i64 2, .int .i64 (ka : Int), .int .i64 (q : Int)])
        have k0 := HBX.out.cell 0
        have k1 := HBX.out.cell 1
        have k2 := HBX.out.cell 2
        simp at k0 k1 k2
        clear a20 a21 a22 a23 a24
        obtain ⟨a20, a21, a22, a23, a24⟩ := HCA.out.cells
        dsimp only at a20 a21 a22 a23 a24
        by_cases hqk : q = kh
        · subst hqk
          have HM : Hid (decide ((⟨2, (ka : Int), (q : Int)⟩ : Ft) ∈ S) = true) := Lib.hid (decide_eq_true ((HT.out.2 _).2 (by dsimp only; rw [if_pos (Nat.le_refl _)]; exact (HMM.out q).2 rfl)))
          have HTE := Lib.hid ((((HT.out.re (q := inS d) (fun f => by rw [if_pos (Nat.le_refl _)])).del ⟨2, (ka : Int), (q : Int)⟩ (fun f => Iff.rfl)).del ⟨5, (q : Int), 0⟩ (fun f => Iff.rfl)).put (q := fun f => if q + 1 ≤ q then inS d f else ((inS d f ∧ f ≠ ⟨2, (ka : Int), (q : Int)⟩) ∧ f ≠ ⟨5, (q : Int), 0⟩) ∨ f = ⟨1, (q : Int), (ks : Int)⟩) ⟨1, (q : Int), (ks : Int)⟩ (fun f => by rw [if_neg (by omega)]))
          go_upto_region 23 with (at_lookup; refine wpList_set_get _ rfl _ _ 114 rfl klaw_ft Try.underlying114 (zB _) HCA.out.st ⟨2, (ka : Int), (q : Int)⟩ HM.out rfl rfl ?_)
          go_upto_region 24 with (first | (at_delete; refine wpList_set_del _ rfl _ _ 114 45 rfl klaw_ft Try.underlying114 HCA.out.st ⟨2, (ka : Int), (q : Int)⟩ rfl rfl ?_; intro w3 hs3 hg3 hz3; have HC3 := Lib.hid (HCA.out.put hs3 hg3); obtain ⟨a30, a31, a32, a33, a34⟩ := HC3.out.cells; dsimp only at a30 a31 a32 a33 a34))
          clear k0 k1 k2
          go_wp2_with (first | (at_mapUpdate; refine wpList_set_put _ rfl _ _ _ 114 rfl klaw_ft Try.underlying114 HC4.out.st ⟨1, (q : Int), (ks : Int)⟩ rfl rfl rfl ?_; intro w5 hs5 hg5 hz5; have HC5 := Lib.hid (HC4.out.put hs5 hg5); obtain ⟨a50, a51, a52, a53, a54⟩ := HC5.out.cells; dsimp only at a50 a51 a52 a53 a54) | (at_delete; refine wpList_set_del _ rfl _ _ 114 45 rfl klaw_ft Try.underlying114 HC3.out.st ⟨5, (q : Int), 0⟩ rfl rfl ?_; intro w4 hs4 hg4 hz4; have HC4 := Lib.hid (HC3.out.put hs4 hg4); obtain ⟨a40, a41, a42, a43, a44⟩ := HC4.out.cells; dsimp only at a40 a41 a42 a43 a44))
          clear a20 a21 a22 a23 a24 a30 a31 a32 a33 a34 a40 a41 a42 a43 a44 a50 a51 a52 a53 a54 hs3 hg3 hz3 hs4 hg4 hz4 hs5 hg5 hz5
          go_roundg (6 - (q + 1))
          case measure => rw [HGK.out]; omega
          case rel => exact ⟨q+1, _, rfl, hlt, by go_num, HC5, HTE⟩
        · have HM : Hid (decide ((⟨2, (ka : Int), (q : Int)⟩ : Ft) ∈ S) = false) := Lib.hid (decide_eq_false (fun hm => by
            have h1 := (HT.out.2 _).1 hm
            dsimp only at h1
            split at h1
            · exact hqk ((HMM.out q).1 h1)
            · rcases h1 with h1 | h1
              · exact hqk ((HMM.out q).1 h1.1.1)
              · cases h1))
          go_upto_region 26 with (at_lookup; refine wpList_set_get _ rfl _ _ 114 rfl klaw_ft Try.underlying114 (zB _) HCA.out.st ⟨2, (ka : Int), (q : Int)⟩ HM.out rfl rfl ?_)
          clear a20 a21 a22 a23 a24 k0 k1 k2
          go_wp2_with fail
          go_roundg (6 - (q + 1))
          case measure => rw [HGK.out]; omega
          case rel => exact ⟨q+1, _, rfl, hlt, by go_num, HCA, Lib.hid (HT.out.re (fun f => by
            by_cases h1 : q ≤ kh
            · rw [if_pos h1, if_pos (by omega)]
            · rw [if_neg h1, if_neg (by omega)]))⟩
      · obtain rfl : q = 6 := by omega
        have HTE := Lib.hid ((HT.out.del ⟨4, (ks : Int), 0⟩ (fun f => Iff.rfl)).put (q := inS { d with pl := d.pl.set kh (ks : Int), se := d.se.set kh false }) ⟨3, (ka : Int), 0⟩ (fun f => by rw [HCP.out f, if_neg (by omega)]))
        go_wp2_with (first | (at_mapUpdate; refine wpList_set_put _ rfl _ _ _ 114 rfl klaw_ft Try.underlying114 HC3.out.st ⟨3, (ka : Int), 0⟩ rfl rfl rfl ?_; intro w4 hs4 hg4 hz4; have HC4 := Lib.hid (HC3.out.put hs4 hg4); obtain ⟨a40, a41, a42, a43, a44⟩ := HC4.out.cells; dsimp only at a40 a41 a42 a43 a44) | (at_delete; refine wpList_set_del _ rfl _ _ 114 45 rfl klaw_ft Try.underlying114 HCS.out.st ⟨4, (ks : Int), 0⟩ rfl rfl ?_; intro w3 hs3 hg3 hz3; have HC3 := Lib.hid (HCS.out.put hs3 hg3); obtain ⟨a30, a31, a32, a33, a34⟩ := HC3.out.cells; dsimp only at a30 a31 a32 a33 a34))
        go_end0
        exact ⟨rfl, ⟨_, HC4.out.st, by rw [HSE.out]; exact HTE.out⟩, HC4.out.bel⟩
  · subst hk
    have HSE : Hid (stepN d ⟨4, (ka : Int), p, s0, t⟩ = d) := Lib.hid (by simp [stepN])
    go_enter Try.func88, Try.ntmps88
    go_wp2_with fail
    go_end0
    exact ⟨rfl, ⟨_, HC1.out.st, by rw [HSE.out]; exact HT.out⟩, HC1.out.bel⟩
end Go.Proofs.Ytnaiflokmihmeaa
