/- The walk of GridBoole (printed by gridb.py). -/
import Derived.Test.YtoejojfjiikogaaDoorGrY
import Derived.Test.YtoejojfjiikogaaDoorGrM
import Derived.Test.YtoejojfjiikogaaDoorGrE
import Derived.Test.YtoejojfjiikogaaDoorGrW
import Derived.Test.YtoejojfjiikogaaDoorGrC

namespace Go.Proofs.YtoejojfjiikogaaDoor
open Go.RowKit
set_option linter.unusedVariables false
set_option linter.unusedSimpArgs false

theorem goodL_meet (a b : List Ft) : goodL (noB (ofL b)) (ofL a) = meetL a b := by
  unfold goodL meetL noB
  exact List.filter_congr fun c _ => by simp
theorem goodL_minus (a b : List Ft) : goodL (inB (ofL b)) (ofL a) = minusL a b := by
  unfold goodL minusL inB
  rfl
theorem joinL_len (a b : List Ft) : (joinL a b).length ≤ a.length + b.length := by
  have := ofL_len_le (a ++ b); rw [List.length_append] at this; exact this
theorem meetL_len (a b : List Ft) : (meetL a b).length ≤ a.length := Nat.le_trans (List.length_filter_le _ _) (ofL_len_le a)
theorem minusL_len (a b : List Ft) : (minusL a b).length ≤ a.length := Nat.le_trans (List.length_filter_le _ _) (ofL_len_le a)
theorem Ints.nx {W w : World} {A : Option Addr} {n c : Nat} {xs : List Int} (h : Ints W A n c xs) (hb : Below W.heap.size W w) : Ints w A n c xs := ⟨(h.1.below hb).more hb.size, h.2⟩
theorem meet_c (la lb : List Ft) (va vb : Value) (w : World) (hA : Fs va la w) (hB : Fs vb lb w) (hs : la.length ≤ 1000) (hs2 : lb.length ≤ 1000) : Calls Tryd.prog 22 #[va, vb] w (FsPost (meetL la lb) w) := by
  rw [← goodL_meet]; exact gmeet_any la lb va vb w hA hB hs hs2
theorem minus_c (la lb : List Ft) (va vb : Value) (w : World) (hA : Fs va la w) (hB : Fs vb lb w) (hs : la.length ≤ 1000) (hs2 : lb.length ≤ 1000) : Calls Tryd.prog 24 #[va, vb] w (FsPost (minusL la lb) w) := by
  rw [← goodL_minus]; exact gminus_any la lb va vb w hA hB hs hs2
set_option maxHeartbeats 1000000 in
theorem same_c (la lb : List Ft) (va vb : Value) (w : World) (hA : Fs va la w) (hB : Fs vb lb w) (hs : la.length ≤ 1000) {r : Bool} (hr : decide (la = lb) = r) :
    Calls Tryd.prog 19 #[va, vb] w fun e w' => e = .returned (.bool r) ∧ Below w.heap.size w w' := by
  obtain ⟨A, ca, rfl, hca, hma, hA⟩ := hA
  obtain ⟨B, cb, rfl, hcb, hmb, hB⟩ := hB
  have HE := Lib.hid (equal_any la lb A B _ _ ca cb w rfl rfl (by omega) hA hB)
  rw [hr] at HE
  clear hA hB hca hma hcb hmb hs hr
  go_enter Tryd.func19, Tryd.ntmps19
  go_wp2_with fail
  refine HE.out.mono ?_
  rintro e w2 ⟨rfl, hb2⟩
  have HB2 := Lib.hid hb2
  clear hb2
  go_wp2_with fail
  go_ret
  exact ⟨rfl, HB2.out⟩
theorem within_c (la lb : List Ft) (va vb : Value) (w : World) (hA : Fs va la w) (hB : Fs vb lb w) (hs : la.length ≤ 1000) (hs2 : lb.length ≤ 1000) {r : Bool} (hr : withinL la lb = r) :
    Calls Tryd.prog 25 #[va, vb] w fun e w' => e = .returned (.bool r) ∧ Below w.heap.size w w' := by
  rw [← hr]; exact gwithin_any la lb va vb w hA hB hs hs2
theorem check_c (la : List Ft) (va : Value) (w : World) (hA : Fs va la w) (hx : Asc la) (ho : ∀ c ∈ la, onL c) (hs : la.length ≤ 400) :
    Calls Tryd.prog 23 #[va] w fun e w' => e = .returned (.int .i64 0) ∧ Below w.heap.size w w' := by
  obtain ⟨A, ca, rfl, hca, hma, hA⟩ := hA
  exact check_ok la hx ho A _ ca w rfl hs hA
/-- the five sets of the law -/
structure Bv (w0 : World) (vx vy vz vj vm : Value) (x y z : List Ft) (w : World) : Prop where
  bel : Below w0.heap.size w0 w
  fx : Fs vx x w
  fy : Fs vy y w
  fz : Fs vz z w
  fj : Fs vj (joinL x y) w
  fm : Fs vm (meetL x y) w
theorem Bv.next {w0 w w' : World} {vx vy vz vj vm : Value} {x y z : List Ft} (h : Bv w0 vx vy vz vj vm x y z w) (hb : Below w.heap.size w w') : Bv w0 vx vy vz vj vm x y z w' :=
  ⟨h.bel.trans (hb.mono h.bel.size), h.fx.next hb, h.fy.next hb, h.fz.next hb, h.fj.next hb, h.fm.next hb⟩
theorem small_on {c : Ft} (h : smP c) : onL c := by
  obtain ⟨h1, h2, h3, h4⟩ := h
  exact ⟨by omega, by omega, by omega, by omega⟩
set_option maxHeartbeats 8000000 in
set_option maxRecDepth 20000 in
theorem gridBoole_int {A0 A1 A2 : Option Addr} {n0 n1 n2 c0 c1 c2 : Nat} {xs0 xs1 xs2 : List Int} (w : World) (hi0 : Ints w A0 n0 c0 xs0) (hi1 : Ints w A1 n1 c1 xs1) (hi2 : Ints w A2 n2 c2 xs2) (hT : Tab w) :
    Calls Tryd.prog 4 #[.slice A0 n0 c0, .slice A1 n1 c1, .slice A2 n2 c2] w fun e w' => e = .returned (.bool true) ∧ Below w.heap.size w w' := by
  have HI0 := Lib.hid hi0; clear hi0
  have HI1 := Lib.hid hi1; clear hi1
  have HI2 := Lib.hid hi2; clear hi2
  have HBG := Lib.hid (gbegun_any w hT); clear hT
  go_enter Tryd.func4, Tryd.ntmps4
  go_wp2_with fail
  refine HBG.out.mono ?_
  rintro e w1 ⟨rfl, hb1⟩
  have HB1 := Lib.hid hb1; clear hb1 HBG
  go_wp2_with fail
  refine (cells_any xs0 A0 n0 c0 w1 (HI0.out.nx HB1.out)).mono ?_
  rintro e w2 ⟨vx, x, rfl, fx, ax, sx, lx, hb2⟩
  have HB2 := Lib.hid (HB1.out.trans (hb2.mono HB1.out.size))
  have HX2 := Lib.hid fx
  have HXA := Lib.hid (And.intro ax (And.intro sx lx))
  clear fx ax sx lx hb2 HB1
  go_wp2_with fail
  refine (cells_any xs1 A1 n1 c1 w2 (HI1.out.nx HB2.out)).mono ?_
  rintro e w3 ⟨vy, y, rfl, fy, ay, sy, ly, hb3⟩
  have HB3 := Lib.hid (HB2.out.trans (hb3.mono HB2.out.size))
  have HX3 := Lib.hid (HX2.out.next hb3)
  have HY3 := Lib.hid fy
  have HYA := Lib.hid (And.intro ay (And.intro sy ly))
  clear fy ay sy ly hb3 HB2 HX2
  go_wp2_with fail
  refine (cells_any xs2 A2 n2 c2 w3 (HI2.out.nx HB3.out)).mono ?_
  rintro e w4 ⟨vz, z, rfl, fz, az, sz, lz, hb4⟩
  have HB4 := Lib.hid (HB3.out.trans (hb4.mono HB3.out.size))
  have HX4 := Lib.hid (HX3.out.next hb4)
  have HY4 := Lib.hid (HY3.out.next hb4)
  have HZ4 := Lib.hid fz
  have HZA := Lib.hid (And.intro az (And.intro sz lz))
  clear fz az sz lz hb4 HB3 HX3 HY3 HI0 HI1 HI2
  have lx : x.length ≤ 8 := HXA.out.2.2
  have ly : y.length ≤ 8 := HYA.out.2.2
  have lz : z.length ≤ 8 := HZA.out.2.2
  have lj : (joinL x y).length ≤ 16 := by have := joinL_len x y; omega
  have lm : (meetL x y).length ≤ 8 := by have := meetL_len x y; omega
  have HLX := Lib.hid lx
  have HLY := Lib.hid ly
  have HLZ := Lib.hid lz
  have HLJ := Lib.hid lj
  have HLM := Lib.hid lm
  clear lx ly lz lj lm
  go_wp2_with fail
  refine (gjoin_any x y vx vy w4 HX4.out HY4.out (by have := HLX.out; omega) (by have := HLY.out; omega)).mono ?_
  rintro e w5 ⟨vj, rfl, fj, hb5⟩
  have HB5 := Lib.hid (HB4.out.trans (hb5.mono HB4.out.size))
  have HX5 := Lib.hid (HX4.out.next hb5)
  have HY5 := Lib.hid (HY4.out.next hb5)
  have HZ5 := Lib.hid (HZ4.out.next hb5)
  have HJ5 := Lib.hid fj
  clear fj hb5 HB4 HX4 HY4 HZ4
  go_wp2_with fail
  refine (meet_c x y vx vy w5 HX5.out HY5.out (by have := HLX.out; omega) (by have := HLY.out; omega)).mono ?_
  rintro e w6 ⟨vm, rfl, fm, hb6⟩
  have E6 : Hid (Bv w vx vy vz vj vm x y z w6) := Lib.hid ⟨HB5.out.trans (hb6.mono HB5.out.size), HX5.out.next hb6, HY5.out.next hb6, HZ5.out.next hb6, HJ5.out.next hb6, fm⟩
  clear fm hb6 HB5 HX5 HY5 HZ5 HJ5
  obtain ⟨Ax, cx, rfl, -, -, -⟩ := E6.out.fx
  obtain ⟨Ay, cy, rfl, -, -, -⟩ := E6.out.fy
  obtain ⟨Aj, cj, rfl, -, -, -⟩ := E6.out.fj
  obtain ⟨Am, cm, rfl, -, -, -⟩ := E6.out.fm
  have HCNT := Lib.hid (law_count HXA.out.1 HYA.out.1)
  have HW3 := Lib.hid (law_in3 y HXA.out.1)
  generalize hnx : x.length = nx at E6 HCNT HLX
  generalize hny : y.length = ny at E6 HCNT HLY
  generalize hnj : (joinL x y).length = nj at E6 HCNT HLJ
  generalize hnm : (meetL x y).length = nm at E6 HCNT HLM
  have EX := Lib.hid hnx
  have EY := Lib.hid hny
  have EJ := Lib.hid hnj
  have EM := Lib.hid hnm
  clear hnx hny hnj hnm
  generalize hrb : withinL x y = rb at HW3
  have HRB := Lib.hid hrb
  clear hrb
  have hnx8 : nx ≤ 8 := HLX.out
  have hny8 : ny ≤ 8 := HLY.out
  have hnj8 : nj ≤ 16 := HLJ.out
  have hnm8 : nm ≤ 8 := HLM.out
  have hcnt : nj + nm = nx + ny := HCNT.out
  have hs1 : IntKind.i64.wrap ((nj : Int) + (nm : Int)) = (nx : Int) + (ny : Int) := by rw [i64_w _ (by omega) (by omega)]; omega
  have hs2 : IntKind.i64.wrap ((nx : Int) + (ny : Int)) = (nx : Int) + (ny : Int) := i64_w _ (by omega) (by omega)
  have HLXx : Hid (x.length ≤ 8) := Lib.hid (by rw [EX.out]; omega)
  have HLYy : Hid (y.length ≤ 8) := Lib.hid (by rw [EY.out]; omega)
  have HLJj : Hid ((joinL x y).length ≤ 16) := Lib.hid (by rw [EJ.out]; omega)
  have HLMm : Hid ((meetL x y).length ≤ 8) := Lib.hid (by rw [EM.out]; omega)
  clear hcnt hnx8 hny8 hnj8 hnm8
  go_wp2_with fail
  refine (check_c (joinL x y) _ _ E6.out.fj (joinL_asc _ _) (joinL_small (fun c hc => small_on (HXA.out.2.1 c hc)) (fun c hc => small_on (HYA.out.2.1 c hc))) (by have := HLJj.out; omega)).mono ?_
  rintro e w7 ⟨rfl, hb7⟩
  have E7 := Lib.hid (E6.out.next hb7)
  clear hb7 E6
  go_wp2_with fail
  refine (gjoin_any y x _ _ _ (E7.out.fy) (E7.out.fx) (by have := HLYy.out; omega) (by have := HLXx.out; omega)).mono ?_
  rintro e w8 ⟨v_a, rfl, f_a, hb8⟩
  have E8 := Lib.hid (E7.out.next hb8)
  have ta_8 := Lib.hid f_a
  have ta_l : Hid (((joinL y x)).length ≤ 16) := Lib.hid (by have h9 := joinL_len y x; have h7 := HLYy.out; have h8 := HLXx.out; omega)
  clear hb8 E7 f_a
  go_wp2_with fail
  refine (same_c (joinL x y) (joinL y x) _ _ _ (E8.out.fj) (ta_8.out) (by have := HLJj.out; omega) (decide_eq_true (joinL_comm x y).symm)).mono ?_
  rintro e w9 ⟨rfl, hb9⟩
  have E9 := Lib.hid (E8.out.next hb9)
  clear hb9 E8 ta_8
  go_wp2_with fail
  refine (meet_c y x _ _ _ (E9.out.fy) (E9.out.fx) (by have := HLYy.out; omega) (by have := HLXx.out; omega)).mono ?_
  rintro e w10 ⟨v_b, rfl, f_b, hb10⟩
  have E10 := Lib.hid (E9.out.next hb10)
  have tb_10 := Lib.hid f_b
  have tb_l : Hid (((meetL y x)).length ≤ 8) := Lib.hid (by have h9 := meetL_len y x; have h7 := HLYy.out; omega)
  clear hb10 E9 f_b
  go_wp2_with fail
  refine (same_c (meetL x y) (meetL y x) _ _ _ (E10.out.fm) (tb_10.out) (by have := HLMm.out; omega) (decide_eq_true (meetL_comm x y).symm)).mono ?_
  rintro e w11 ⟨rfl, hb11⟩
  have E11 := Lib.hid (E10.out.next hb11)
  clear hb11 E10 tb_10
  go_wp2_with fail
  refine (minus_c z (joinL x y) _ _ _ (E11.out.fz) (E11.out.fj) (by have := HLZ.out; omega) (by have := HLJj.out; omega)).mono ?_
  rintro e w12 ⟨v_c, rfl, f_c, hb12⟩
  have E12 := Lib.hid (E11.out.next hb12)
  have tc_12 := Lib.hid f_c
  have tc_l : Hid (((minusL z (joinL x y))).length ≤ 8) := Lib.hid (by have h9 := minusL_len z (joinL x y); have h7 := HLZ.out; omega)
  clear hb12 E11 f_c
  go_wp2_with fail
  refine (minus_c z x _ _ _ (E12.out.fz) (E12.out.fx) (by have := HLZ.out; omega) (by have := HLXx.out; omega)).mono ?_
  rintro e w13 ⟨v_d, rfl, f_d, hb13⟩
  have E13 := Lib.hid (E12.out.next hb13)
  have tc_13 := Lib.hid (tc_12.out.next hb13)
  have td_13 := Lib.hid f_d
  have td_l : Hid (((minusL z x)).length ≤ 8) := Lib.hid (by have h9 := minusL_len z x; have h7 := HLZ.out; omega)
  clear hb13 E12 f_d tc_12
  go_wp2_with fail
  refine (minus_c z y _ _ _ (E13.out.fz) (E13.out.fy) (by have := HLZ.out; omega) (by have := HLYy.out; omega)).mono ?_
  rintro e w14 ⟨v_e, rfl, f_e, hb14⟩
  have E14 := Lib.hid (E13.out.next hb14)
  have tc_14 := Lib.hid (tc_13.out.next hb14)
  have td_14 := Lib.hid (td_13.out.next hb14)
  have te_14 := Lib.hid f_e
  have te_l : Hid (((minusL z y)).length ≤ 8) := Lib.hid (by have h9 := minusL_len z y; have h7 := HLZ.out; omega)
  clear hb14 E13 f_e tc_13 td_13
  go_wp2_with fail
  refine (meet_c (minusL z x) (minusL z y) _ _ _ (td_14.out) (te_14.out) (by have := td_l.out; omega) (by have := te_l.out; omega)).mono ?_
  rintro e w15 ⟨v_f, rfl, f_f, hb15⟩
  have E15 := Lib.hid (E14.out.next hb15)
  have tc_15 := Lib.hid (tc_14.out.next hb15)
  have tf_15 := Lib.hid f_f
  have tf_l : Hid (((meetL (minusL z x) (minusL z y))).length ≤ 8) := Lib.hid (by have h9 := meetL_len (minusL z x) (minusL z y); have h7 := td_l.out; omega)
  clear hb15 E14 f_f tc_14 td_14 te_14
  go_wp2_with fail
  refine (same_c (minusL z (joinL x y)) (meetL (minusL z x) (minusL z y)) _ _ _ (tc_15.out) (tf_15.out) (by have := tc_l.out; omega) (decide_eq_true (law_minus x y z).symm)).mono ?_
  rintro e w16 ⟨rfl, hb16⟩
  have E16 := Lib.hid (E15.out.next hb16)
  clear hb16 E15 tc_15 tf_15
  go_wp2_with fail
  refine (gjoin_any y z _ _ _ (E16.out.fy) (E16.out.fz) (by have := HLYy.out; omega) (by have := HLZ.out; omega)).mono ?_
  rintro e w17 ⟨v_g, rfl, f_g, hb17⟩
  have E17 := Lib.hid (E16.out.next hb17)
  have tg_17 := Lib.hid f_g
  have tg_l : Hid (((joinL y z)).length ≤ 16) := Lib.hid (by have h9 := joinL_len y z; have h7 := HLYy.out; have h8 := HLZ.out; omega)
  clear hb17 E16 f_g
  go_wp2_with fail
  refine (meet_c x (joinL y z) _ _ _ (E17.out.fx) (tg_17.out) (by have := HLXx.out; omega) (by have := tg_l.out; omega)).mono ?_
  rintro e w18 ⟨v_h, rfl, f_h, hb18⟩
  have E18 := Lib.hid (E17.out.next hb18)
  have th_18 := Lib.hid f_h
  have th_l : Hid (((meetL x (joinL y z))).length ≤ 8) := Lib.hid (by have h9 := meetL_len x (joinL y z); have h7 := HLXx.out; omega)
  clear hb18 E17 f_h tg_17
  go_wp2_with fail
  refine (meet_c x y _ _ _ (E18.out.fx) (E18.out.fy) (by have := HLXx.out; omega) (by have := HLYy.out; omega)).mono ?_
  rintro e w19 ⟨v_i, rfl, f_i, hb19⟩
  have E19 := Lib.hid (E18.out.next hb19)
  have th_19 := Lib.hid (th_18.out.next hb19)
  have ti_19 := Lib.hid f_i
  have ti_l : Hid (((meetL x y)).length ≤ 8) := Lib.hid (by have h9 := meetL_len x y; have h7 := HLXx.out; omega)
  clear hb19 E18 f_i th_18
  go_wp2_with fail
  refine (meet_c x z _ _ _ (E19.out.fx) (E19.out.fz) (by have := HLXx.out; omega) (by have := HLZ.out; omega)).mono ?_
  rintro e w20 ⟨v_k, rfl, f_k, hb20⟩
  have E20 := Lib.hid (E19.out.next hb20)
  have th_20 := Lib.hid (th_19.out.next hb20)
  have ti_20 := Lib.hid (ti_19.out.next hb20)
  have tk_20 := Lib.hid f_k
  have tk_l : Hid (((meetL x z)).length ≤ 8) := Lib.hid (by have h9 := meetL_len x z; have h7 := HLXx.out; omega)
  clear hb20 E19 f_k th_19 ti_19
  go_wp2_with fail
  refine (gjoin_any (meetL x y) (meetL x z) _ _ _ (ti_20.out) (tk_20.out) (by have := ti_l.out; omega) (by have := tk_l.out; omega)).mono ?_
  rintro e w21 ⟨v_l, rfl, f_l, hb21⟩
  have E21 := Lib.hid (E20.out.next hb21)
  have th_21 := Lib.hid (th_20.out.next hb21)
  have tl_21 := Lib.hid f_l
  have tl_l : Hid (((joinL (meetL x y) (meetL x z))).length ≤ 16) := Lib.hid (by have h9 := joinL_len (meetL x y) (meetL x z); have h7 := ti_l.out; have h8 := tk_l.out; omega)
  clear hb21 E20 f_l th_20 ti_20 tk_20
  go_wp2_with fail
  refine (same_c (meetL x (joinL y z)) (joinL (meetL x y) (meetL x z)) _ _ _ (th_21.out) (tl_21.out) (by have := th_l.out; omega) (decide_eq_true (law_meet x y z).symm)).mono ?_
  rintro e w22 ⟨rfl, hb22⟩
  have E22 := Lib.hid (E21.out.next hb22)
  clear hb22 E21 th_21 tl_21
  go_wp2_with fail
  refine (minus_c x y _ _ _ (E22.out.fx) (E22.out.fy) (by have := HLXx.out; omega) (by have := HLYy.out; omega)).mono ?_
  rintro e w23 ⟨v_n, rfl, f_n, hb23⟩
  have E23 := Lib.hid (E22.out.next hb23)
  have tn_23 := Lib.hid f_n
  have tn_l : Hid (((minusL x y)).length ≤ 8) := Lib.hid (by have h9 := minusL_len x y; have h7 := HLXx.out; omega)
  clear hb23 E22 f_n
  go_wp2_with fail
  refine (gjoin_any (minusL x y) (meetL x y) _ _ _ (tn_23.out) (E23.out.fm) (by have := tn_l.out; omega) (by have := HLMm.out; omega)).mono ?_
  rintro e w24 ⟨v_o, rfl, f_o, hb24⟩
  have E24 := Lib.hid (E23.out.next hb24)
  have to_24 := Lib.hid f_o
  have to_l : Hid (((joinL (minusL x y) (meetL x y))).length ≤ 16) := Lib.hid (by have h9 := joinL_len (minusL x y) (meetL x y); have h7 := tn_l.out; have h8 := HLMm.out; omega)
  clear hb24 E23 f_o tn_23
  go_wp2_with fail
  refine (same_c (joinL (minusL x y) (meetL x y)) x _ _ _ (to_24.out) (E24.out.fx) (by have := to_l.out; omega) (decide_eq_true (law_back y HXA.out.1))).mono ?_
  rintro e w25 ⟨rfl, hb25⟩
  have E25 := Lib.hid (E24.out.next hb25)
  clear hb25 E24 to_24
  go_wp2_with fail
  refine (within_c (meetL x y) x _ _ _ (E25.out.fm) (E25.out.fx) (by have := HLMm.out; omega) (by have := HLXx.out; omega) (law_in1 x y)).mono ?_
  rintro e w26 ⟨rfl, hb26⟩
  have E26 := Lib.hid (E25.out.next hb26)
  clear hb26 E25
  go_wp2_with fail
  refine (within_c x (joinL x y) _ _ _ (E26.out.fx) (E26.out.fj) (by have := HLXx.out; omega) (by have := HLJj.out; omega) (law_in2 x y)).mono ?_
  rintro e w27 ⟨rfl, hb27⟩
  have E27 := Lib.hid (E26.out.next hb27)
  clear hb27 E26
  go_wp2_with fail
  refine (within_c x y _ _ _ (E27.out.fx) (E27.out.fy) (by have := HLXx.out; omega) (by have := HLYy.out; omega) (HRB.out)).mono ?_
  rintro e w28 ⟨rfl, hb28⟩
  have E28 := Lib.hid (E27.out.next hb28)
  clear hb28 E27
  go_wp2_with fail
  refine (same_c (meetL x y) x _ _ _ (E28.out.fm) (E28.out.fx) (by have := HLMm.out; omega) (HW3.out)).mono ?_
  rintro e w29 ⟨rfl, hb29⟩
  have E29 := Lib.hid (E28.out.next hb29)
  clear hb29 E28
  have HBE := Lib.hid E29.out.bel
  go_wp2_with fail
  go_ret
  exact ⟨by first | rfl | simp, HBE.out⟩
end Go.Proofs.YtoejojfjiikogaaDoor
