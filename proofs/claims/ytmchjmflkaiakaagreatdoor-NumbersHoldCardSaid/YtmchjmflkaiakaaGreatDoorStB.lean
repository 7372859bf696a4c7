/- Package sturm: trim, Eval (printed by stp.py). -/
import Derived.Test.YtmchjmflkaiakaaGreatDoorStA
import Derived.Deep.LoopGhost
import Derived.OwnWalk
namespace Go.Proofs.YtmchjmflkaiakaaGreatDoor
open Go.RowKit
set_option linter.unusedVariables false
set_option linter.unusedSimpArgs false
set_option maxHeartbeats 4000000
set_option maxRecDepth 20000
def zcell : Array Value := #[.bool false, .string ⟨#[]⟩, .string ⟨#[]⟩]
def zr (n : Nat) : List Value := (List.range (3 * n)).map fun t => zcell[t % zcell.size]!
theorem zr_len (n : Nat) : (zr n).length = 3 * n := by simp [zr]
theorem zr_succ (n : Nat) : zr (n + 1) = zcell.toList ++ zr n := by
 unfold zr
 rw [show 3 * (n + 1) = 3 + 3 * n by omega, List.range_add, List.map_append, List.map_map]
 congr 1
 refine List.map_congr_left fun t _ => ?_
 have hs : zcell.size = 3 := rfl
 show zcell[(3 + t) % zcell.size]! = zcell[t % zcell.size]!
 rw [hs, show (3 + t) % 3 = t % 3 by omega]
theorem RX_push {p : Nums} {k i : Nat} {x : Rat} (hi : p.length = i) : ((RX (zr (k + 1)) p).toList.take (3 * i) ++ (Value.agg (RC x)).cells.toList ++ (RX (zr (k + 1)) p).toList.drop (3 * i + (Value.agg (RC x)).cells.size)).toArray = RX (zr k) (p ++ [x]) := by
 subst hi
 have hs : (Value.agg (RC x)).cells.size = 3 := rfl
 have hc : (Value.agg (RC x)).cells.toList = rl x := rfl
 rw [hs, hc]
 apply Array.toList_inj.1
 show List.take (3 * p.length) (RX (zr (k + 1)) p).toList ++ rl x ++ List.drop (3 * p.length + 3) (RX (zr (k + 1)) p).toList = (RX (zr k) (p ++ [x])).toList
 rw [RX_list, RX_list, zr_succ, fr_app, List.take_append_of_le_length (by rw [fr_len]; omega), List.take_of_length_le (by rw [fr_len]; omega), ← List.append_assoc, List.drop_append, List.drop_of_length_le (by rw [List.length_append, fr_len]; show 3 * p.length + 3 ≤ 3 * p.length + 3; omega), List.nil_append]
 have e : 3 * p.length + 3 - (fr p ++ zcell.toList).length = 0 := by rw [List.length_append, fr_len]; show 3 * p.length + 3 - (3 * p.length + 3) = 0; omega
 rw [e, List.drop_zero]
 have e2 : fr [x] = rl x := by simp [fr]
 rw [e2]
theorem RX_roomZ {p : Nums} {k i : Nat} (hi : p.length = i) : 3 * i + 3 ≤ (RX (zr (k + 1)) p).size := by rw [RX_size, zr_len]; omega
theorem infoR : (Tryz.prog.info? 27).map (fun i => (i.zero, i.size, i.bytes)) = some (some (.agg #[.bool false, .string ⟨#[]⟩, .string ⟨#[]⟩]), 3, 40) := by kernel_rfl
theorem madeQ_R (n : Nat) (hb : n ≤ 1000000) (w : World) : (Instr.makeSlice 55 (.int .i64 (n : Int)) (.int .i64 (n : Int))).run Tryz.prog w = .ok (.slice (some ⟨w.heap.size, 0, none⟩) n n) (w.alloc (.cells (RX (zr n) []) 27)) := by
 obtain ⟨i, hi, hz, hs, hby⟩ := info_parts infoR
 have hb' : (i.bytes : Int) * (n : Int) ≤ 281474976710656 := by rw [hby]; omega
 have hr := run_make (P := Tryz.prog) w 55 27 i _ Tryz.underlying55 hi hz .i64 .i64 n n (by omega) (by omega) hb' (by omega)
 simp only [Int.toNat_natCast] at hr
 rw [hr]
 have e : madeCells (Value.agg #[.bool false, .string ⟨#[]⟩, .string ⟨#[]⟩]).cells (n * i.size) = RX (zr n) [] := by
  apply Array.toList_inj.1
  rw [RX_list, hs, Nat.mul_comm]
  simp [madeCells, zr, fr, zcell, Value.cells]
 rw [e]
theorem mk_step {P : Program} {o : Oper} {a : Act} {t : TypeId} {x y : Operand} {u v r : Value} {w w' : World} (ho : o.op = .makeSlice t x y) (hx : a.eval x = u) (hy : a.eval y = v) (hr : (Instr.makeSlice t u v).run P w = .ok r w') : (execOp a.eval o).run P w = .ok (.value r) w' := by
 unfold execOp
 simp only [ho, hx, hy, Sem.run_bind, hr, Result.andThen_ok, Sem.run_pure]
theorem take_succ_rx {p : Nums} {i : Nat} (h : i < p.length) : p.take (i + 1) = p.take i ++ [rx p i] := by rw [List.take_add_one, List.getElem?_eq_getElem h, rx_get h]; rfl
theorem take_len {p : Nums} {i n : Nat} (hn : p.length = n) (h : i ≤ n) : (p.take i).length = i := by rw [List.length_take]; omega
theorem sgn_zero (x : Rat) : sgnQ x = 0 ↔ x = 0 := by unfold sgnQ cmpQ; grind
theorem trim_snoc0 {p : Nums} {x : Rat} (h : x = 0) : trimL (p ++ [x]) = trimL p := by
 induction p with
 | nil => subst h; rfl
 | cons c p ih => rw [List.cons_append]; unfold trimL; rw [ih]
theorem trim_snoc {p : Nums} {x : Rat} (h : x ≠ 0) : trimL (p ++ [x]) = p ++ [x] := by
 refine trim_id fun c hc => ?_
 rw [List.getLast?_append] at hc
 simp at hc
 rw [← hc]; exact h
theorem trimP_S {K n c : Nat} {A : Option Addr} {p : Nums} (w : World) (hA : RAt w A p) (hn : p.length = n) (hz : Qz K p) (hT : Tab w) (hn2 : n ≤ 1000) (hk : K ≤ 1000000000000) :
  Calls Tryz.prog 120 #[.slice A n c] w fun e w' => RNew w (trimL p) e w' := by
 have HA := Lib.hid hA; clear hA
 have HN := Lib.hid hn; clear hn
 have HZ := Lib.hid hz; clear hz
 have HT := Lib.hid hT; clear hT
 have HK := Lib.hid hk; clear hk
 have HS0 : Hid (St w [] w) := Lib.hid St.start
 go_enter Tryz.func120, Tryz.ntmps120
 go_wp2_with fail
 go_loopg [3] n (fun kx s3 wr => ∃ m : Nat, kx = m ∧ s3 = .int .i64 (m : Int) ∧ m ≤ n ∧ Hid (trimL p = trimL (p.take m)) ∧ Hid (St w [] wr))
 case atStart => exact ⟨n, rfl, rfl, Nat.le_refl _, Lib.hid (by rw [List.take_of_length_le (by rw [HN.out]; exact Nat.le_refl _)]), HS0⟩
 case round =>
  clear HS0
  obtain ⟨m, hgk, rfl, hm, HQ, HS⟩ := hrel
  have HGK := Lib.hid hgk; clear hgk
  rcases m with _ | m
  ·go_upto_region 2 with fail
   refine wp_seq_text [] (StR.no HS.out) ?_
   iterate 3 refine pU ?_
   iterate 7 refine nW ?_
   refine pU ?_
   refine dH fun wz HS1=>?_
   clear HS
   have HS := HS1
   clear HS1
   have HQ2 : Hid (trimL p = p.take 0) := Lib.hid (by rw [HQ.out]; rfl)
   go_upto_region 4 with fail
   refine wp_seq_text [] (StR.no HS.out) ?_
   refine pU ?_
   refine Seq.slice (n := 0) (e := 27) (cs := RX (zr 0) []) rfl rfl (fun w => mk_step rfl rfl rfl (madeQ_R 0 (by omega) w)) ?_
   intro g _ _ hg
   refine nZ ?_
   refine pU ?_
   refine Seq.done fun wz hws => ?_
   have HS2 : Hid (St w [(g, 27, RX (zr (0 - 0)) (p.take 0))] wz) := Lib.hid (hws.q1)
   clear hws HS
   go_wp2_with fail
   go_loopg [25] (0) (fun kx s25 wr => ∃ i : Nat, kx = (0) - i ∧ s25 = .int .i64 (i : Int) ∧ i ≤ 0 ∧ Hid (St w [(g, 27, RX (zr (0 - i)) (p.take i))] wr))
   case atStart => exact ⟨0, rfl, rfl, Nat.zero_le _, HS2⟩
   case round =>
    clear HS2
    obtain ⟨i, hgk2, rfl, him0, HS3⟩ := hrel
    have HGK2 := Lib.hid hgk2; clear hgk2
    by_cases him : i < 0
    ·exact absurd him (Nat.not_lt_zero _)
    ·have HE : Hid (RNew w (trimL p) (.returned (.slice (some ⟨g, 0, none⟩) (0) (0))) wr) := Lib.hid (by
      have e : i = 0 := by omega
      subst e
      have h1 := HS3.out
      rw [Nat.sub_self] at h1
      have h2 : (p.take (0)).length = 0 := take_len HN.out (by omega)
      refine ⟨g, by rw [HQ2.out, h2], by rw [HQ2.out]; exact h1⟩)
     go_wp2_with fail
     go_ret
     exact HE.out
  ·have hmn : m < n := by omega
   have HM := Lib.hid (show m < p.length by rw [HN.out]; exact hmn)
   obtain ⟨g0, J, hA0, hB⟩ := HA.out.get HM.out
   have HB := Lib.hid hB; clear hB
   have hpos : (0 : Int) < (m : Int) + 1 := by omega
   have hw1 : IntKind.i64.wrap ((m : Int) + 1 - 1) = (m : Int) := by rw [show (m : Int) + 1 - 1 = (m : Int) by omega]; exact IntWalk.i64_in _ (by omega)
   by_cases hv0 : sgnQ (rx p m) = 0
   ·have HV := Lib.hid hv0
    have HQ3 : Hid (trimL p = trimL (p.take m)) := Lib.hid (by rw [HQ.out, take_succ_rx HM.out, trim_snoc0 ((sgn_zero _).1 hv0)])
    clear hv0 HQ
    subst hA0
    go_upto_region 2 with fail
    refine wp_seq_text [] (StR.no HS.out) ?_
    refine pU ?_
    refine pV (.bool true) (by intro w; go_simp <;> (first | (rw [hpos]; done) | exact hpos | omega | exact IntWalk.i64_in _ (by omega) | (go_num; done) | (simp [hpos]; done))) ?_
    iterate 3 refine pU ?_
    refine pV (.int .i64 (m : Int)) (by intro w; go_simp <;> (first | (rw [hw1]; done) | exact hw1 | omega | exact IntWalk.i64_in _ (by omega) | (go_num; done) | (simp [hw1]; done))) ?_
    refine iX 3 m hmn ?_
    refine lF HB.out (RC (rx p m)) (RX_room HM.out) (RX_at HM.out) ?_
    refine cX rfl rfl (sign_q (k := K) HT.out (HZ.out.at_ HM.out) HV.out (by have := HK.out; omega)) ?_
    iterate 2 refine pU ?_
    refine dH fun wz HS1=>?_
    clear HS
    go_wp2_with fail
    go_roundg m
    case measure => rw [HGK.out]; omega
    case rel => exact ⟨m, rfl, by go_num, by omega, HQ3, HS1⟩
   ·obtain ⟨v, hv, hvn⟩ : ∃ v, sgnQ (rx p m) = v ∧ v ≠ 0 := ⟨_, rfl, hv0⟩
    have HV := Lib.hid hv
    have hvb : (v == 0) = false := by rw [beq_eq_false_iff_ne]; exact hvn
    have HQ2 : Hid (trimL p = p.take (m + 1)) := Lib.hid (by rw [HQ.out, take_succ_rx HM.out, trim_snoc (fun e => hv0 ((sgn_zero _).2 e))])
    clear hv0 HQ hv hvn
    subst hA0
    go_upto_region 2 with fail
    refine wp_seq_text [] (StR.no HS.out) ?_
    refine pU ?_
    refine pV (.bool true) (by intro w; go_simp <;> (first | (rw [hpos]; done) | exact hpos | omega | exact IntWalk.i64_in _ (by omega) | (go_num; done) | (simp [hpos]; done))) ?_
    iterate 3 refine pU ?_
    refine pV (.int .i64 (m : Int)) (by intro w; go_simp <;> (first | (rw [hw1]; done) | exact hw1 | omega | exact IntWalk.i64_in _ (by omega) | (go_num; done) | (simp [hw1]; done))) ?_
    refine iX 3 m hmn ?_
    refine lF HB.out (RC (rx p m)) (RX_room HM.out) (RX_at HM.out) ?_
    refine cX rfl rfl (sign_q (k := K) HT.out (HZ.out.at_ HM.out) HV.out (by have := HK.out; omega)) ?_
    iterate 2 refine pU ?_
    refine dH fun wz HS1=>?_
    clear HS hvb HV
    have HS := HS1
    clear HS1
    go_upto_region 4 with fail
    refine wp_seq_text [] (StR.no HS.out) ?_
    refine pU ?_
    refine Seq.slice (n := (m + 1)) (e := 27) (cs := RX (zr (m + 1)) []) rfl rfl (fun w => mk_step rfl rfl rfl (madeQ_R (m + 1) (by omega) w)) ?_
    intro g _ _ hg
    refine nZ ?_
    refine pU ?_
    refine Seq.done fun wz hws => ?_
    have HS2 : Hid (St w [(g, 27, RX (zr ((m + 1) - 0)) (p.take 0))] wz) := Lib.hid (hws.q1)
    clear hws HS
    go_wp2_with fail
    go_loopg [25] ((m + 1)) (fun kx s25 wr => ∃ i : Nat, kx = ((m + 1)) - i ∧ s25 = .int .i64 (i : Int) ∧ i ≤ (m + 1) ∧ Hid (St w [(g, 27, RX (zr ((m + 1) - i)) (p.take i))] wr))
    case atStart => exact ⟨0, rfl, rfl, Nat.zero_le _, HS2⟩
    case round =>
     clear HS2
     obtain ⟨i, hgk2, rfl, him0, HS3⟩ := hrel
     have HGK2 := Lib.hid hgk2; clear hgk2
     by_cases him : i < (m + 1)
     ·have hin : i < n := by omega
      have HI := Lib.hid (show i < p.length by rw [HN.out]; omega)
      have HL := Lib.hid (take_len HN.out (show i ≤ n by omega))
      obtain ⟨k, hk⟩ : ∃ k, (m + 1) - i = k + 1 := ⟨(m + 1) - i - 1, by omega⟩
      have hk2 : (m + 1) - (i + 1) = k := by omega
      rw [hk] at HS3
      have HK2 := Lib.hid hk2; clear hk hk2
      have hwi : IntKind.i64.wrap ((i : Int) + 1) = (i : Int) + 1 := IntWalk.i64_in _ (by omega)
      go_upto_region 8 with fail
      refine wS [] (Reg.fin.put Reg.fin_no _ _) (StR.move (StR.no HS3.out)) ?_
      iterate 4 refine pU ?_
      refine iX 3 i hin ?_
      refine lF HB.out (RC (rx p i)) (RX_room HI.out) (RX_at HI.out) ?_
      iterate 2 refine pU ?_
      refine iX 3 i hin ?_
      refine lF HB.out (RC (rx p i)) (RX_room HI.out) (RX_at HI.out) ?_
      refine cX rfl rfl (min_q (k := K) HT.out (HZ.out.at_ HI.out) (HZ.out.at_ HI.out) (min_self _) (by have := HK.out; omega)) ?_
      refine iX 3 i him ?_
      refine Seq.storeAt (v := .agg (RC (rx p i))) rfl rfl rfl rfl rfl (by repeat first|exact rS|refine rN ‹_› ?_) (RX_roomZ HL.out) (by show _ = some 3; kernel_rfl) (RC_one _) (cs' := RX (zr k) (p.take i ++ [rx p i])) (RX_push HL.out) (nZ ?_)
      refine Seq.done fun wz2 hws => ?_
      have HS4 : Hid (St w [(g, 27, RX (zr ((m + 1) - (i + 1))) (p.take (i + 1)))] wz2) := Lib.hid (by rw [HK2.out, take_succ_rx HI.out]; exact hws.q1)
      clear hws HS3
      go_wp2_with fail
      go_roundg (((m + 1)) - (i + 1))
      case measure => rw [HGK2.out]; omega
      case rel => exact ⟨i + 1, rfl, by go_num, by omega, HS4⟩
     ·have HE : Hid (RNew w (trimL p) (.returned (.slice (some ⟨g, 0, none⟩) ((m + 1)) ((m + 1)))) wr) := Lib.hid (by
       have e : i = (m + 1) := by omega
       subst e
       have h1 := HS3.out
       rw [Nat.sub_self] at h1
       have h2 : (p.take ((m + 1))).length = (m + 1) := take_len HN.out (by omega)
       refine ⟨g, by rw [HQ2.out, h2], by rw [HQ2.out]; exact h1⟩)
      go_wp2_with fail
      go_ret
      exact HE.out
theorem evz_at {K : Nat} {x : Rat} : ∀ {p : Nums} {m : Nat}, EvZ K p x → m < p.length → Rz K (ev (p.drop (m + 1)) x) ∧ Rz K (ev (p.drop (m + 1)) x * x) ∧ Rz K (rx p m) ∧ ev (p.drop (m + 1)) x * x + rx p m = ev (p.drop m) x
 | c :: p, 0, h, _ => ⟨h.2.1, h.2.2.1, h.2.2.2, rfl⟩
 | c :: p, m + 1, h, hm => by
   have := evz_at (p := p) (m := m) h.1 (by simpa using hm)
   exact this
theorem evalP_S {K n c : Nat} {A : Option Addr} {p : Nums} {x : Rat} {W : World} {l : List Own} (hT : Tab W) (hA : RAt W A p) (hn : p.length = n) (hz : EvZ K p x) (hx : Rz K x) (hn2 : n ≤ 1000) (hk : K ≤ 1000000000000) (w : World) (h : St W l w) :
  Calls Tryz.prog 28 #[.slice A n c, .agg (RC x)] w fun e w' => e = .returned (.agg (RC (ev p x))) ∧ Below w.heap.size w w' := by
 have HA := Lib.hid (hA.next h.below); clear hA
 have HN := Lib.hid hn; clear hn
 have HZ := Lib.hid hz; clear hz
 have HX := Lib.hid hx; clear hx
 have HT := Lib.hid (tabS hT h); clear hT h
 have HK := Lib.hid hk; clear hk
 have HS0 : Hid (St w [] w) := Lib.hid St.start
 go_enter Tryz.func28, Tryz.ntmps28
 go_upto_region 0 with fail
 refine wp_seq_text [] (StR.no HS0.out) ?_
 refine bX (RC x) ?_
 intro b3 _ _ hb3
 refine nZ ?_
 refine aL3 ?_
 intro b4 _ _ hb4
 obtain ⟨_, _, hb4⟩ := Reg.ne2 hb4
 refine nZ ?_
 refine d2 b3 b4 fun _ HS1=>?_
 clear HS0
 go_upto_region 1 with fail
 refine rgT [] HS1 ?_
 refine cX rfl rfl (of_q (n := 0) (z := 0) HT.out (by omega) (by omega) (by simp)) ?_
 refine aL3 ?_
 intro b5 _ _ hb5
 refine nZ ?_
 refine sV (RC_one _) ?_
 refine Seq.done fun w1 hws => ?_
 have HS2 : Hid (St w [(b5, 27, RC (ev (p.drop n) x)), (b3, 27, RC x), (b4, 27, #[.bool false, .string ⟨#[]⟩, .string ⟨#[]⟩])] w1) := Lib.hid (by
  rw [List.drop_of_length_le (by rw [HN.out]; exact Nat.le_refl _)]
  exact hws.q1)
 clear hws HS1
 go_wp2_with fail
 go_loopg [6] n (fun kx s6 wr => ∃ m : Nat, kx = m ∧ s6 = .int .i64 ((m : Int) - 1) ∧ m ≤ n ∧ Hid (St w [(b5, 27, RC (ev (p.drop m) x)), (b3, 27, RC x), (b4, 27, #[.bool false, .string ⟨#[]⟩, .string ⟨#[]⟩])] wr))
 case atStart => exact ⟨n, rfl, by go_num, Nat.le_refl _, HS2⟩
 case round =>
  clear HS2
  obtain ⟨m, hgk, rfl, hm, HS⟩ := hrel
  have HGK := Lib.hid hgk; clear hgk
  rcases m with _ | m
  ·have HS3 := Lib.hid (StR.move (e := (b4, 27, #[.bool false, .string ⟨#[]⟩, .string ⟨#[]⟩])) (l := [(b5, 27, RC (ev p x)), (b3, 27, RC x)]) (StR.no (St.perm HS.out (l' := (b4, 27, #[.bool false, .string ⟨#[]⟩, .string ⟨#[]⟩]) :: [(b5, 27, RC (ev p x)), (b3, 27, RC x)]) (by rw [List.drop_zero]; exact (List.perm_middle (l₁ := [_, _]) (l₂ := []))))))
   go_upto_region 6 with fail
   refine wp_seq_text [] HS3.out ?_
   refine lV ?_
   refine sV (RC_one _) ?_
   refine Seq.done fun w2 hws => ?_
   have HS4 := hws.q1
   clear hws HS HS3
   go_wp2_with fail
   exact rO HS4 ⟨rfl, HS4.below⟩
  ·have hmn : m < n := by omega
   have HM := Lib.hid (show m < p.length by rw [HN.out]; exact hmn)
   obtain ⟨g0, J, rfl, hB⟩ := HA.out.get HM.out
   have HB := Lib.hid hB; clear hB
   have hge : (0 : Int) ≤ (m : Int) := by omega
   have hw0 : ((m : Int) + 1 - 1) = (m : Int) := by omega
   have hw1 : IntKind.i64.wrap ((m : Int) - 1) = (m : Int) - 1 := IntWalk.i64_in _ (by omega)
   have HE := Lib.hid (evz_at HZ.out HM.out)
   have HE1 := Lib.hid HE.out.1
   have HE2 := Lib.hid HE.out.2.1
   have HE3 := Lib.hid HE.out.2.2.1
   have HSUM := Lib.hid HE.out.2.2.2
   go_upto_region 5 with fail
   refine wS [0] (Reg.fin.put Reg.fin_no _ _) (StR.move (StR.no HS.out)) ?_
   refine gV ?_
   refine lV ?_
   refine cX rfl rfl (mul_q (k := K) HT.out HE1.out HX.out rfl (by have := HK.out; omega)) ?_
   iterate 2 refine pU ?_
   refine iX 3 m hmn ?_
   refine lF HB.out (RC (rx p m)) (RX_room HM.out) (RX_at HM.out) ?_
   refine cX rfl rfl (add_q (k := K) HT.out HE2.out HE3.out HSUM.out (by have := HK.out; omega)) ?_
   refine sV (RC_one _) ?_
   refine Seq.done fun w2 hws => ?_
   have HS4 := Lib.hid (hws.q1)
   clear hws HS
   go_wp2_with fail
   go_roundg m
   case measure => rw [HGK.out]; omega
   case rel => exact ⟨m, rfl, by go_num, by omega, HS4⟩
end Go.Proofs.YtmchjmflkaiakaaGreatDoor
