/- Joined texts: StB StC. -/
import Derived.Test.YtmchjmflkaiakaaGreatDoorStA
import Derived.Deep.LoopGhost
import Derived.OwnWalk
set_option maxHeartbeats 4000000
set_option maxRecDepth 20000
namespace Go.Proofs.YtmchjmflkaiakaaGreatDoor
open Go.RowKit
set_option linter.unusedVariables false
set_option linter.unusedSimpArgs false
def zcell : Array Value := #[.bool false, .string ⟨#[]⟩, .string ⟨#[]⟩]
def zr (n : Nat) : List Value := (List.range (3 * n)).map fun t => zcell[t % zcell.size]!
theorem zr_len (n : Nat) : (zr n).length = 3 * n := by simp [zr]
theorem zr_succ (n : Nat) : zr (n + 1) = zcell.toList ++ zr n := by
 unfold zr
 rw [show 3 * (n + 1) = 3 + 3 * n by omega, List.range_add, List.map_append, List.map_map]
 congr 1
 refine List.map_congr_left fun t _ => ?_
 have hs : zcell.size = 3 := rfl
 show zcell[(3 + t) % zcell.size]! = zcell[t % zcell.size]!
 rw [hs, show (3 + t) % 3 = t % 3 by omega]
theorem RX_push {p : Nums} {k i : Nat} {x : Rat} (hi : p.length = i) : ((RX (zr (k + 1)) p).toList.take (3 * i) ++ (Value.agg (RC x)).cells.toList ++ (RX (zr (k + 1)) p).toList.drop (3 * i + (Value.agg (RC x)).cells.size)).toArray = RX (zr k) (p ++ [x]) := by
 subst hi
 have hs : (Value.agg (RC x)).cells.size = 3 := rfl
 have hc : (Value.agg (RC x)).cells.toList = rl x := rfl
 rw [hs, hc]
 apply Array.toList_inj.1
 show List.take (3 * p.length) (RX (zr (k + 1)) p).toList ++ rl x ++ List.drop (3 * p.length + 3) (RX (zr (k + 1)) p).toList = (RX (zr k) (p ++ [x])).toList
 rw [RX_list, RX_list, zr_succ, fr_app, List.take_append_of_le_length (by rw [fr_len]; omega), List.take_of_length_le (by rw [fr_len]; omega), ← List.append_assoc, List.drop_append, List.drop_of_length_le (by rw [List.length_append, fr_len]; show 3 * p.length + 3 ≤ 3 * p.length + 3; omega), List.nil_append]
 have e : 3 * p.length + 3 - (fr p ++ zcell.toList).length = 0 := by rw [List.length_append, fr_len]; show 3 * p.length + 3 - (3 * p.length + 3) = 0; omega
 rw [e, List.drop_zero]
 have e2 : fr [x] = rl x := by simp [fr]
 rw [e2]
theorem RX_roomZ {p : Nums} {k i : Nat} (hi : p.length = i) : 3 * i + 3 ≤ (RX (zr (k + 1)) p).size := by rw [RX_size, zr_len]; omega
theorem infoR : (Tryz.prog.info? 27).map (fun i => (i.zero, i.size, i.bytes)) = some (some (.agg #[.bool false, .string ⟨#[]⟩, .string ⟨#[]⟩]), 3, 40) := by kernel_rfl
theorem madeQ_R (n : Nat) (hb : n ≤ 1000000) (w : World) : (Instr.makeSlice 55 (.int .i64 (n : Int)) (.int .i64 (n : Int))).run Tryz.prog w = .ok (.slice (some ⟨w.heap.size, 0, none⟩) n n) (w.alloc (.cells (RX (zr n) []) 27)) := by
 obtain ⟨i, hi, hz, hs, hby⟩ := info_parts infoR
 have hb' : (i.bytes : Int) * (n : Int) ≤ 281474976710656 := by rw [hby]; omega
 have hr := run_make (P := Tryz.prog) w 55 27 i _ Tryz.underlying55 hi hz .i64 .i64 n n (by omega) (by omega) hb' (by omega)
 simp only [Int.toNat_natCast] at hr
 rw [hr]
 have e : madeCells (Value.agg #[.bool false, .string ⟨#[]⟩, .string ⟨#[]⟩]).cells (n * i.size) = RX (zr n) [] := by
  apply Array.toList_inj.1
  rw [RX_list, hs, Nat.mul_comm]
  simp [madeCells, zr, fr, zcell, Value.cells]
 rw [e]
theorem mk_step {P : Program} {o : Oper} {a : Act} {t : TypeId} {x y : Operand} {u v r : Value} {w w' : World} (ho : o.op = .makeSlice t x y) (hx : a.eval x = u) (hy : a.eval y = v) (hr : (Instr.makeSlice t u v).run P w = .ok r w') : (execOp a.eval o).run P w = .ok (.value r) w' := by
 unfold execOp
 simp only [ho, hx, hy, Sem.run_bind, hr, Result.andThen_ok, Sem.run_pure]
theorem take_succ_rx {p : Nums} {i : Nat} (h : i < p.length) : p.take (i + 1) = p.take i ++ [rx p i] := by rw [List.take_add_one, List.getElem?_eq_getElem h, rx_get h]; rfl
theorem take_len {p : Nums} {i n : Nat} (hn : p.length = n) (h : i ≤ n) : (p.take i).length = i := by rw [List.length_take]; omega
theorem sgn_zero (x : Rat) : sgnQ x = 0 ↔ x = 0 := by unfold sgnQ cmpQ; grind
theorem trim_snoc0 {p : Nums} {x : Rat} (h : x = 0) : trimL (p ++ [x]) = trimL p := by
 induction p with
 | nil => subst h; rfl
 | cons c p ih => rw [List.cons_append]; unfold trimL; rw [ih]
theorem trim_snoc {p : Nums} {x : Rat} (h : x ≠ 0) : trimL (p ++ [x]) = p ++ [x] := by
 refine trim_id fun c hc => ?_
 rw [List.getLast?_append] at hc
 simp at hc
 rw [← hc]; exact h
theorem trimP_S {K n c : Nat} {A : Option Addr} {p : Nums} (w : World) (hA : RAt w A p) (hn : p.length = n) (hz : Qz K p) (hT : Tab w) (hn2 : n ≤ 1000) (hk : K ≤ 1000000000000) :
  Calls Tryz.prog 120 #[.slice A n c] w fun e w' => RNew w (trimL p) e w' := by
 have HA := yh hA; clear hA
 have HN := yh hn; clear hn
 have HZ := yh hz; clear hz
 have HT := yh hT; clear hT
 have HK := yh hk; clear hk
 have HS0 : Hid (St w [] w) := yh St.start
 go_enter Tryz.func120, Tryz.ntmps120
 go_wp2_with fail
 go_loopg [3] n (fun kx s3 wr => ∃ m : Nat, kx = m ∧ s3 = .int .i64 (m : Int) ∧ m ≤ n ∧ Hid (trimL p = trimL (p.take m)) ∧ Hid (St w [] wr))
 case atStart => exact ⟨n, rfl, rfl, Nat.le_refl _, yh (by rw [List.take_of_length_le (by rw [HN.out]; exact Nat.le_refl _)]), HS0⟩
 case round =>
  clear HS0
  obtain ⟨m, hgk, rfl, hm, HQ, HS⟩ := hrel
  have HGK := yh hgk; clear hgk
  rcases m with _ | m
  ·go_upto_region 2 with fail
   refine wp_seq_text [] (StR.no HS.out) ?_
   iterate 3 refine pU ?_
   iterate 7 refine nW ?_
   refine pU ?_
   refine dnH fun wz HS1=>?_
   clear HS
   have HS := HS1
   clear HS1
   have HQ2 : Hid (trimL p = p.take 0) := yh (by rw [HQ.out]; rfl)
   go_upto_region 4 with fail
   refine wp_seq_text [] (StR.no HS.out) ?_
   refine pU ?_
   refine Seq.slice (n := 0) (e := 27) (cs := RX (zr 0) []) rfl rfl (fun w => mk_step rfl rfl rfl (madeQ_R 0 (by omega) w)) ?_
   intro g _ _ hg
   refine nZ ?_
   refine pU ?_
   refine Seq.done fun wz hws => ?_
   have HS2 : Hid (St w [(g, 27, RX (zr (0 - 0)) (p.take 0))] wz) := yh (hws.q1)
   clear hws HS
   go_wp2_with fail
   go_loopg [25] (0) (fun kx s25 wr => ∃ i : Nat, kx = (0) - i ∧ s25 = .int .i64 (i : Int) ∧ i ≤ 0 ∧ Hid (St w [(g, 27, RX (zr (0 - i)) (p.take i))] wr))
   case atStart => exact ⟨0, rfl, rfl, Nat.zero_le _, HS2⟩
   case round =>
    clear HS2
    obtain ⟨i, hgk2, rfl, him0, HS3⟩ := hrel
    have HGK2 := yh hgk2; clear hgk2
    by_cases him : i < 0
    ·exact absurd him (Nat.not_lt_zero _)
    ·have HE : Hid (RNew w (trimL p) (.returned (.slice (some ⟨g, 0, none⟩) (0) (0))) wr) := yh (by
      have e : i = 0 := by omega
      subst e
      have h1 := HS3.out
      rw [Nat.sub_self] at h1
      have h2 : (p.take (0)).length = 0 := take_len HN.out (by omega)
      refine ⟨g, by rw [HQ2.out, h2], by rw [HQ2.out]; exact h1⟩)
     go_wp2_with fail
     go_ret
     exact HE.out
  ·have hmn : m < n := by omega
   have HM := yh (show m < p.length by rw [HN.out]; exact hmn)
   obtain ⟨g0, J, hA0, hB⟩ := HA.out.get HM.out
   have HB := yh hB; clear hB
   have hpos : (0 : Int) < (m : Int) + 1 := by omega
   have hw1 : IntKind.i64.wrap ((m : Int) + 1 - 1) = (m : Int) := by rw [show (m : Int) + 1 - 1 = (m : Int) by omega]; exact IntWalk.i64_in _ (by omega)
   by_cases hv0 : sgnQ (rx p m) = 0
   ·have HV := yh hv0
    have HQ3 : Hid (trimL p = trimL (p.take m)) := yh (by rw [HQ.out, take_succ_rx HM.out, trim_snoc0 ((sgn_zero _).1 hv0)])
    clear hv0 HQ
    subst hA0
    go_upto_region 2 with fail
    refine wp_seq_text [] (StR.no HS.out) ?_
    refine pU ?_
    refine pV (.bool true) (by intro w; go_simp <;> (first | (rw [hpos]; done) | exact hpos | omega | exact IntWalk.i64_in _ (by omega) | (go_num; done) | (simp [hpos]; done))) ?_
    iterate 3 refine pU ?_
    refine pV (.int .i64 (m : Int)) (by intro w; go_simp <;> (first | (rw [hw1]; done) | exact hw1 | omega | exact IntWalk.i64_in _ (by omega) | (go_num; done) | (simp [hw1]; done))) ?_
    refine iX 3 m hmn ?_
    refine lF HB.out (RC (rx p m)) (RX_room HM.out) (RX_at HM.out) ?_
    refine cX rfl rfl (sign_q (k := K) HT.out (HZ.out.at_ HM.out) HV.out (by have := HK.out; omega)) ?_
    iterate 2 refine pU ?_
    refine dnH fun wz HS1=>?_
    clear HS
    go_wp2_with fail
    go_roundg m
    case measure => rw [HGK.out]; omega
    case rel => exact ⟨m, rfl, by go_num, by omega, HQ3, HS1⟩
   ·obtain ⟨v, hv, hvn⟩ : ∃ v, sgnQ (rx p m) = v ∧ v ≠ 0 := ⟨_, rfl, hv0⟩
    have HV := yh hv
    have hvb : (v == 0) = false := by rw [beq_eq_false_iff_ne]; exact hvn
    have HQ2 : Hid (trimL p = p.take (m + 1)) := yh (by rw [HQ.out, take_succ_rx HM.out, trim_snoc (fun e => hv0 ((sgn_zero _).2 e))])
    clear hv0 HQ hv hvn
    subst hA0
    go_upto_region 2 with fail
    refine wp_seq_text [] (StR.no HS.out) ?_
    refine pU ?_
    refine pV (.bool true) (by intro w; go_simp <;> (first | (rw [hpos]; done) | exact hpos | omega | exact IntWalk.i64_in _ (by omega) | (go_num; done) | (simp [hpos]; done))) ?_
    iterate 3 refine pU ?_
    refine pV (.int .i64 (m : Int)) (by intro w; go_simp <;> (first | (rw [hw1]; done) | exact hw1 | omega | exact IntWalk.i64_in _ (by omega) | (go_num; done) | (simp [hw1]; done))) ?_
    refine iX 3 m hmn ?_
    refine lF HB.out (RC (rx p m)) (RX_room HM.out) (RX_at HM.out) ?_
    refine cX rfl rfl (sign_q (k := K) HT.out (HZ.out.at_ HM.out) HV.out (by have := HK.out; omega)) ?_
    iterate 2 refine pU ?_
    refine dnH fun wz HS1=>?_
    clear HS hvb HV
    have HS := HS1
    clear HS1
    go_upto_region 4 with fail
    refine wp_seq_text [] (StR.no HS.out) ?_
    refine pU ?_
    refine Seq.slice (n := (m + 1)) (e := 27) (cs := RX (zr (m + 1)) []) rfl rfl (fun w => mk_step rfl rfl rfl (madeQ_R (m + 1) (by omega) w)) ?_
    intro g _ _ hg
    refine nZ ?_
    refine pU ?_
    refine Seq.done fun wz hws => ?_
    have HS2 : Hid (St w [(g, 27, RX (zr ((m + 1) - 0)) (p.take 0))] wz) := yh (hws.q1)
    clear hws HS
    go_wp2_with fail
    go_loopg [25] ((m + 1)) (fun kx s25 wr => ∃ i : Nat, kx = ((m + 1)) - i ∧ s25 = .int .i64 (i : Int) ∧ i ≤ (m + 1) ∧ Hid (St w [(g, 27, RX (zr ((m + 1) - i)) (p.take i))] wr))
    case atStart => exact ⟨0, rfl, rfl, Nat.zero_le _, HS2⟩
    case round =>
     clear HS2
     obtain ⟨i, hgk2, rfl, him0, HS3⟩ := hrel
     have HGK2 := yh hgk2; clear hgk2
     by_cases him : i < (m + 1)
     ·have hin : i < n := by omega
      have HI := yh (show i < p.length by rw [HN.out]; omega)
      have HL := yh (take_len HN.out (show i ≤ n by omega))
      obtain ⟨k, hk⟩ : ∃ k, (m + 1) - i = k + 1 := ⟨(m + 1) - i - 1, by omega⟩
      have hk2 : (m + 1) - (i + 1) = k := by omega
      rw [hk] at HS3
      have HK2 := yh hk2; clear hk hk2
      have hwi : IntKind.i64.wrap ((i : Int) + 1) = (i : Int) + 1 := IntWalk.i64_in _ (by omega)
      go_upto_region 8 with fail
      refine wS [] (Reg.fin.put Reg.fin_no _ _) (StR.move (StR.no HS3.out)) ?_
      iterate 4 refine pU ?_
      refine iX 3 i hin ?_
      refine lF HB.out (RC (rx p i)) (RX_room HI.out) (RX_at HI.out) ?_
      iterate 2 refine pU ?_
      refine iX 3 i hin ?_
      refine lF HB.out (RC (rx p i)) (RX_room HI.out) (RX_at HI.out) ?_
      refine cX rfl rfl (min_q (k := K) HT.out (HZ.out.at_ HI.out) (HZ.out.at_ HI.out) (min_self _) (by have := HK.out; omega)) ?_
      refine iX 3 i him ?_
      refine Seq.storeAt (v := .agg (RC (rx p i))) rfl rfl rfl rfl rfl (by repeat first|exact rS|refine rN ‹_› ?_) (RX_roomZ HL.out) (by show _ = some 3; kernel_rfl) (RC_one _) (cs' := RX (zr k) (p.take i ++ [rx p i])) (RX_push HL.out) (nZ ?_)
      refine Seq.done fun wz2 hws => ?_
      have HS4 : Hid (St w [(g, 27, RX (zr ((m + 1) - (i + 1))) (p.take (i + 1)))] wz2) := yh (by rw [HK2.out, take_succ_rx HI.out]; exact hws.q1)
      clear hws HS3
      go_wp2_with fail
      go_roundg (((m + 1)) - (i + 1))
      case measure => rw [HGK2.out]; omega
      case rel => exact ⟨i + 1, rfl, by go_num, by omega, HS4⟩
     ·have HE : Hid (RNew w (trimL p) (.returned (.slice (some ⟨g, 0, none⟩) ((m + 1)) ((m + 1)))) wr) := yh (by
       have e : i = (m + 1) := by omega
       subst e
       have h1 := HS3.out
       rw [Nat.sub_self] at h1
       have h2 : (p.take ((m + 1))).length = (m + 1) := take_len HN.out (by omega)
       refine ⟨g, by rw [HQ2.out, h2], by rw [HQ2.out]; exact h1⟩)
      go_wp2_with fail
      go_ret
      exact HE.out
theorem evz_at {K : Nat} {x : Rat} : ∀ {p : Nums} {m : Nat}, EvZ K p x → m < p.length → Rz K (ev (p.drop (m + 1)) x) ∧ Rz K (ev (p.drop (m + 1)) x * x) ∧ Rz K (rx p m) ∧ ev (p.drop (m + 1)) x * x + rx p m = ev (p.drop m) x
 | c :: p, 0, h, _ => ⟨h.2.1, h.2.2.1, h.2.2.2, rfl⟩
 | c :: p, m + 1, h, hm => by
   have := evz_at (p := p) (m := m) h.1 (by simpa using hm)
   exact this
theorem evalP_S {K n c : Nat} {A : Option Addr} {p : Nums} {x : Rat} {W : World} {l : List Own} (hT : Tab W) (hA : RAt W A p) (hn : p.length = n) (hz : EvZ K p x) (hx : Rz K x) (hn2 : n ≤ 1000) (hk : K ≤ 1000000000000) (w : World) (h : St W l w) : Rt 28 #[.slice A n c, .agg (RC x)] w (.agg (RC (ev p x))) := by
 have HA := yh (hA.next h.below); clear hA
 have HN := yh hn; clear hn
 have HZ := yh hz; clear hz
 have HX := yh hx; clear hx
 have HT := yh (tabS hT h); clear hT h
 have HK := yh hk; clear hk
 have HS0 : Hid (St w [] w) := yh St.start
 go_enter Tryz.func28, Tryz.ntmps28
 go_upto_region 0 with fail
 refine wp_seq_text [] (StR.no HS0.out) ?_
 refine bX (RC x) ?_
 intro b3 _ _ hb3
 refine nZ ?_
 refine aL3 ?_
 intro b4 _ _ hb4
 obtain ⟨_, _, hb4⟩ := Reg.ne2 hb4
 refine nZ ?_
 refine dn2 b3 b4 fun _ HS1=>?_
 clear HS0
 go_upto_region 1 with fail
 refine rgT [] HS1 ?_
 refine cX rfl rfl (of_q (n := 0) (z := 0) HT.out (by omega) (by omega) (by simp)) ?_
 refine aL3 ?_
 intro b5 _ _ hb5
 refine nZ ?_
 refine sV (RC_one _) ?_
 refine Seq.done fun w1 hws => ?_
 have HS2 : Hid (St w [(b5, 27, RC (ev (p.drop n) x)), (b3, 27, RC x), (b4, 27, #[.bool false, .string ⟨#[]⟩, .string ⟨#[]⟩])] w1) := yh (by
  rw [List.drop_of_length_le (by rw [HN.out]; exact Nat.le_refl _)]
  exact hws.q1)
 clear hws HS1
 go_wp2_with fail
 go_loopg [6] n (fun kx s6 wr => ∃ m : Nat, kx = m ∧ s6 = .int .i64 ((m : Int) - 1) ∧ m ≤ n ∧ Hid (St w [(b5, 27, RC (ev (p.drop m) x)), (b3, 27, RC x), (b4, 27, #[.bool false, .string ⟨#[]⟩, .string ⟨#[]⟩])] wr))
 case atStart => exact ⟨n, rfl, by go_num, Nat.le_refl _, HS2⟩
 case round =>
  clear HS2
  obtain ⟨m, hgk, rfl, hm, HS⟩ := hrel
  have HGK := yh hgk; clear hgk
  rcases m with _ | m
  ·have HS3 := yh (StR.move (e := (b4, 27, #[.bool false, .string ⟨#[]⟩, .string ⟨#[]⟩])) (l := [(b5, 27, RC (ev p x)), (b3, 27, RC x)]) (StR.no (St.perm HS.out (l' := (b4, 27, #[.bool false, .string ⟨#[]⟩, .string ⟨#[]⟩]) :: [(b5, 27, RC (ev p x)), (b3, 27, RC x)]) (by rw [List.drop_zero]; exact (List.perm_middle (l₁ := [_, _]) (l₂ := []))))))
   go_upto_region 6 with fail
   refine wp_seq_text [] HS3.out ?_
   refine lV ?_
   refine sV (RC_one _) ?_
   refine Seq.done fun w2 hws => ?_
   have HS4 := hws.q1
   clear hws HS HS3
   go_wp2_with fail
   exact rO HS4 ⟨rfl, HS4.below⟩
  ·have hmn : m < n := by omega
   have HM := yh (show m < p.length by rw [HN.out]; exact hmn)
   obtain ⟨g0, J, rfl, hB⟩ := HA.out.get HM.out
   have HB := yh hB; clear hB
   have hge : (0 : Int) ≤ (m : Int) := by omega
   have hw0 : ((m : Int) + 1 - 1) = (m : Int) := by omega
   have hw1 : IntKind.i64.wrap ((m : Int) - 1) = (m : Int) - 1 := IntWalk.i64_in _ (by omega)
   have HE := yh (evz_at HZ.out HM.out)
   have HE1 := yh HE.out.1
   have HE2 := yh HE.out.2.1
   have HE3 := yh HE.out.2.2.1
   have HSUM := yh HE.out.2.2.2
   go_upto_region 5 with fail
   refine wS [0] (Reg.fin.put Reg.fin_no _ _) (StR.move (StR.no HS.out)) ?_
   refine gV ?_
   refine lV ?_
   refine cX rfl rfl (mul_q (k := K) HT.out HE1.out HX.out rfl (by have := HK.out; omega)) ?_
   iterate 2 refine pU ?_
   refine iX 3 m hmn ?_
   refine lF HB.out (RC (rx p m)) (RX_room HM.out) (RX_at HM.out) ?_
   refine cX rfl rfl (add_q (k := K) HT.out HE2.out HE3.out HSUM.out (by have := HK.out; omega)) ?_
   refine sV (RC_one _) ?_
   refine Seq.done fun w2 hws => ?_
   have HS4 := yh (hws.q1)
   clear hws HS
   go_wp2_with fail
   go_roundg m
   case measure => rw [HGK.out]; omega
   case rel => exact ⟨m, rfl, by go_num, by omega, HS4⟩
theorem last_rx {p : Nums} {n : Nat} (hn : p.length = n) : p.getLast?.getD 0 = rx p (n - 1) := by
 subst hn
 unfold rx
 rw [List.getLast?_eq_getElem?, List.getD_eq_getElem?_getD]
theorem scaled_len (p : Nums) : (scaledL p).length = p.length := by simp [scaledL]
theorem scaled_rx {p : Nums} {n i : Nat} (hn : p.length = n) (hi : i < p.length) : rx (scaledL p) i = rx p i / absQ (rx p (n - 1)) := by
 rw [← last_rx hn]
 have h2 : i < (scaledL p).length := by rw [scaled_len]; exact hi
 rw [← rx_get h2, ← rx_get hi]
 simp [scaledL]
 rfl
theorem RNew.fresh {W : World} {q : Nums} {n : Nat} (hn : q.length = n) {e : Ending} {w' : World} (h : RNew W q e w') : ∃ p, W.heap.size ≤ p ∧ e = .returned (mk (some n) p) ∧ Below W.heap.size W w' ∧ Blk w' p 27 (RX [] q) := by
 obtain ⟨g, h1, h2⟩ := h
 have hb := h2.blk _ List.mem_cons_self
 exact ⟨g, hb.1, by rw [h1, hn]; rfl, h2.below, hb.2⟩
theorem abs_pos_ne {x : Rat} (h : x ≠ 0) : absQ x ≠ 0 := by unfold absQ; grind
theorem scaledP_S {K n c : Nat} {A : Option Addr} {p : Nums} (w : World) (hA : RAt w A p) (hn : p.length = n) (hz : Qz K p) (hl : p ≠ [] → p.getLast?.getD 0 ≠ 0) (hT : Tab w) (hn2 : n ≤ 1000) (hk : K ≤ 1000000000000) :
  Calls Tryz.prog 158 #[.slice A n c] w fun e w' => RNew w (scaledL p) e w' := by
 have HA := yh hA; clear hA
 have HN := yh hn; clear hn
 have HZ := yh hz; clear hz
 have HLD := yh hl; clear hl
 have HT := yh hT; clear hT
 have HK := yh hk; clear hk
 have HQN : Hid ((scaledL p).length = n) := yh (by rw [scaled_len]; exact HN.out)
 have HS0 : Hid (St w [] w) := yh St.start
 go_enter Tryz.func158, Tryz.ntmps158
 go_upto_region 1 with fail
 refine wp_seq_text [] (StR.no HS0.out) ?_
 iterate 2 refine pU ?_
 refine Seq.slice (n := n) (e := 27) (cs := RX (zr n) []) rfl rfl (fun w => mk_step rfl rfl rfl (madeQ_R n (by omega) w)) ?_
 intro g _ _ hg
 refine nZ ?_
 refine pU ?_
 refine Seq.done fun wz hws => ?_
 have HS2 : Hid (St w [(g, 27, RX (zr (n - 0)) ((scaledL p).take 0))] wz) := yh (hws.q1)
 clear hws HS0
 go_wp2_with fail
 go_loopg [11] n (fun kx s11 wr => ∃ i : Nat, kx = n - i ∧ s11 = .int .i64 (i : Int) ∧ i ≤ n ∧ Hid (St w [(g, 27, RX (zr (n - i)) ((scaledL p).take i))] wr))
 case atStart => exact ⟨0, rfl, rfl, Nat.zero_le _, HS2⟩
 case round =>
  clear HS2
  obtain ⟨i, hgk2, rfl, hile, HS3⟩ := hrel
  have HGK2 := yh hgk2; clear hgk2
  by_cases hin : i < n
  ·have HI := yh (show i < p.length by rw [HN.out]; omega)
   have HI1 := yh (show n - 1 < p.length by rw [HN.out]; omega)
   have hn1 : n - 1 < n := by omega
   have HQI := yh (show i < (scaledL p).length by rw [HQN.out]; omega)
   have HL := yh (take_len HQN.out (show i ≤ n by omega))
   obtain ⟨g0, J, rfl, hB⟩ := HA.out.get HI.out
   have HB := yh hB; clear hB
   have HNZ : Hid (rx p (n - 1) ≠ 0) := yh (by rw [← last_rx HN.out]; exact HLD.out (fun e => by have := HI.out; rw [e] at this; simp at this))
   obtain ⟨y, hy⟩ : ∃ y, absQ (rx p (n - 1)) = y := ⟨_, rfl⟩
   have HY := yh hy; clear hy
   have HYZ : Hid (Rz K y) := yh (by rw [← HY.out]; exact (HZ.out.at_ HI1.out).abs)
   have HYN : Hid (y ≠ 0) := yh (by rw [← HY.out]; exact abs_pos_ne HNZ.out)
   have HD : Hid (rx p i / y = rx (scaledL p) i) := yh (by rw [← HY.out]; exact (scaled_rx HN.out HI.out).symm)
   obtain ⟨k, hk⟩ : ∃ k, n - i = k + 1 := ⟨n - i - 1, by omega⟩
   have HK2 := yh (show n - (i + 1) = k by omega)
   rw [hk] at HS3
   clear hk
   have hwi : IntKind.i64.wrap ((i : Int) + 1) = (i : Int) + 1 := IntWalk.i64_in _ (by omega)
   have hwn : IntKind.i64.wrap ((n : Int) - 1) = ((n - 1 : Nat) : Int) := by rw [show ((n - 1 : Nat) : Int) = (n : Int) - 1 by omega]; exact IntWalk.i64_in _ (by omega)
   go_upto_region 4 with fail
   refine wp_seq_text [] (StR.no HS3.out) ?_
   refine pU ?_
   refine iX 3 i hin ?_
   refine lF HB.out (RC (rx p i)) (RX_room HI.out) (RX_at HI.out) ?_
   refine aL3 ?_
   intro b5 _ _ hb5
   refine nZ ?_
   refine pU ?_
   refine sV (RC_one _) ?_
   refine Seq.done fun w2 hws => ?_
   have HS4 := yh (hws.q1)
   clear hws HS3
   have HS5 := yh (StR.move (StR.no (St.perm HS4.out (List.Perm.swap _ _ _))))
   clear HS4
   go_upto_region 5 with fail
   refine wS [] (Reg.fin.put Reg.fin_no _ _) HS5.out ?_
   iterate 2 refine pU ?_
   refine lV ?_
   iterate 3 refine pU ?_
   refine pV (.int .i64 ((n - 1 : Nat) : Int)) (by intro w; go_simp <;> (first | (rw [hwn]; done) | exact hwn | omega | exact IntWalk.i64_in _ (by omega) | (go_num; done) | (simp [hwn]; done))) ?_
   refine iX 3 (n - 1) hn1 ?_
   refine lF HB.out (RC (rx p (n - 1))) (RX_room HI1.out) (RX_at HI1.out) ?_
   refine cX rfl rfl (abs_q (k := K) HT.out (HZ.out.at_ HI1.out) HY.out (by have := HK.out; omega)) ?_
   refine cX rfl rfl (div_q (k := K) HT.out (HZ.out.at_ HI.out) HYZ.out HYN.out HD.out (by have := HK.out; omega)) ?_
   iterate 3 refine pU ?_
   refine iX 3 i hin ?_
   refine Seq.storeAt (v := .agg (RC (rx (scaledL p) i))) rfl rfl rfl rfl rfl (by repeat first|exact rS|refine rN ‹_› ?_) (RX_roomZ HL.out) (by show _ = some 3; kernel_rfl) (RC_one _) (cs' := RX (zr k) ((scaledL p).take i ++ [(rx (scaledL p) i)])) (RX_push HL.out) (nZ ?_)
   refine Seq.done fun w3 hws => ?_
   have HS6 : Hid (St w [(g, 27, RX (zr (n - (i + 1))) ((scaledL p).take (i + 1)))] w3) := yh (by
    rw [HK2.out, take_succ_rx HQI.out]
    exact St.sub (hws.q1) (List.cons_sublist_cons.2 (List.nil_sublist _)))
   clear hws HS5
   go_wp2_with fail
   go_roundg (n - (i + 1))
   case measure => rw [HGK2.out]; omega
   case rel => exact ⟨i + 1, rfl, by go_num, by omega, HS6⟩
  ·have HE : Hid (RNew w (scaledL p) (.returned (.slice (some ⟨g, 0, none⟩) n n)) wr) := yh (by
    have e : i = n := by omega
    subst e
    have h1 := HS3.out
    rw [Nat.sub_self, List.take_of_length_le (by rw [HQN.out]; exact Nat.le_refl _)] at h1
    exact ⟨g, by rw [HQN.out], h1⟩)
   go_wp2_with fail
   go_ret
   exact HE.out
end Go.Proofs.YtmchjmflkaiakaaGreatDoor
