/- slices.CompactFunc of points (printed by hullq.py). -/
import Derived.Test.YtoejojfjiikogaaGreatDoorHuC
import Derived.Test.YtoejojfjiikogaaGreatDoorPo6
import Derived.Deep.LoopGhost
import Derived.OwnWalk
import Derived.Lib.SlicesCompact

namespace Go.Proofs.YtoejojfjiikogaaGreatDoor
open Go.RowKit
set_option linter.unusedVariables false
set_option linter.unusedSimpArgs false

instance : Inhabited P2 := ⟨(0, 0)⟩
theorem pt_arr {d : Array P2} {j : Nat} (h : j < d.size) : pt d.toList j = d[j]! := by
  rw [← pt_get (by simpa using h), getElem!_pos d j h]; simp
theorem St.setC {W w : World} {l : List Own} {g : Nat} {t : TypeId} {cs : Array Value} (h : St W ((g, t, cs) :: l) w) (i : Nat) (v : Value) : St W ((g, t, cs.setIfInBounds i v) :: l) (w.setCell ⟨g, i, none⟩ v) := by
  have hg := (h.blk _ List.mem_cons_self).1
  refine ⟨h.below.setCell (p := ⟨g, i, none⟩) hg v, fun e he => ?_, ?_⟩
  · rcases List.mem_cons.1 he with rfl | he
    · exact ⟨hg, (h.blk _ List.mem_cons_self).2.set_ i v⟩
    · have hne : g ≠ e.1 := (List.pairwise_cons.1 h.apart).1 e he
      have hb := h.blk e (List.mem_cons_of_mem _ he)
      exact ⟨hb.1, hb.2.far (p := ⟨g, i, none⟩) (fun e9 => hne e9.symm) v⟩
  · exact List.pairwise_cons.2 ⟨(List.pairwise_cons.1 h.apart).1, (List.pairwise_cons.1 h.apart).2⟩
theorem St.setCs {W : World} {l : List Own} {g : Nat} {t : TypeId} : ∀ (vs : List Value) (o : Nat) (w : World) (cs : Array Value), St W ((g, t, cs) :: l) w → ∃ cs', St W ((g, t, cs') :: l) (w.setCells g o vs) ∧ cs'.size = cs.size ∧ ∀ q, q < o → cs'[q]? = cs[q]?
  | [], o, w, cs, h => ⟨cs, h, rfl, fun _ _ => rfl⟩
  | v :: r, o, w, cs, h => by
    obtain ⟨cs', h1, h2, h3⟩ := St.setCs r (o + 1) (w.setCell ⟨g, o, none⟩ v) _ (h.setC o v)
    refine ⟨cs', h1, by rw [h2]; simp, fun q hq => ?_⟩
    rw [h3 q (by omega), Array.getElem?_setIfInBounds, if_neg (by omega)]
/-- a block whose first cells are the points ps -/
theorem PX_of {cs : Array Value} {J : List Value} {ps : Pts} {k : Nat} (hk : k ≤ ps.length) (hs : cs.size = (PX J ps).size) (h : ∀ q, q < 6 * k → cs[q]? = (PX J ps)[q]?) : ∃ J', cs = PX J' (ps.take k) := by
  refine ⟨cs.toList.drop (6 * k), ?_⟩
  apply Array.toList_inj.1
  rw [PX_list, ← fl_take, ← List.take_append_drop (6 * k) cs.toList]
  congr 1
  · apply List.ext_getElem?
    intro q
    have hlen : 6 * k ≤ (fl ps).length := by rw [fl_len]; omega
    rcases Nat.lt_or_ge q (6 * k) with h1 | h1
    · rw [List.getElem?_take_of_lt h1, List.getElem?_take_of_lt h1, Array.getElem?_toList, h q h1]
      rw [← Array.getElem?_toList, PX_list, List.getElem?_append_left (by omega)]
    · rw [List.getElem?_eq_none (by simp; omega), List.getElem?_eq_none (by simp; omega)]
  · simp
theorem zero_pts (n : Nat) : ∀ v ∈ (Builtin.zeroCells (Value.agg #[.bool false, .string ⟨#[]⟩, .string ⟨#[]⟩, .bool false, .string ⟨#[]⟩, .string ⟨#[]⟩]).cells n).toList, v.oneCell' = true := by
  intro v hv
  simp only [Builtin.zeroCells, Value.cells] at hv
  obtain ⟨i, hi, he⟩ := List.mem_iff_getElem.1 hv
  have h3 : i % 6 = 0 ∨ i % 6 = 1 ∨ i % 6 = 2 ∨ i % 6 = 3 ∨ i % 6 = 4 ∨ i % 6 = 5 := by omega
  rcases h3 with h3 | h3 | h3 | h3 | h3 | h3 <;> simp [h3] at he <;> subst he <;> rfl
theorem run_clear_pt {W w : World} {l : List Own} {g o n c : Nat} {ty : TypeId} {cs : Array Value} (h : St W ((g, 26, cs) :: l) w) (ho : o + (n + 1) * 6 ≤ cs.size) :
    ∃ vs : List Value, (Builtin.clear_ #[48] ty #[.slice (some ⟨g, o, none⟩) (n + 1) c]).run Tryz.prog w = .ok (.tuple #[]) (w.setCells g o vs) := by
  have hb := (h.blk _ List.mem_cons_self).2
  have hz : (zeroValue 26).run Tryz.prog w = .ok (.agg #[.bool false, .string ⟨#[]⟩, .string ⟨#[]⟩, .bool false, .string ⟨#[]⟩, .string ⟨#[]⟩]) w := by kernel_rfl
  have hlen : (Builtin.zeroCells (Value.agg #[.bool false, .string ⟨#[]⟩, .string ⟨#[]⟩, .bool false, .string ⟨#[]⟩, .string ⟨#[]⟩]).cells (n + 1)).toList.length = (n + 1) * 6 := by
    simp [Builtin.zeroCells, Value.cells]
  have hst := run_storeCells_cells (P := Tryz.prog) g o _ 0 w (fun j hj => by
    have hj2 : j < (n + 1) * 6 := by rw [← hlen]; exact hj
    have hb2 : o + 0 + j < cs.size := by omega
    rw [hb.cell, Array.getElem?_eq_getElem hb2]
    rfl) (fun j hj => hb.frozen _) (zero_pts (n + 1))
  rw [Nat.add_zero] at hst
  refine ⟨(Builtin.zeroCells (Value.agg #[.bool false, .string ⟨#[]⟩, .string ⟨#[]⟩, .bool false, .string ⟨#[]⟩, .string ⟨#[]⟩]).cells (n + 1)).toList, ?_⟩
  simp [Builtin.clear_, run_underlying Tryz.underlying48, hz, hst]
def cpL (ps : Pts) : Pts := Go.Lib.compactUpTo ps.toArray ps.toArray.size
def CpPost (W : World) (l : List Own) (g cap : Nat) (ps : Pts) (e : Ending) (w' : World) : Prop := e = .returned (.slice (some ⟨g, 0, none⟩) (cpL ps).length cap) ∧ ∃ J', St W ((g, 26, PX J' (cpL ps)) :: l) w' ∧ (PX J' (cpL ps)).size = cap * 6
theorem cp_all {ps : Pts} (h : ∀ j, j < ps.length → Go.Lib.keeps ps.toArray j = true) : cpL ps = ps := by
  unfold cpL
  rw [Go.Lib.compactUpTo_all _ _ (fun j hj => h j (by simpa using hj)), Go.Lib.range_map_get]
open Go.Lib in
set_option maxHeartbeats 8000000 in
set_option maxRecDepth 20000 in
theorem compactP_S {k : Nat} {W : World} {l : List Own} {g n cap : Nat} {J : List Value} {ps : Pts} (hT : Tab W) (hz : Pz k ps) (hn : ps.length = n) (hn2 : n ≤ 1000) (hcap : cap * 6 = (PX J ps).size) (hk : k ≤ 1000000000) (w : World) (h : St W ((g, 26, PX J ps) :: l) w) :
    Calls Tryz.prog 55 #[.slice (some ⟨g, 0, none⟩) n cap, .func (.func 56) #[] #[]] w (CpPost W l g cap ps) := by
  have HT := Lib.hid hT; clear hT
  have HZ0 := Lib.hid hz; clear hz
  have HN := Lib.hid hn
  have HK := Lib.hid hk; clear hk
  have hncap : n ≤ cap := by rw [PX_size, hn] at hcap; omega
  have HCAP := Lib.hid hcap; clear hcap hn
  have HST := Lib.hid h; clear h
  by_cases h2 : n < 2
  · have HC : Hid (cpL ps = ps) := Lib.hid (cp_all fun j hj => keeps_lt_one _ j (by rw [HN.out] at hj; omega))
    go_enter Tryz.func55, Tryz.ntmps55
    go_wp2_with fail
    go_ret
    exact ⟨by rw [HC.out, HN.out]; rfl, J, by rw [HC.out]; exact HST.out, by rw [HC.out]; exact HCAP.out.symm⟩
  · go_enter Tryz.func55, Tryz.ntmps55
    go_wp2_with fail
    go_loopg [5] n (fun gg s5 wr => ∃ m : Nat, gg = n - m ∧ m < n ∧ s5 = .int .i64 ((m : Int) + 1) ∧ Hid (St W ((g, 26, PX J ps) :: l) wr) ∧ Hid (∀ j, j < m + 1 → keeps ps.toArray j = true))
    case atStart => exact ⟨0, rfl, by omega, rfl, HST, Lib.hid (keeps_lt_one _)⟩
    case round =>
      clear HST
      obtain ⟨m, hgk, hm, rfl, HS, HA⟩ := hrel
      have HGK := Lib.hid hgk; clear hgk
      by_cases hlt : m + 1 < n
      · have hm1n : m + 1 < n := hlt
        have hm0n : m < n := hm
        have HM1 := Lib.hid (show m + 1 < ps.length by rw [HN.out]; exact hlt)
        have HM0 := Lib.hid (show m < ps.length by rw [HN.out]; exact hm)
        have HZ := HZ0
        have hw1 : IntKind.i64.wrap ((m : Int) + 1 - 1) = (m : Int) := by rw [show (m : Int) + 1 - 1 = (m : Int) by omega]; exact IntWalk.i64_in _ (by omega)
        have hw1' : IntKind.i64.wrap (m : Int) = (m : Int) := IntWalk.i64_in _ (by omega)
        have hw2 : IntKind.i64.wrap ((m : Int) + 1 + 1) = (m : Int) + 1 + 1 := IntWalk.i64_in _ (by omega)
        obtain ⟨r, hr⟩ : ∃ r, decide (((px ps (m + 1), py ps (m + 1)) : P2) = (px ps m, py ps m)) = r := ⟨_, rfl⟩
        have HV := Lib.hid hr
        have HKP : Hid (keeps ps.toArray (m + 1) = !r) := Lib.hid (by
          have e1 := pt_arr (d := ps.toArray) (j := m + 1) (by have := HM1.out; simpa using this)
          have e0 := pt_arr (d := ps.toArray) (j := m) (by have := HM0.out; simpa using this)
          rw [← hr]
          by_cases he : ((px ps (m + 1), py ps (m + 1)) : P2) = (px ps m, py ps m)
          · rw [decide_eq_true he, keeps_neg (by omega) (by rw [show m + 1 - 1 = m by omega, ← e1, ← e0]; exact he)]; rfl
          · rw [decide_eq_false he, keeps_pos (by rw [show m + 1 - 1 = m by omega, ← e1, ← e0]; exact he)]; rfl)
        clear hr
        cases r with
        | false =>
          have HA2 : Hid (∀ j, j < m + 1 + 1 → keeps ps.toArray j = true) := Lib.hid (forall_lt_succ HA.out HKP.out)
          go_upto_region 6 with (fail)
          refine wp_seq [] (by kernel_rfl) (by kernel_rfl) Reg.fin_no (StR.no HS.out) ?_
          refine Seq.pure rfl rfl (by intro w; go_simp; try rfl) ?_
          simp only [Act.put, nA, nB, nC]
          refine Seq.pure rfl rfl (by intro w; go_simp; try rfl) ?_
          simp only [Act.put, nA, nB, nC]
          refine Seq.pure rfl rfl (by intro w; go_simp; try rfl) ?_
          simp only [Act.put, nA, nB, nC]
          refine Seq.index (m := 6) (m + 1) rfl rfl rfl rfl rfl (by kernel_rfl) (by omega) hm1n ?_
          simp only [Act.put, nA, nB, nC]
          refine Seq.loadAt rfl rfl rfl rfl (by repeat (first | exact mC | apply mT)) (n := 6) (cs' := VC (px ps (m + 1)) (py ps (m + 1))) (PX_room HM1.out) (by kernel_rfl) (PX_at HM1.out) ?_
          simp only [Act.put, nA, nB, nC]
          refine Seq.pure rfl rfl (by intro w; go_simp; try rfl) ?_
          simp only [Act.put, nA, nB, nC]
          refine Seq.pure rfl rfl (by intro w; go_simp; try rfl) ?_
          simp only [Act.put, nA, nB, nC]
          refine Seq.pure (v := .int .i64 (m : Int)) rfl rfl (by intro w; go_simp <;> (first | (rw [hw1]; done) | exact hw1 | omega | exact IntWalk.i64_in _ (by omega) | (go_num; done) | (simp [hw1]; done))) ?_
          simp only [Act.put, nA, nB, nC]
          refine Seq.index (m := 6) m rfl rfl rfl rfl rfl (by kernel_rfl) rfl hm0n ?_
          simp only [Act.put, nA, nB, nC]
          refine Seq.loadAt rfl rfl rfl rfl (by repeat (first | exact mC | apply mT)) (n := 6) (cs' := VC (px ps m) (py ps m)) (PX_room HM0.out) (by kernel_rfl) (PX_at HM0.out) ?_
          simp only [Act.put, nA, nB, nC]
          refine Seq.callF (f := 56) (vs := #[.agg (VC (px ps (m + 1)) (py ps (m + 1))), .agg (VC (px ps m) (py ps m))]) rfl rfl rfl rfl rfl (by kernel_rfl) (same_q (k := k) HT.out (HZ.out.x HM1.out) (HZ.out.y HM1.out) (HZ.out.x HM0.out) (HZ.out.y HM0.out) HV.out (by have := HK.out; omega)) ?_
          simp only [Act.put, nA, nB, nC]
          refine Seq.done fun wz hws => ?_
          have HS2 := Lib.hid hws.st
          clear hws HS
          go_wp2_with fail
          go_roundg (n - (m + 1))
          case measure => rw [HGK.out]; omega
          case rel => exact ⟨m + 1, rfl, hlt, by go_num, HS2, HA2⟩
        | true =>
          have HC0 : Hid (CompInv ps.toArray (m + 1 + 1) (m + 1) ps.toArray) := Lib.hid (CompInv.start HA.out HKP.out)
          go_upto_region 6 with (fail)
          refine wp_seq [] (by kernel_rfl) (by kernel_rfl) Reg.fin_no (StR.no HS.out) ?_
          refine Seq.pure rfl rfl (by intro w; go_simp; try rfl) ?_
          simp only [Act.put, nA, nB, nC]
          refine Seq.pure rfl rfl (by intro w; go_simp; try rfl) ?_
          simp only [Act.put, nA, nB, nC]
          refine Seq.pure rfl rfl (by intro w; go_simp; try rfl) ?_
          simp only [Act.put, nA, nB, nC]
          refine Seq.index (m := 6) (m + 1) rfl rfl rfl rfl rfl (by kernel_rfl) (by omega) hm1n ?_
          simp only [Act.put, nA, nB, nC]
          refine Seq.loadAt rfl rfl rfl rfl (by repeat (first | exact mC | apply mT)) (n := 6) (cs' := VC (px ps (m + 1)) (py ps (m + 1))) (PX_room HM1.out) (by kernel_rfl) (PX_at HM1.out) ?_
          simp only [Act.put, nA, nB, nC]
          refine Seq.pure rfl rfl (by intro w; go_simp; try rfl) ?_
          simp only [Act.put, nA, nB, nC]
          refine Seq.pure rfl rfl (by intro w; go_simp; try rfl) ?_
          simp only [Act.put, nA, nB, nC]
          refine Seq.pure (v := .int .i64 (m : Int)) rfl rfl (by intro w; go_simp <;> (first | (rw [hw1]; done) | exact hw1 | omega | exact IntWalk.i64_in _ (by omega) | (go_num; done) | (simp [hw1]; done))) ?_
          simp only [Act.put, nA, nB, nC]
          refine Seq.index (m := 6) m rfl rfl rfl rfl rfl (by kernel_rfl) rfl hm0n ?_
          simp only [Act.put, nA, nB, nC]
          refine Seq.loadAt rfl rfl rfl rfl (by repeat (first | exact mC | apply mT)) (n := 6) (cs' := VC (px ps m) (py ps m)) (PX_room HM0.out) (by kernel_rfl) (PX_at HM0.out) ?_
          simp only [Act.put, nA, nB, nC]
          refine Seq.callF (f := 56) (vs := #[.agg (VC (px ps (m + 1)) (py ps (m + 1))), .agg (VC (px ps m) (py ps m))]) rfl rfl rfl rfl rfl (by kernel_rfl) (same_q (k := k) HT.out (HZ.out.x HM1.out) (HZ.out.y HM1.out) (HZ.out.x HM0.out) (HZ.out.y HM0.out) HV.out (by have := HK.out; omega)) ?_
          simp only [Act.put, nA, nB, nC]
          refine Seq.done fun wz hws => ?_
          have HS2 := Lib.hid hws.st
          clear hws HS HV HKP HA
          obtain ⟨n1, hn1⟩ : ∃ n1, n - (m + 1) = n1 := ⟨_, rfl⟩
          have HN1 : Hid (n = m + 1 + n1) := Lib.hid (by omega)
          have hn1' : 1 ≤ n1 := by omega
          have hb1 : n1 ≤ n := by omega
          have hcm : m + 1 < cap := by omega
          go_wp2_with fail
          try rw [hn1]
          clear hn1 hw1 hw1' hw2
          go_loopg [5, 7] n (fun gg s5 s7 wi => ∃ (kk q : Nat) (dk : Array P2), gg = n - q ∧ s5 = .int .i64 (kk : Int) ∧ s7 = .int .i64 ((q : Int) + 1) ∧ q < n1 ∧ Hid (St W ((g, 26, PX J dk.toList) :: l) wi) ∧ Hid (Pz k dk.toList) ∧ Hid (CompInv ps.toArray (m + 1 + q + 1) kk dk))
          case atStart => exact ⟨m + 1, 0, ps.toArray, rfl, by go_num, rfl, hn1', by simpa using HS2, Lib.hid (by simpa using HZ0.out), HC0⟩
          case round =>
            clear HS2 HC0
            obtain ⟨kk, q, dk, hgk2, rfl, rfl, hq, HS, HZ, HCI⟩ := hrel
            have HGK2 := Lib.hid hgk2; clear hgk2
            have hkm := HCI.out.lt
            have HDS := Lib.hid (show dk.size = n by rw [HCI.out.size]; simpa using HN.out)
            by_cases hlt2 : q + 1 < n1
            · obtain ⟨qs, hqs⟩ : ∃ qs, dk.toList = qs := ⟨_, rfl⟩
              have HL := Lib.hid (show qs.length = n by rw [← hqs]; simpa using HDS.out)
              have hmq : m + 1 + (q + 1) < n := by rw [HN1.out]; omega
              have HQ1 := Lib.hid (show m + 1 + (q + 1) < qs.length by rw [HL.out]; exact hmq)
              have HQ0 := Lib.hid (show m + 1 + q < qs.length by rw [HL.out]; omega)
              have HKQ := Lib.hid (show kk < qs.length by rw [HL.out]; omega)
              have hq1n : q + 1 < n1 := hlt2
              have hq0n : q < n1 := hq
              have hkn : kk < n := by omega
              have hw3 : IntKind.i64.wrap ((q : Int) + 1 - 1) = (q : Int) := by rw [show (q : Int) + 1 - 1 = (q : Int) by omega]; exact IntWalk.i64_in _ (by omega)
              have hw3' : IntKind.i64.wrap (q : Int) = (q : Int) := IntWalk.i64_in _ (by omega)
              have hw4 : IntKind.i64.wrap ((q : Int) + 1 + 1) = (q : Int) + 1 + 1 := IntWalk.i64_in _ (by omega)
              have hw5 : IntKind.i64.wrap ((kk : Int) + 1) = (kk : Int) + 1 := IntWalk.i64_in _ (by omega)
              have p1 : pt qs (m + 1 + (q + 1)) = ps.toArray[m + 1 + (q + 1)]! := by rw [← hqs, pt_arr (by rw [HDS.out]; exact hmq), HCI.out.high _ (by omega)]
              have p0 : pt qs (m + 1 + q) = ps.toArray[m + 1 + q]! := by rw [← hqs, pt_arr (by rw [HDS.out]; omega), HCI.out.high _ (by omega)]
              obtain ⟨r, hr⟩ : ∃ r, decide (((px qs (m + 1 + (q + 1)), py qs (m + 1 + (q + 1))) : P2) = (px qs (m + 1 + q), py qs (m + 1 + q))) = r := ⟨_, rfl⟩
              have HV := Lib.hid hr
              have HKP : Hid (keeps ps.toArray (m + 1 + (q + 1)) = !r) := Lib.hid (by
                rw [← hr]
                by_cases he : ((px qs (m + 1 + (q + 1)), py qs (m + 1 + (q + 1))) : P2) = (px qs (m + 1 + q), py qs (m + 1 + q))
                · rw [decide_eq_true he, keeps_neg (by omega) (by rw [show m + 1 + (q + 1) - 1 = m + 1 + q by omega, ← p1, ← p0]; exact he)]; rfl
                · rw [decide_eq_false he, keeps_pos (by rw [show m + 1 + (q + 1) - 1 = m + 1 + q by omega, ← p1, ← p0]; exact he)]; rfl)
              clear hr
              rw [hqs] at HS HZ
              cases r with
              | true =>
                have HC2 : Hid (CompInv ps.toArray (m + 1 + (q + 1) + 1) kk dk) := Lib.hid (CompInv.skip HCI.out HKP.out)
                have HQS := Lib.hid hqs
                clear p1 p0 hqs
                go_upto_region 11 with (fail)
                refine wp_seq [] (by kernel_rfl) (by kernel_rfl) Reg.fin_no (StR.no HS.out) ?_
                refine Seq.pure rfl rfl (by intro w; go_simp; try rfl) ?_
                simp only [Act.put, nA, nB, nC]
                refine Seq.pure rfl rfl (by intro w; go_simp; try rfl) ?_
                simp only [Act.put, nA, nB, nC]
                refine Seq.pure rfl rfl (by intro w; go_simp; try rfl) ?_
                simp only [Act.put, nA, nB, nC]
                refine Seq.indexO (m := 6) (q + 1) rfl rfl rfl rfl rfl (by kernel_rfl) (by omega) hq1n (q := 6 * (m + 1 + (q + 1))) (by omega) ?_
                simp only [Act.put, nA, nB, nC]
                refine Seq.loadAt rfl rfl rfl rfl (by repeat (first | exact mC | apply mT)) (n := 6) (cs' := VC (px qs (m + 1 + (q + 1))) (py qs (m + 1 + (q + 1)))) (PX_room HQ1.out) (by kernel_rfl) (PX_at HQ1.out) ?_
                simp only [Act.put, nA, nB, nC]
                refine Seq.pure rfl rfl (by intro w; go_simp; try rfl) ?_
                simp only [Act.put, nA, nB, nC]
                refine Seq.pure rfl rfl (by intro w; go_simp; try rfl) ?_
                simp only [Act.put, nA, nB, nC]
                refine Seq.pure (v := .int .i64 (q : Int)) rfl rfl (by intro w; go_simp <;> (first | (rw [hw3]; done) | exact hw3 | omega | exact IntWalk.i64_in _ (by omega) | (go_num; done) | (simp [hw3]; done))) ?_
                simp only [Act.put, nA, nB, nC]
                refine Seq.indexO (m := 6) q rfl rfl rfl rfl rfl (by kernel_rfl) rfl hq0n (q := 6 * (m + 1 + q)) (by omega) ?_
                simp only [Act.put, nA, nB, nC]
                refine Seq.loadAt rfl rfl rfl rfl (by repeat (first | exact mC | apply mT)) (n := 6) (cs' := VC (px qs (m + 1 + q)) (py qs (m + 1 + q))) (PX_room HQ0.out) (by kernel_rfl) (PX_at HQ0.out) ?_
                simp only [Act.put, nA, nB, nC]
                refine Seq.callF (f := 56) (vs := #[.agg (VC (px qs (m + 1 + (q + 1))) (py qs (m + 1 + (q + 1)))), .agg (VC (px qs (m + 1 + q)) (py qs (m + 1 + q)))]) rfl rfl rfl rfl rfl (by kernel_rfl) (same_q (k := k) HT.out (HZ.out.x HQ1.out) (HZ.out.y HQ1.out) (HZ.out.x HQ0.out) (HZ.out.y HQ0.out) HV.out (by have := HK.out; omega)) ?_
                simp only [Act.put, nA, nB, nC]
                refine Seq.pure rfl rfl (by intro w; go_simp; try rfl) ?_
                simp only [Act.put, nA, nB, nC]
                refine Seq.done fun wz hws => ?_
                have HS2 := Lib.hid hws.st
                clear hws HS
                go_wp2_with fail
                go_roundg (n - (q + 1))
                case measure => rw [HGK2.out]; omega
                case rel => exact ⟨kk, q + 1, dk, rfl, rfl, by go_num, hlt2, by rw [HQS.out]; exact HS2, by rw [HQS.out]; exact HZ, HC2⟩
              | false =>
                have HC2 : Hid (CompInv ps.toArray (m + 1 + (q + 1) + 1) (kk + 1) (dk.setIfInBounds kk ps.toArray[m + 1 + (q + 1)]!)) := Lib.hid (CompInv.keep HCI.out (by simpa [HN.out] using hmq) HKP.out)
                have HQS : Hid ((dk.setIfInBounds kk ps.toArray[m + 1 + (q + 1)]!).toList = qs.set kk (px qs (m + 1 + (q + 1)), py qs (m + 1 + (q + 1)))) := Lib.hid (by
                  rw [← p1, ← hqs]; simp [pt])
                have HZ2 := Lib.hid (HZ.out.set (i := kk) (v := (px qs (m + 1 + (q + 1)), py qs (m + 1 + (q + 1)))) ⟨HZ.out.x HQ1.out, HZ.out.y HQ1.out⟩)
                clear p1 p0 hqs
                go_upto_region 11 with (fail)
                refine wp_seq [] (by kernel_rfl) (by kernel_rfl) Reg.fin_no (StR.no HS.out) ?_
                refine Seq.pure rfl rfl (by intro w; go_simp; try rfl) ?_
                simp only [Act.put, nA, nB, nC]
                refine Seq.pure rfl rfl (by intro w; go_simp; try rfl) ?_
                simp only [Act.put, nA, nB, nC]
                refine Seq.pure rfl rfl (by intro w; go_simp; try rfl) ?_
                simp only [Act.put, nA, nB, nC]
                refine Seq.indexO (m := 6) (q + 1) rfl rfl rfl rfl rfl (by kernel_rfl) (by omega) hq1n (q := 6 * (m + 1 + (q + 1))) (by omega) ?_
                simp only [Act.put, nA, nB, nC]
                refine Seq.loadAt rfl rfl rfl rfl (by repeat (first | exact mC | apply mT)) (n := 6) (cs' := VC (px qs (m + 1 + (q + 1))) (py qs (m + 1 + (q + 1)))) (PX_room HQ1.out) (by kernel_rfl) (PX_at HQ1.out) ?_
                simp only [Act.put, nA, nB, nC]
                refine Seq.pure rfl rfl (by intro w; go_simp; try rfl) ?_
                simp only [Act.put, nA, nB, nC]
                refine Seq.pure rfl rfl (by intro w; go_simp; try rfl) ?_
                simp only [Act.put, nA, nB, nC]
                refine Seq.pure (v := .int .i64 (q : Int)) rfl rfl (by intro w; go_simp <;> (first | (rw [hw3]; done) | exact hw3 | omega | exact IntWalk.i64_in _ (by omega) | (go_num; done) | (simp [hw3]; done))) ?_
                simp only [Act.put, nA, nB, nC]
                refine Seq.indexO (m := 6) q rfl rfl rfl rfl rfl (by kernel_rfl) rfl hq0n (q := 6 * (m + 1 + q)) (by omega) ?_
                simp only [Act.put, nA, nB, nC]
                refine Seq.loadAt rfl rfl rfl rfl (by repeat (first | exact mC | apply mT)) (n := 6) (cs' := VC (px qs (m + 1 + q)) (py qs (m + 1 + q))) (PX_room HQ0.out) (by kernel_rfl) (PX_at HQ0.out) ?_
                simp only [Act.put, nA, nB, nC]
                refine Seq.callF (f := 56) (vs := #[.agg (VC (px qs (m + 1 + (q + 1))) (py qs (m + 1 + (q + 1)))), .agg (VC (px qs (m + 1 + q)) (py qs (m + 1 + q)))]) rfl rfl rfl rfl rfl (by kernel_rfl) (same_q (k := k) HT.out (HZ.out.x HQ1.out) (HZ.out.y HQ1.out) (HZ.out.x HQ0.out) (HZ.out.y HQ0.out) HV.out (by have := HK.out; omega)) ?_
                simp only [Act.put, nA, nB, nC]
                refine Seq.pure rfl rfl (by intro w; go_simp; try rfl) ?_
                simp only [Act.put, nA, nB, nC]
                refine Seq.done fun wz hws => ?_
                have HS2 := hws.st
                clear hws HS
                go_upto_region 12 with (fail)
                refine wp_seq_text [10] (StR.move (StR.no HS2)) ?_
                refine Seq.pure rfl rfl (by intro w; go_simp; try rfl) ?_
                simp only [Act.put, nA, nB, nC]
                refine Seq.pure rfl rfl (by intro w; go_simp; try rfl) ?_
                simp only [Act.put, nA, nB, nC]
                refine Seq.pure rfl rfl (by intro w; go_simp; try rfl) ?_
                simp only [Act.put, nA, nB, nC]
                refine Seq.pure rfl rfl (by intro w; go_simp; try rfl) ?_
                simp only [Act.put, nA, nB, nC]
                refine Seq.indexO (m := 6) (q + 1) rfl rfl rfl rfl rfl (by kernel_rfl) (by omega) hq1n (q := 6 * (m + 1 + (q + 1))) (by omega) ?_
                simp only [Act.put, nA, nB, nC]
                refine Seq.getAt rfl rfl rfl rfl (by repeat (first | exact rS | refine rN (by assumption) ?_)) (n := 6) (cs' := VC (px qs (m + 1 + (q + 1))) (py qs (m + 1 + (q + 1)))) (PX_room HQ1.out) (by kernel_rfl) (PX_at HQ1.out) ?_
                simp only [Act.put, nA, nB, nC]
                refine Seq.index (m := 6) kk rfl rfl rfl rfl rfl (by kernel_rfl) rfl hkn ?_
                simp only [Act.put, nA, nB, nC]
                refine Seq.storeAt (v := .agg (VC (px qs (m + 1 + (q + 1))) (py qs (m + 1 + (q + 1))))) rfl rfl rfl rfl rfl (by repeat (first | exact rS | refine rN (by assumption) ?_)) (PX_room HKQ.out) (by show _ = some 6; kernel_rfl) (VC_one _ _) (cs' := PX J (qs.set kk ((px qs (m + 1 + (q + 1))), (py qs (m + 1 + (q + 1)))))) (PX_put HKQ.out) ?_
                simp only [Act.put, nA, nB, nC]
                refine Seq.done fun wz2 hws => ?_
                have HS3 := Lib.hid (hws.list1 (by repeat (first | exact rS | refine rN (by assumption) ?_)))
                clear hws HS2
                go_wp2_with fail
                go_roundg (n - (q + 1))
                case measure => rw [HGK2.out]; omega
                case rel => exact ⟨kk + 1, q + 1, _, rfl, by go_num, by go_num, hlt2, by rw [HQS.out]; exact HS3, by rw [HQS.out]; exact HZ2, HC2⟩
            · have hend : m + 1 + q + 1 = n := by rw [HN1.out]; omega
              have hkn : kk < n := by omega
              obtain ⟨n2, hn2'⟩ : ∃ n2, n = kk + (n2 + 1) := ⟨n - kk - 1, by omega⟩
              have hsz : cap * 6 = (PX J dk.toList).size := by rw [HCAP.out, PX_size, PX_size, HN.out]; simp [HDS.out]
              obtain ⟨vs, hcl⟩ := run_clear_pt (o := kk * 6) (n := n2) (c := cap - kk) (ty := 0) HS.out (by rw [← hsz]; omega)
              have HN2 : n - kk = n2 + 1 := by omega
              rw [← HN2] at hcl
              have HP : Hid (CpPost W l g cap ps (.returned (.slice (some ⟨g, 0, none⟩) kk cap)) (wr.setCells g (kk * 6) vs)) := Lib.hid (by
                have hI := HCI.out
                rw [hend] at hI
                have hcp : cpL ps = dk.toList.take kk := by
                  unfold cpL
                  have hss : ps.toArray.size = n := by simpa using HN.out
                  rw [hss]
                  apply List.ext_getElem?
                  intro j
                  rcases Nat.lt_or_ge j kk with h1 | h1
                  · rw [hI.low j h1, List.getElem?_take_of_lt h1, Array.getElem?_toList, Array.getElem?_eq_getElem (by rw [HDS.out]; omega), getElem!_pos dk j (by rw [HDS.out]; omega)]
                  · rw [List.getElem?_eq_none (by rw [hI.len]; exact h1), List.getElem?_eq_none (by simp; omega)]
                have hlen : (cpL ps).length = kk := by rw [hcp]; simp [HDS.out]; omega
                obtain ⟨cs', g1, g2, g3⟩ := St.setCs vs (kk * 6) wr _ HS.out
                obtain ⟨J', hJ⟩ := PX_of (J := J) (ps := dk.toList) (k := kk) (by simp [HDS.out]; omega) g2 (fun t ht => g3 t (by omega))
                exact ⟨by rw [hlen], J', by rw [hcp, ← hJ]; exact g1, by rw [hcp, ← hJ, g2]; exact hsz.symm⟩)
              clear hn2' HN2 hend hsz
              go_wp2_with fail
              go_ret
              exact HP.out
      · obtain rfl : n = m + 1 := by omega
        have HC : Hid (cpL ps = ps) := Lib.hid (cp_all fun j hj => HA.out j (by rw [HN.out] at hj; exact hj))
        go_wp2_with fail
        go_ret
        exact ⟨by rw [HC.out, HN.out]; rfl, J, by rw [HC.out]; exact HS.out, by rw [HC.out]; exact HCAP.out.symm⟩
end Go.Proofs.YtoejojfjiikogaaGreatDoor
