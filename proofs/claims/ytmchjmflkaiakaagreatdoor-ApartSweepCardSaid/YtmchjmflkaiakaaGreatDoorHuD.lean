/- Joined texts: HuD HuE HuG. -/
import Derived.Test.YtmchjmflkaiakaaGreatDoorHuC
import Derived.Deep.LoopGhost
import Derived.OwnWalk
import Derived.Test.YtmchjmflkaiakaaGreatDoorPo6
import Derived.Lib.SlicesCompact
import Derived.Lib.Strings
import Derived.Lib.Slices
import Derived.Lib.Small
import Derived.Lib.Walk
import Derived.Lib.BitFns
set_option maxHeartbeats 8000000
set_option maxRecDepth 100000
namespace Go.Proofs.YtmchjmflkaiakaaGreatDoor
open Go.RowKit
set_option linter.unusedVariables false
set_option linter.unusedSimpArgs false
theorem pts_ext {a b : Pts} (h : a.length = b.length) (hp : ∀ k, k < a.length → pt a k = pt b k) : a = b := by
 apply List.ext_getElem h
 intro k h1 h2
 rw [pt_get h1, pt_get h2, hp k h1]
theorem pt_reverse {ps : Pts} {k : Nat} (h : k < ps.length) : pt ps.reverse k = pt ps (ps.length - 1 - k) := by
 have h1 : k < ps.reverse.length := by simpa using h
 rw [← pt_get h1, List.getElem_reverse, pt_get]
def RevP (a : Nat) (ps qs : Pts) : Prop := qs.length = ps.length ∧ 2 * a ≤ ps.length + 1 ∧ ∀ k, k < ps.length → pt qs k = if k < a ∨ ps.length ≤ k + a then pt ps (ps.length - 1 - k) else pt ps k
def swx (qs : Pts) (a b : Nat) : Pts := (qs.set a (pt qs b)).set b (pt qs a)
theorem swx_length (qs : Pts) (a b : Nat) : (swx qs a b).length = qs.length := by simp [swx]
theorem swx_pt {qs : Pts} {a b : Nat} (ha : a < qs.length) (hb : b < qs.length) (k : Nat) : pt (swx qs a b) k = if k = b then pt qs a else if k = a then pt qs b else pt qs k := by
 unfold swx
 have h1 : b < (qs.set a (pt qs b)).length := by rw [set_length]; exact hb
 show (px _ k, py _ k) = _
 rw [px_set h1, py_set h1, px_set ha, py_set ha]
 by_cases e1 : b = k
 ·subst e1; simp [pt]
 ·by_cases e2 : a = k
  ·subst e2; rw [if_neg e1, if_neg e1, if_pos rfl, if_pos rfl, if_neg (fun e => e1 e.symm), if_pos rfl]
  ·rw [if_neg e1, if_neg e1, if_neg e2, if_neg e2, if_neg (fun e => e1 e.symm), if_neg (fun e => e2 e.symm)]; rfl
theorem rev_start (ps : Pts) : RevP 0 ps ps := ⟨rfl, by omega, fun k hk => by rw [if_neg (by omega)]⟩
theorem rev_step {ps qs : Pts} {a b : Nat} (h : RevP a ps qs) (hb : a + b + 1 = ps.length) (hlt : a < b) : RevP (a + 1) ps (swx qs a b) := by
 obtain ⟨h1, h2, h3⟩ := h
 refine ⟨by rw [swx_length, h1], by omega, fun k hk => ?_⟩
 have ha' : pt qs a = pt ps a := by rw [h3 a (by omega), if_neg (by omega)]
 have hb' : pt qs b = pt ps b := by rw [h3 b (by omega), if_neg (by omega)]
 rw [swx_pt (by omega) (by omega), ha', hb', h3 k hk]
 by_cases e1 : k = b
 ·subst e1; rw [if_pos rfl, if_pos (by omega), show ps.length - 1 - k = a by omega]
 ·rw [if_neg e1]
  by_cases e2 : k = a
  ·subst e2; rw [if_pos rfl, if_pos (by omega), show ps.length - 1 - k = b by omega]
  ·rw [if_neg e2]
   by_cases e3 : k < a ∨ ps.length ≤ k + a
   ·rw [if_pos e3, if_pos (by omega)]
   ·rw [if_neg e3, if_neg (by omega)]
theorem rev_end {ps qs : Pts} {a : Nat} (h : RevP a ps qs) (he : ps.length ≤ 2 * a + 1) : qs = ps.reverse := by
 obtain ⟨h1, h2, h3⟩ := h
 refine pts_ext (by simpa using h1) fun k hk => ?_
 rw [h3 k (by omega), pt_reverse (by omega)]
 by_cases e : k < a ∨ ps.length ≤ k + a
 ·rw [if_pos e]
 ·rw [if_neg e, show ps.length - 1 - k = k by omega]
theorem reverse_S {W : World} {l : List Own} {g n cap : Nat} {J : List Value} {ps : Pts} (hn : ps.length = n) (hn2 : n ≤ 1000) (w : World) (h : St W ((g, 29, PX J ps) :: l) w) :
  Calls Tryz.prog 112 #[.slice (some ⟨g, 0, none⟩) n cap] w fun e w' => e = .returned (.tuple #[]) ∧ St W ((g, 29, PX J ps.reverse) :: l) w' := by
 have HN := yh hn; clear hn
 have HST := yh h; clear h
 have hw0 : IntKind.i64.wrap ((n : Int) - 1) = (n : Int) - 1 := IntWalk.i64_in _ (by omega)
 go_enter Tryz.func112, Tryz.ntmps112
 go_wp2_with fail
 clear hw0
 go_loopg [2, 3] n (fun kx s2 s3 wr => ∃ (a : Nat) (qs : Pts), kx = n - a ∧ s2 = .int .i64 (a : Int) ∧ s3 = .int .i64 ((n : Int) - 1 - (a : Int)) ∧ a ≤ n + 1 ∧ Hid (RevP a ps qs) ∧ Hid (St W ((g, 29, PX J qs) :: l) wr))
 case atStart => exact ⟨0, ps, by omega, rfl, by go_num, by omega, yh (rev_start ps), HST⟩
 case round =>
  clear HST
  obtain ⟨a, qs, hgk, rfl, rfl, han1, HQ, HS⟩ := hrel
  have HGK := yh hgk; clear hgk
  by_cases hlt : 2 * a + 1 < n
  ·obtain ⟨b, hb⟩ : ∃ b : Nat, a + b + 1 = n := ⟨n - 1 - a, by omega⟩
   have hab : a < b := by omega
   have hanx : a + 1 ≤ n := by omega
   have e1 : (n : Int) - 1 - (a : Int) = (b : Int) := by omega
   have han : a < n := by omega
   have hbn : b < n := by omega
   have HL := yh (show qs.length = n by rw [HQ.out.1]; exact HN.out)
   have HA1 := yh (show a < qs.length by rw [HL.out]; exact han)
   have HB1 := yh (show b < qs.length by rw [HL.out]; exact hbn)
   have HB2 := yh (show b < (qs.set a (px qs b, py qs b)).length by rw [set_length, HL.out]; exact hbn)
   have HR := yh (rev_step HQ.out (by rw [HN.out]; exact hb) hab)
   have hw1 : IntKind.i64.wrap ((a : Int) + 1) = (a : Int) + 1 := IntWalk.i64_in _ (by omega)
   have hw2 : IntKind.i64.wrap ((b : Int) - 1) = (b : Int) - 1 := IntWalk.i64_in _ (by omega)
   have e2 : Hid ((b : Int) - 1 = (n : Int) - 1 - ((a + 1 : Nat) : Int)) := yh (by omega)
   have habi : (a : Int) < (b : Int) := by omega
   rw [e1]
   clear e1 hb hlt
   go_upto_region 3 with fail
   refine wS [14, 22] (Reg.fin.put Reg.fin_no _ _) (StR.move (StR.no HS.out)) ?_
   iterate 6 refine pU ?_
   refine iX 6 b hbn ?_
   refine lG (VC (px qs b) (py qs b)) (PX_room HB1.out) (PX_at HB1.out) ?_
   iterate 2 refine pU ?_
   refine iX 6 a han ?_
   refine lG (VC (px qs a) (py qs a)) (PX_room HA1.out) (PX_at HA1.out) ?_
   refine iX 6 a han ?_
   refine Seq.storeAt (v := .agg (VC (px qs b) (py qs b))) rfl rfl rfl rfl rfl (by repeat first|exact rS|refine rN ‹_› ?_) (PX_room HA1.out) (by show _ = some 6; kernel_rfl) (VC_one _ _) (cs' := PX J (qs.set a ((px qs b), (py qs b)))) (PX_put HA1.out) (nZ ?_)
   refine iX 6 b hbn ?_
   refine Seq.storeAt (v := .agg (VC (px qs a) (py qs a))) rfl rfl rfl rfl rfl (by repeat first|exact rS|refine rN ‹_› ?_) (PX_room HB2.out) (by show _ = some 6; kernel_rfl) (VC_one _ _) (cs' := PX J ((qs.set a (px qs b, py qs b)).set b ((px qs a), (py qs a)))) (PX_put HB2.out) (nZ ?_)
   refine Seq.done fun wz2 hws => ?_
   have HS3 := yh (hws.q1)
   clear hws HS
   go_wp2_with fail
   go_roundg (n - (a + 1))
   case measure => rw [HGK.out]; omega
   case rel => exact ⟨a + 1, swx qs a b, rfl, by go_num, by rw [← e2.out], by omega, HR, HS3⟩
  ·have HE : Hid (qs = ps.reverse) := yh (rev_end HQ.out (by rw [HN.out]; omega))
   have hge : ¬ (a : Int) < (n : Int) - 1 - (a : Int) := by omega
   have hge2 : decide ((a : Int) < (n : Int) - 1 - (a : Int)) = false := decide_eq_false hge
   go_wp2_with fail
   go_end0
   exact ⟨rfl, by rw [← HE.out]; exact HS.out⟩
instance : Inhabited P2 := ⟨(0, 0)⟩
theorem pt_arr {d : Array P2} {j : Nat} (h : j < d.size) : pt d.toList j = d[j]! := by
 rw [← pt_get (by simpa using h), getElem!_pos d j h]; simp
theorem St.setC {W w : World} {l : List Own} {g : Nat} {t : TypeId} {cs : Array Value} (h : St W ((g, t, cs) :: l) w) (i : Nat) (v : Value) : St W ((g, t, cs.setIfInBounds i v) :: l) (w.setCell ⟨g, i, none⟩ v) := by
 have hg := (h.blk _ List.mem_cons_self).1
 refine ⟨h.below.setCell (p := ⟨g, i, none⟩) hg v, fun e he => ?_, ?_⟩
 ·rcases List.mem_cons.1 he with rfl | he
  ·exact ⟨hg, (h.blk _ List.mem_cons_self).2.set_ i v⟩
  ·have hne : g ≠ e.1 := (List.pairwise_cons.1 h.apart).1 e he
   have hb := h.blk e (List.mem_cons_of_mem _ he)
   exact ⟨hb.1, hb.2.far (p := ⟨g, i, none⟩) (fun e9 => hne e9.symm) v⟩
 ·exact List.pairwise_cons.2 ⟨(List.pairwise_cons.1 h.apart).1, (List.pairwise_cons.1 h.apart).2⟩
theorem St.setCs {W : World} {l : List Own} {g : Nat} {t : TypeId} : ∀ (vs : List Value) (o : Nat) (w : World) (cs : Array Value), St W ((g, t, cs) :: l) w → ∃ cs', St W ((g, t, cs') :: l) (w.setCells g o vs) ∧ cs'.size = cs.size ∧ ∀ q, q < o → cs'[q]? = cs[q]?
 | [], o, w, cs, h => ⟨cs, h, rfl, fun _ _ => rfl⟩
 | v :: r, o, w, cs, h => by
   obtain ⟨cs', h1, h2, h3⟩ := St.setCs r (o + 1) (w.setCell ⟨g, o, none⟩ v) _ (h.setC o v)
   refine ⟨cs', h1, by rw [h2]; simp, fun q hq => ?_⟩
   rw [h3 q (by omega), Array.getElem?_setIfInBounds, if_neg (by omega)]
theorem PX_of {cs : Array Value} {J : List Value} {ps : Pts} {k : Nat} (hk : k ≤ ps.length) (hs : cs.size = (PX J ps).size) (h : ∀ q, q < 6 * k → cs[q]? = (PX J ps)[q]?) : ∃ J', cs = PX J' (ps.take k) := by
 refine ⟨cs.toList.drop (6 * k), ?_⟩
 apply Array.toList_inj.1
 rw [PX_list, ← fl_take, ← List.take_append_drop (6 * k) cs.toList]
 congr 1
 ·apply List.ext_getElem?
  intro q
  have hlen : 6 * k ≤ (fl ps).length := by rw [fl_len]; omega
  rcases Nat.lt_or_ge q (6 * k) with h1 | h1
  ·rw [List.getElem?_take_of_lt h1, List.getElem?_take_of_lt h1, Array.getElem?_toList, h q h1]
   rw [← Array.getElem?_toList, PX_list, List.getElem?_append_left (by omega)]
  ·rw [List.getElem?_eq_none (by simp; omega), List.getElem?_eq_none (by simp; omega)]
 ·simp
theorem zero_pts (n : Nat) : ∀ v ∈ (Builtin.zeroCells (Value.agg #[.bool false, .string ⟨#[]⟩, .string ⟨#[]⟩, .bool false, .string ⟨#[]⟩, .string ⟨#[]⟩]).cells n).toList, v.oneCell' = true := by
 intro v hv
 simp only [Builtin.zeroCells, Value.cells] at hv
 obtain ⟨i, hi, he⟩ := List.mem_iff_getElem.1 hv
 have h3 : i % 6 = 0 ∨ i % 6 = 1 ∨ i % 6 = 2 ∨ i % 6 = 3 ∨ i % 6 = 4 ∨ i % 6 = 5 := by omega
 rcases h3 with h3 | h3 | h3 | h3 | h3 | h3 <;> simp [h3] at he <;> subst he <;> rfl
theorem run_clear_pt {W w : World} {l : List Own} {g o n c : Nat} {ty : TypeId} {cs : Array Value} (h : St W ((g, 29, cs) :: l) w) (ho : o + (n + 1) * 6 ≤ cs.size) :
  ∃ vs : List Value, (Builtin.clear_ #[24] ty #[.slice (some ⟨g, o, none⟩) (n + 1) c]).run Tryz.prog w = .ok (.tuple #[]) (w.setCells g o vs) := by
 have hb := (h.blk _ List.mem_cons_self).2
 have hz : (zeroValue 29).run Tryz.prog w = .ok (.agg #[.bool false, .string ⟨#[]⟩, .string ⟨#[]⟩, .bool false, .string ⟨#[]⟩, .string ⟨#[]⟩]) w := by kernel_rfl
 have hlen : (Builtin.zeroCells (Value.agg #[.bool false, .string ⟨#[]⟩, .string ⟨#[]⟩, .bool false, .string ⟨#[]⟩, .string ⟨#[]⟩]).cells (n + 1)).toList.length = (n + 1) * 6 := by
  simp [Builtin.zeroCells, Value.cells]
 have hst := run_storeCells_cells (P := Tryz.prog) g o _ 0 w (fun j hj => by
  have hj2 : j < (n + 1) * 6 := by rw [← hlen]; exact hj
  have hb2 : o + 0 + j < cs.size := by omega
  rw [hb.cell, Array.getElem?_eq_getElem hb2]
  rfl) (fun j hj => hb.frozen _) (zero_pts (n + 1))
 rw [Nat.add_zero] at hst
 refine ⟨(Builtin.zeroCells (Value.agg #[.bool false, .string ⟨#[]⟩, .string ⟨#[]⟩, .bool false, .string ⟨#[]⟩, .string ⟨#[]⟩]).cells (n + 1)).toList, ?_⟩
 simp [Builtin.clear_, run_underlying Tryz.underlying24, hz, hst]
def cpL (ps : Pts) : Pts := Go.Lib.compactUpTo ps.toArray ps.toArray.size
def CpPost (W : World) (l : List Own) (g cap : Nat) (ps : Pts) (e : Ending) (w' : World) : Prop := e = .returned (.slice (some ⟨g, 0, none⟩) (cpL ps).length cap) ∧ ∃ J', St W ((g, 29, PX J' (cpL ps)) :: l) w' ∧ (PX J' (cpL ps)).size = cap * 6
theorem cp_all {ps : Pts} (h : ∀ j, j < ps.length → Go.Lib.keeps ps.toArray j = true) : cpL ps = ps := by
 unfold cpL
 rw [Go.Lib.compactUpTo_all _ _ (fun j hj => h j (by simpa using hj)), Go.Lib.range_map_get]
open Go.Lib in
theorem compactP_S {k : Nat} {W : World} {l : List Own} {g n cap : Nat} {J : List Value} {ps : Pts} (hT : Tab W) (hz : Pz k ps) (hn : ps.length = n) (hn2 : n ≤ 1000) (hcap : cap * 6 = (PX J ps).size) (hk : k ≤ 1000000000) (w : World) (h : St W ((g, 29, PX J ps) :: l) w) :
  Calls Tryz.prog 109 #[.slice (some ⟨g, 0, none⟩) n cap, .func (.func 110) #[] #[]] w (CpPost W l g cap ps) := by
 have HT := yh hT; clear hT
 have HZ0 := yh hz; clear hz
 have HN := yh hn
 have HK := yh hk; clear hk
 have hncap : n ≤ cap := by rw [PX_size, hn] at hcap; omega
 have HCAP := yh hcap; clear hcap hn
 have HST := yh h; clear h
 by_cases h2 : n < 2
 ·have HC : Hid (cpL ps = ps) := yh (cp_all fun j hj => keeps_lt_one _ j (by rw [HN.out] at hj; omega))
  go_enter Tryz.func109, Tryz.ntmps109
  go_wp2_with fail
  go_ret
  exact ⟨by rw [HC.out, HN.out]; rfl, J, by rw [HC.out]; exact HST.out, by rw [HC.out]; exact HCAP.out.symm⟩
 ·go_enter Tryz.func109, Tryz.ntmps109
  go_wp2_with fail
  go_loopg [5] n (fun gg s5 wr => ∃ m : Nat, gg = n - m ∧ m < n ∧ s5 = .int .i64 ((m : Int) + 1) ∧ Hid (St W ((g, 29, PX J ps) :: l) wr) ∧ Hid (∀ j, j < m + 1 → keeps ps.toArray j = true))
  case atStart => exact ⟨0, rfl, by omega, rfl, HST, yh (keeps_lt_one _)⟩
  case round =>
   clear HST
   obtain ⟨m, hgk, hm, rfl, HS, HA⟩ := hrel
   have HGK := yh hgk; clear hgk
   by_cases hlt : m + 1 < n
   ·have hm1n : m + 1 < n := hlt
    have hm0n : m < n := hm
    have HM1 := yh (show m + 1 < ps.length by rw [HN.out]; exact hlt)
    have HM0 := yh (show m < ps.length by rw [HN.out]; exact hm)
    have HZ := HZ0
    have hw1 : IntKind.i64.wrap ((m : Int) + 1 - 1) = (m : Int) := by rw [show (m : Int) + 1 - 1 = (m : Int) by omega]; exact IntWalk.i64_in _ (by omega)
    have hw1' : IntKind.i64.wrap (m : Int) = (m : Int) := IntWalk.i64_in _ (by omega)
    have hw2 : IntKind.i64.wrap ((m : Int) + 1 + 1) = (m : Int) + 1 + 1 := IntWalk.i64_in _ (by omega)
    obtain ⟨r, hr⟩ : ∃ r, decide (((px ps (m + 1), py ps (m + 1)) : P2) = (px ps m, py ps m)) = r := ⟨_, rfl⟩
    have HV := yh hr
    have HKP : Hid (keeps ps.toArray (m + 1) = !r) := yh (by
     have e1 := pt_arr (d := ps.toArray) (j := m + 1) (by have := HM1.out; simpa using this)
     have e0 := pt_arr (d := ps.toArray) (j := m) (by have := HM0.out; simpa using this)
     rw [← hr]
     by_cases he : ((px ps (m + 1), py ps (m + 1)) : P2) = (px ps m, py ps m)
     ·rw [decide_eq_true he, keeps_neg (by omega) (by rw [show m + 1 - 1 = m by omega, ← e1, ← e0]; exact he)]; rfl
     ·rw [decide_eq_false he, keeps_pos (by rw [show m + 1 - 1 = m by omega, ← e1, ← e0]; exact he)]; rfl)
    clear hr
    cases r with
    | false =>
      have HA2 : Hid (∀ j, j < m + 1 + 1 → keeps ps.toArray j = true) := yh (forall_lt_succ HA.out HKP.out)
      go_upto_region 6 with fail
      refine wS [] Reg.fin_no (StR.no HS.out) ?_
      iterate 3 refine pU ?_
      refine Seq.index (m := 6) (m + 1) rfl rfl rfl rfl rfl (by kernel_rfl) (by omega) hm1n (nZ ?_)
      refine lM (VC (px ps (m + 1)) (py ps (m + 1))) (PX_room HM1.out) (PX_at HM1.out) ?_
      iterate 2 refine pU ?_
      refine pV (.int .i64 (m : Int)) (by intro w; go_simp <;> (first | (rw [hw1]; done) | exact hw1 | omega | exact IntWalk.i64_in _ (by omega) | (go_num; done) | (simp [hw1]; done))) ?_
      refine iX 6 m hm0n ?_
      refine lM (VC (px ps m) (py ps m)) (PX_room HM0.out) (PX_at HM0.out) ?_
      refine Seq.callF (f := 110) (vs := #[.agg (VC (px ps (m + 1)) (py ps (m + 1))), .agg (VC (px ps m) (py ps m))]) rfl rfl rfl rfl rfl (by kernel_rfl) (same_q (k := k) HT.out (HZ.out.x HM1.out) (HZ.out.y HM1.out) (HZ.out.x HM0.out) (HZ.out.y HM0.out) HV.out (by have := HK.out; omega)) (nZ ?_)
      refine dnH fun wz HS2=>?_
      clear HS
      go_wp2_with fail
      go_roundg (n - (m + 1))
      case measure => rw [HGK.out]; omega
      case rel => exact ⟨m + 1, rfl, hlt, by go_num, HS2, HA2⟩
    | true =>
      have HC0 : Hid (CompInv ps.toArray (m + 1 + 1) (m + 1) ps.toArray) := yh (CompInv.start HA.out HKP.out)
      go_upto_region 6 with fail
      refine wS [] Reg.fin_no (StR.no HS.out) ?_
      iterate 3 refine pU ?_
      refine Seq.index (m := 6) (m + 1) rfl rfl rfl rfl rfl (by kernel_rfl) (by omega) hm1n (nZ ?_)
      refine lM (VC (px ps (m + 1)) (py ps (m + 1))) (PX_room HM1.out) (PX_at HM1.out) ?_
      iterate 2 refine pU ?_
      refine pV (.int .i64 (m : Int)) (by intro w; go_simp <;> (first | (rw [hw1]; done) | exact hw1 | omega | exact IntWalk.i64_in _ (by omega) | (go_num; done) | (simp [hw1]; done))) ?_
      refine iX 6 m hm0n ?_
      refine lM (VC (px ps m) (py ps m)) (PX_room HM0.out) (PX_at HM0.out) ?_
      refine Seq.callF (f := 110) (vs := #[.agg (VC (px ps (m + 1)) (py ps (m + 1))), .agg (VC (px ps m) (py ps m))]) rfl rfl rfl rfl rfl (by kernel_rfl) (same_q (k := k) HT.out (HZ.out.x HM1.out) (HZ.out.y HM1.out) (HZ.out.x HM0.out) (HZ.out.y HM0.out) HV.out (by have := HK.out; omega)) (nZ ?_)
      refine dnH fun wz HS2=>?_
      clear HS HV HKP HA
      obtain ⟨n1, hn1⟩ : ∃ n1, n - (m + 1) = n1 := ⟨_, rfl⟩
      have HN1 : Hid (n = m + 1 + n1) := yh (by omega)
      have hn1' : 1 ≤ n1 := by omega
      have hb1 : n1 ≤ n := by omega
      have hcm : m + 1 < cap := by omega
      go_wp2_with fail
      try rw [hn1]
      clear hn1 hw1 hw1' hw2
      go_loopg [5, 7] n (fun gg s5 s7 wi => ∃ (kk q : Nat) (dk : Array P2), gg = n - q ∧ s5 = .int .i64 (kk : Int) ∧ s7 = .int .i64 ((q : Int) + 1) ∧ q < n1 ∧ Hid (St W ((g, 29, PX J dk.toList) :: l) wi) ∧ Hid (Pz k dk.toList) ∧ Hid (CompInv ps.toArray (m + 1 + q + 1) kk dk))
      case atStart => exact ⟨m + 1, 0, ps.toArray, rfl, by go_num, rfl, hn1', by simpa using HS2, yh (by simpa using HZ0.out), HC0⟩
      case round =>
       clear HS2 HC0
       obtain ⟨kk, q, dk, hgk2, rfl, rfl, hq, HS, HZ, HCI⟩ := hrel
       have HGK2 := yh hgk2; clear hgk2
       have hkm := HCI.out.lt
       have HDS := yh (show dk.size = n by rw [HCI.out.size]; simpa using HN.out)
       by_cases hlt2 : q + 1 < n1
       ·obtain ⟨qs, hqs⟩ : ∃ qs, dk.toList = qs := ⟨_, rfl⟩
        have HL := yh (show qs.length = n by rw [← hqs]; simpa using HDS.out)
        have hmq : m + 1 + (q + 1) < n := by rw [HN1.out]; omega
        have HQ1 := yh (show m + 1 + (q + 1) < qs.length by rw [HL.out]; exact hmq)
        have HQ0 := yh (show m + 1 + q < qs.length by rw [HL.out]; omega)
        have HKQ := yh (show kk < qs.length by rw [HL.out]; omega)
        have hq1n : q + 1 < n1 := hlt2
        have hq0n : q < n1 := hq
        have hkn : kk < n := by omega
        have hw3 : IntKind.i64.wrap ((q : Int) + 1 - 1) = (q : Int) := by rw [show (q : Int) + 1 - 1 = (q : Int) by omega]; exact IntWalk.i64_in _ (by omega)
        have hw3' : IntKind.i64.wrap (q : Int) = (q : Int) := IntWalk.i64_in _ (by omega)
        have hw4 : IntKind.i64.wrap ((q : Int) + 1 + 1) = (q : Int) + 1 + 1 := IntWalk.i64_in _ (by omega)
        have hw5 : IntKind.i64.wrap ((kk : Int) + 1) = (kk : Int) + 1 := IntWalk.i64_in _ (by omega)
        have p1 : pt qs (m + 1 + (q + 1)) = ps.toArray[m + 1 + (q + 1)]! := by rw [← hqs, pt_arr (by rw [HDS.out]; exact hmq), HCI.out.high _ (by omega)]
        have p0 : pt qs (m + 1 + q) = ps.toArray[m + 1 + q]! := by rw [← hqs, pt_arr (by rw [HDS.out]; omega), HCI.out.high _ (by omega)]
        obtain ⟨r, hr⟩ : ∃ r, decide (((px qs (m + 1 + (q + 1)), py qs (m + 1 + (q + 1))) : P2) = (px qs (m + 1 + q), py qs (m + 1 + q))) = r := ⟨_, rfl⟩
        have HV := yh hr
        have HKP : Hid (keeps ps.toArray (m + 1 + (q + 1)) = !r) := yh (by
         rw [← hr]
         by_cases he : ((px qs (m + 1 + (q + 1)), py qs (m + 1 + (q + 1))) : P2) = (px qs (m + 1 + q), py qs (m + 1 + q))
         ·rw [decide_eq_true he, keeps_neg (by omega) (by rw [show m + 1 + (q + 1) - 1 = m + 1 + q by omega, ← p1, ← p0]; exact he)]; rfl
         ·rw [decide_eq_false he, keeps_pos (by rw [show m + 1 + (q + 1) - 1 = m + 1 + q by omega, ← p1, ← p0]; exact he)]; rfl)
        clear hr
        rw [hqs] at HS HZ
        cases r with
        | true =>
          have HC2 : Hid (CompInv ps.toArray (m + 1 + (q + 1) + 1) kk dk) := yh (CompInv.skip HCI.out HKP.out)
          have HQS := yh hqs
          clear p1 p0 hqs
          go_upto_region 11 with fail
          refine wS [] Reg.fin_no (StR.no HS.out) ?_
          iterate 3 refine pU ?_
          refine Seq.indexO (m := 6) (q + 1) rfl rfl rfl rfl rfl (by kernel_rfl) (by omega) hq1n (q := 6 * (m + 1 + (q + 1))) (by omega) (nZ ?_)
          refine lM (VC (px qs (m + 1 + (q + 1))) (py qs (m + 1 + (q + 1)))) (PX_room HQ1.out) (PX_at HQ1.out) ?_
          iterate 2 refine pU ?_
          refine pV (.int .i64 (q : Int)) (by intro w; go_simp <;> (first | (rw [hw3]; done) | exact hw3 | omega | exact IntWalk.i64_in _ (by omega) | (go_num; done) | (simp [hw3]; done))) ?_
          refine Seq.indexO (m := 6) q rfl rfl rfl rfl rfl (by kernel_rfl) rfl hq0n (q := 6 * (m + 1 + q)) (by omega) (nZ ?_)
          refine lM (VC (px qs (m + 1 + q)) (py qs (m + 1 + q))) (PX_room HQ0.out) (PX_at HQ0.out) ?_
          refine Seq.callF (f := 110) (vs := #[.agg (VC (px qs (m + 1 + (q + 1))) (py qs (m + 1 + (q + 1)))), .agg (VC (px qs (m + 1 + q)) (py qs (m + 1 + q)))]) rfl rfl rfl rfl rfl (by kernel_rfl) (same_q (k := k) HT.out (HZ.out.x HQ1.out) (HZ.out.y HQ1.out) (HZ.out.x HQ0.out) (HZ.out.y HQ0.out) HV.out (by have := HK.out; omega)) (nZ ?_)
          refine pU ?_
          refine dnH fun wz HS2=>?_
          clear HS
          go_wp2_with fail
          go_roundg (n - (q + 1))
          case measure => rw [HGK2.out]; omega
          case rel => exact ⟨kk, q + 1, dk, rfl, rfl, by go_num, hlt2, by rw [HQS.out]; exact HS2, by rw [HQS.out]; exact HZ, HC2⟩
        | false =>
          have HC2 : Hid (CompInv ps.toArray (m + 1 + (q + 1) + 1) (kk + 1) (dk.setIfInBounds kk ps.toArray[m + 1 + (q + 1)]!)) := yh (CompInv.keep HCI.out (by simpa [HN.out] using hmq) HKP.out)
          have HQS : Hid ((dk.setIfInBounds kk ps.toArray[m + 1 + (q + 1)]!).toList = qs.set kk (px qs (m + 1 + (q + 1)), py qs (m + 1 + (q + 1)))) := yh (by
           rw [← p1, ← hqs]; simp [pt])
          have HZ2 := yh (HZ.out.set (i := kk) (v := (px qs (m + 1 + (q + 1)), py qs (m + 1 + (q + 1)))) ⟨HZ.out.x HQ1.out, HZ.out.y HQ1.out⟩)
          clear p1 p0 hqs
          go_upto_region 11 with fail
          refine wS [] Reg.fin_no (StR.no HS.out) ?_
          iterate 3 refine pU ?_
          refine Seq.indexO (m := 6) (q + 1) rfl rfl rfl rfl rfl (by kernel_rfl) (by omega) hq1n (q := 6 * (m + 1 + (q + 1))) (by omega) (nZ ?_)
          refine lM (VC (px qs (m + 1 + (q + 1))) (py qs (m + 1 + (q + 1)))) (PX_room HQ1.out) (PX_at HQ1.out) ?_
          iterate 2 refine pU ?_
          refine pV (.int .i64 (q : Int)) (by intro w; go_simp <;> (first | (rw [hw3]; done) | exact hw3 | omega | exact IntWalk.i64_in _ (by omega) | (go_num; done) | (simp [hw3]; done))) ?_
          refine Seq.indexO (m := 6) q rfl rfl rfl rfl rfl (by kernel_rfl) rfl hq0n (q := 6 * (m + 1 + q)) (by omega) (nZ ?_)
          refine lM (VC (px qs (m + 1 + q)) (py qs (m + 1 + q))) (PX_room HQ0.out) (PX_at HQ0.out) ?_
          refine Seq.callF (f := 110) (vs := #[.agg (VC (px qs (m + 1 + (q + 1))) (py qs (m + 1 + (q + 1)))), .agg (VC (px qs (m + 1 + q)) (py qs (m + 1 + q)))]) rfl rfl rfl rfl rfl (by kernel_rfl) (same_q (k := k) HT.out (HZ.out.x HQ1.out) (HZ.out.y HQ1.out) (HZ.out.x HQ0.out) (HZ.out.y HQ0.out) HV.out (by have := HK.out; omega)) (nZ ?_)
          refine pU ?_
          refine dnS fun _ HS2=>?_
          clear HS
          go_upto_region 12 with fail
          refine wp_seq_text [10] (StR.move (StR.no HS2)) ?_
          iterate 4 refine pU ?_
          refine Seq.indexO (m := 6) (q + 1) rfl rfl rfl rfl rfl (by kernel_rfl) (by omega) hq1n (q := 6 * (m + 1 + (q + 1))) (by omega) (nZ ?_)
          refine lG (VC (px qs (m + 1 + (q + 1))) (py qs (m + 1 + (q + 1)))) (PX_room HQ1.out) (PX_at HQ1.out) ?_
          refine iX 6 kk hkn ?_
          refine Seq.storeAt (v := .agg (VC (px qs (m + 1 + (q + 1))) (py qs (m + 1 + (q + 1))))) rfl rfl rfl rfl rfl (by repeat first|exact rS|refine rN ‹_› ?_) (PX_room HKQ.out) (by show _ = some 6; kernel_rfl) (VC_one _ _) (cs' := PX J (qs.set kk ((px qs (m + 1 + (q + 1))), (py qs (m + 1 + (q + 1)))))) (PX_put HKQ.out) (nZ ?_)
          refine Seq.done fun wz2 hws => ?_
          have HS3 := yh (hws.q1)
          clear hws HS2
          go_wp2_with fail
          go_roundg (n - (q + 1))
          case measure => rw [HGK2.out]; omega
          case rel => exact ⟨kk + 1, q + 1, _, rfl, by go_num, by go_num, hlt2, by rw [HQS.out]; exact HS3, by rw [HQS.out]; exact HZ2, HC2⟩
       ·have hend : m + 1 + q + 1 = n := by rw [HN1.out]; omega
        have hkn : kk < n := by omega
        obtain ⟨n2, hn2'⟩ : ∃ n2, n = kk + (n2 + 1) := ⟨n - kk - 1, by omega⟩
        have hsz : cap * 6 = (PX J dk.toList).size := by rw [HCAP.out, PX_size, PX_size, HN.out]; simp [HDS.out]
        obtain ⟨vs, hcl⟩ := run_clear_pt (o := kk * 6) (n := n2) (c := cap - kk) (ty := 0) HS.out (by rw [← hsz]; omega)
        have HN2 : n - kk = n2 + 1 := by omega
        rw [← HN2] at hcl
        have HP : Hid (CpPost W l g cap ps (.returned (.slice (some ⟨g, 0, none⟩) kk cap)) (wr.setCells g (kk * 6) vs)) := yh (by
         have hI := HCI.out
         rw [hend] at hI
         have hcp : cpL ps = dk.toList.take kk := by
          unfold cpL
          have hss : ps.toArray.size = n := by simpa using HN.out
          rw [hss]
          apply List.ext_getElem?
          intro j
          rcases Nat.lt_or_ge j kk with h1 | h1
          ·rw [hI.low j h1, List.getElem?_take_of_lt h1, Array.getElem?_toList, Array.getElem?_eq_getElem (by rw [HDS.out]; omega), getElem!_pos dk j (by rw [HDS.out]; omega)]
          ·rw [List.getElem?_eq_none (by rw [hI.len]; exact h1), List.getElem?_eq_none (by simp; omega)]
         have hlen : (cpL ps).length = kk := by rw [hcp]; simp [HDS.out]; omega
         obtain ⟨cs', g1, g2, g3⟩ := St.setCs vs (kk * 6) wr _ HS.out
         obtain ⟨J', hJ⟩ := PX_of (J := J) (ps := dk.toList) (k := kk) (by simp [HDS.out]; omega) g2 (fun t ht => g3 t (by omega))
         exact ⟨by rw [hlen], J', by rw [hcp, ← hJ]; exact g1, by rw [hcp, ← hJ, g2]; exact hsz.symm⟩)
        clear hn2' HN2 hend hsz
        go_wp2_with fail
        go_ret
        exact HP.out
   ·obtain rfl : n = m + 1 := by omega
    have HC : Hid (cpL ps = ps) := yh (cp_all fun j hj => HA.out j (by rw [HN.out] at hj; exact hj))
    go_wp2_with fail
    go_ret
    exact ⟨by rw [HC.out, HN.out]; rfl, J, by rw [HC.out]; exact HS.out, by rw [HC.out]; exact HCAP.out.symm⟩
theorem cpu_mem (d : Array P2) (m : Nat) (hm : m ≤ d.size) (x : P2) : x ∈ Go.Lib.compactUpTo d m ↔ ∃ j, j < m ∧ d[j]! = x := by
 induction m with
 | zero => simp [Go.Lib.compactUpTo]
 | succ m ih =>
   rw [Go.Lib.compactUpTo_succ, List.mem_append, ih (by omega)]
   constructor
   ·rintro (⟨j, h1, h2⟩ | h)
    ·exact ⟨j, by omega, h2⟩
    ·split at h
     ·simp at h; exact ⟨m, by omega, h.symm⟩
     ·simp at h
   ·rintro ⟨j, h1, h2⟩
    by_cases hj : j < m
    ·exact .inl ⟨j, hj, h2⟩
    ·have : j = m := by omega
     subst this
     by_cases hk : Go.Lib.keeps d j = true
     ·right; rw [if_pos hk]; simp [h2]
     ·left
      unfold Go.Lib.keeps at hk
      simp only [decide_eq_true_eq] at hk
      have h0 : j ≠ 0 := fun e => hk (.inl e)
      have he : d[j]! = d[j-1]! := Classical.byContradiction fun e => hk (.inr e)
      exact ⟨j - 1, by omega, by rw [← he]; exact h2⟩
theorem lxl_eq {a b : P2} (h1 : ¬ lxl a b) (h2 : ¬ lxl b a) : a = b := by
 rcases lxl_total a b with h | h | h
 ·exact absurd h h1
 ·exact h
 ·exact absurd h h2
theorem cpu_asc (d : Array P2) (hs : ∀ i j, i < j → j < d.size → ¬ lxl d[j]! d[i]!) (m : Nat) (hm : m ≤ d.size) : (Go.Lib.compactUpTo d m).Pairwise lxl := by
 induction m with
 | zero => simp [Go.Lib.compactUpTo]
 | succ m ih =>
   have h := ih (by omega)
   rw [Go.Lib.compactUpTo_succ]
   by_cases hk : Go.Lib.keeps d m = true
   ·rw [if_pos hk, List.pairwise_append]
    refine ⟨h, by simp, fun x hx y hy => ?_⟩
    obtain ⟨j, h1, h2⟩ := (cpu_mem d m (by omega) x).1 hx
    simp at hy
    subst hy
    subst h2
    have h3 : ¬ lxl d[m]! d[j]! := hs j m h1 (by omega)
    refine Classical.byContradiction fun h4 => ?_
    have he : d[j]! = d[m]! := lxl_eq h4 h3
    have h0 : m ≠ 0 := by omega
    have hne : d[m]! ≠ d[m-1]! := by
     unfold Go.Lib.keeps at hk
     simp only [decide_eq_true_eq] at hk
     rcases hk with hk | hk
     ·exact absurd hk h0
     ·exact hk
    by_cases hj : j = m - 1
    ·subst hj; exact hne he.symm
    ·have a1 : ¬ lxl d[m-1]! d[j]! := hs j (m-1) (by omega) (by omega)
     have a2 : ¬ lxl d[m]! d[m-1]! := hs (m-1) m (by omega) (by omega)
     rw [he] at a1
     exact hne (lxl_eq a2 a1).symm.symm
   ·rw [if_neg hk, List.append_nil]; exact h
theorem cpL_mem (qs : Pts) (x : P2) : x ∈ cpL qs ↔ x ∈ qs := by
 unfold cpL
 rw [cpu_mem _ _ (Nat.le_refl _)]
 constructor
 ·rintro ⟨j, h1, h2⟩
  rw [getElem!_pos qs.toArray j h1] at h2
  rw [← h2]
  simp
 ·intro h
  obtain ⟨j, h1, h2⟩ := List.mem_iff_getElem.1 h
  exact ⟨j, by simpa using h1, by rw [getElem!_pos qs.toArray j (by simpa using h1)]; simpa using h2⟩
theorem cpL_asc {qs : Pts} {n : Nat} (hn : qs.length = n) (h : SrtP n qs) : (cpL qs).Pairwise lxl := by
 refine cpu_asc qs.toArray (fun i j hij hj => ?_) _ (Nat.le_refl _)
 rw [← pt_arr hj, ← pt_arr (show i < qs.toArray.size by omega)]
 exact h i j hij (by rw [← hn]; simpa using hj)
theorem cpL_len (qs : Pts) : (cpL qs).length ≤ qs.length := by
 unfold cpL Go.Lib.compactUpTo
 rw [List.length_map]
 refine Nat.le_trans (List.length_filter_le _ _) ?_
 simp
theorem len64_s (x : Int) (w : World) (h0 : 0 ≤ x) (h1 : x ≤ 200) :
  Calls Tryz.prog 156 #[.int .u64 x] w fun e w' => ∃ v : Int, e = .returned (.int .i64 v) ∧ w' = w := by
 go_enter Tryz.func156, Tryz.ntmps156
 go_wp2
 all_goals (go_ret; exact ⟨_, rfl, rfl⟩)
theorem len_s (x : Int) (w : World) (h0 : 0 ≤ x) (h1 : x ≤ 200) :
  Calls Tryz.prog 119 #[.int .u64 x] w fun e w' => ∃ v : Int, e = .returned (.int .i64 v) ∧ w' = w := by
 go_enter Tryz.func119, Tryz.ntmps119
 go_wp2_with (go_at_call 156; refine (len64_s x _ h0 h1).mono ?_; rintro e w' ⟨v, rfl, rfl⟩)
 go_ret
 exact ⟨_, rfl, rfl⟩
def SortPost (W : World) (l : List Own) (g n : Nat) (J : List Value) (ps : Pts) (e : Ending) (w' : World) : Prop :=
 e = .returned (.tuple #[]) ∧ ∃ qs, qs.length = n ∧ qs.Perm ps ∧ SrtP n qs ∧ St W ((g, 29, PX J qs) :: l) w'
theorem pdq_S {k : Nat} {W : World} {l : List Own} {g n cap : Nat} {J : List Value} {ps : Pts} (hT : Tab W) (hz : Pz k ps) (hn : ps.length = n) (hn2 : n ≤ 12) (hk : k ≤ 1000000000) (v : Int) (w : World) (h : St W ((g, 29, PX J ps) :: l) w) :
  Calls Tryz.prog 144 #[.slice (some ⟨g, 0, none⟩) n cap, .int .i64 0, .int .i64 (n : Int), .int .i64 v, .func (.func 108) #[] #[]] w (SortPost W l g n J ps) := by
 have HI := yh (fun (w : World) (h : St W ((g, 29, PX J ps) :: l) w) => isort_S (cap := cap) hT hz hn (by omega) hk w h)
 have HST := yh h
 clear hT hz hn hk h
 have hw1 : IntKind.i64.wrap ((n : Int) - 0) = (n : Int) := by rw [Int.sub_zero]; exact IntWalk.i64_in _ (by omega)
 have hw2 : IntKind.i64.wrap (n : Int) = (n : Int) := IntWalk.i64_in _ (by omega)
 have hle : (n : Int) ≤ 12 := by omega
 go_enter Tryz.func144, Tryz.ntmps144
 go_wp2_with fail
 go_loopg [1, 2] 0 (fun kx s1 s2 wr => kx = 0 ∧ s1 = .int .i64 0 ∧ s2 = .int .i64 (n : Int) ∧ Hid (St W ((g, 29, PX J ps) :: l) wr))
 case atStart => exact ⟨rfl, rfl, rfl, HST⟩
 case round =>
  clear HST
  obtain ⟨-, rfl, rfl, HS⟩ := hrel
  go_wp2_with (first | (go_at_call 169; refine (HI.out _ HS.out).mono ?_; rintro e w2 ⟨rfl, hp⟩) | fail)
  go_end0
  exact ⟨rfl, hp⟩
theorem sortF_S {k : Nat} {W : World} {l : List Own} {g n cap : Nat} {J : List Value} {ps : Pts} (hT : Tab W) (hz : Pz k ps) (hn : ps.length = n) (hn2 : n ≤ 12) (hk : k ≤ 1000000000) (w : World) (h : St W ((g, 29, PX J ps) :: l) w) :
  Calls Tryz.prog 107 #[.slice (some ⟨g, 0, none⟩) n cap, .func (.func 108) #[] #[]] w (SortPost W l g n J ps) := by
 have HI := yh (fun (v : Int) (w : World) (h : St W ((g, 29, PX J ps) :: l) w) => pdq_S (cap := cap) hT hz hn hn2 hk v w h)
 have HST := yh h
 clear hT hz hn hk h
 have hwu : IntKind.u64.wrap (n : Int) = (n : Int) := IntWalk.u64_in _ (by omega)
 go_enter Tryz.func107, Tryz.ntmps107
 go_wp2_with (first | (go_at_call 119; refine (len_s _ _ (by omega) (by omega)).mono ?_; rintro e w2 ⟨v, rfl, rfl⟩) | (go_at_call 144; refine (HI.out _ _ HST.out).mono ?_; rintro e w2 ⟨rfl, hp⟩) | fail)
 go_end0
 exact ⟨rfl, hp⟩
end Go.Proofs.YtmchjmflkaiakaaGreatDoor
