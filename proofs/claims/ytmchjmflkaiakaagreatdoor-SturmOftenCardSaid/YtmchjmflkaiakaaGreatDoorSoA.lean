/- Sorting of few numbers (printed by srt.py). -/
import Derived.Test.YtmchjmflkaiakaaGreatDoorStA
import Derived.Test.YtmchjmflkaiakaaGreatDoorPo1
import Derived.Deep.LoopGhost
import Derived.OwnWalk
set_option maxHeartbeats 4000000
set_option maxRecDepth 100000
namespace Go.Proofs.YtmchjmflkaiakaaGreatDoor
open Go.RowKit
set_option linter.unusedVariables false
set_option linter.unusedSimpArgs false
variable {W : World} {l : List Own}
theorem rx_set {qs : Nums} {j k : Nat} {v : Rat} (h : j < qs.length) : rx (qs.set j v) k = if j = k then v else rx qs k := by
 unfold rx
 rw [List.getD_eq_getElem?_getD, List.getD_eq_getElem?_getD, List.getElem?_set]
 by_cases e : j = k
 ·subst e; rw [if_pos rfl, if_pos rfl, if_pos h]; rfl
 ·rw [if_neg e, if_neg e]
def swn (qs : Nums) (j : Nat) : Nums := (qs.set (j + 1) (rx qs j)).set j (rx qs (j + 1))
theorem swn_length (qs : Nums) (j : Nat) : (swn qs j).length = qs.length := by simp [swn]
theorem swn_rx {qs : Nums} {j : Nat} (h : j + 1 < qs.length) (k : Nat) : rx (swn qs j) k = if k = j then rx qs (j + 1) else if k = j + 1 then rx qs j else rx qs k := by
 unfold swn
 rw [rx_set (by rw [List.length_set]; omega), rx_set h]
 by_cases e1 : j = k
 ·subst e1; simp
 ·by_cases e2 : j + 1 = k
  ·subst e2; simp
  ·rw [if_neg e1, if_neg e2, if_neg (fun e => e1 e.symm), if_neg (fun e => e2 e.symm)]
theorem swn_perm {qs : Nums} {j : Nat} (h : j + 1 < qs.length) : (swn qs j).Perm qs := by
 have e : qs = qs.take j ++ (rx qs j :: rx qs (j + 1) :: qs.drop (j + 2)) := by
  conv => lhs; rw [← List.take_append_drop j qs]
  rw [List.drop_eq_getElem_cons (show j < qs.length by omega), List.drop_eq_getElem_cons h, rx_get, rx_get]
 have hl : (qs.take j).length = j := by simp; omega
 generalize hp : rx qs j = p at e
 generalize hq : rx qs (j + 1) = q at e
 unfold swn
 rw [hp, hq]
 generalize qs.take j = A at *
 generalize qs.drop (j + 2) = B at *
 subst e
 rw [List.set_append, if_neg (by omega), show j + 1 - A.length = 1 by omega, List.set_append, if_neg (by omega), show j - A.length = 0 by omega]
 exact List.Perm.append_left _ (List.Perm.swap _ _ _)
theorem Qz.perm {k : Nat} {ps qs : Nums} (h : Qz k ps) (hp : qs.Perm ps) : Qz k qs := fun p hq => h p (hp.mem_iff.1 hq)
theorem cmpQ_neg {a b : Rat} : cmpQ a b < 0 ↔ a < b := by unfold cmpQ; split <;> (try split) <;> grind
def SrtN (k : Nat) (qs : Nums) : Prop := ∀ a b, a < b → b < k → ¬ rx qs b < rx qs a
def SnkN (i j : Nat) (qs : Nums) : Prop := j ≤ i ∧ ∀ a b, a < b → b ≤ i → b ≠ j → ¬ rx qs b < rx qs a
theorem snn_start {i : Nat} {qs : Nums} (h : SrtN i qs) : SnkN i i qs := ⟨Nat.le_refl _, fun a b hab hb hn => h a b hab (by omega)⟩
theorem snn_step {i j : Nat} {qs : Nums} (hl : i < qs.length) (h : SnkN i (j + 1) qs) (hlt : rx qs (j + 1) < rx qs j) : SnkN i j (swn qs j) := by
 obtain ⟨h0, h1⟩ := h
 refine ⟨by omega, fun a b hab hb hn => ?_⟩
 rw [swn_rx (by omega), swn_rx (by omega), if_neg hn]
 by_cases e1 : b = j + 1
 ·subst e1
  rw [if_pos rfl]
  by_cases e2 : a = j
  ·subst e2; rw [if_pos rfl]; grind
  ·rw [if_neg e2, if_neg (by omega)]
   exact h1 a j (by omega) (by omega) (by omega)
 ·rw [if_neg e1]
  by_cases e2 : a = j
  ·subst e2; rw [if_pos rfl]; exact h1 (a + 1) b (by omega) hb e1
  ·by_cases e3 : a = j + 1
   ·subst e3; rw [if_neg e2, if_pos rfl]; exact h1 j b (by omega) hb e1
   ·rw [if_neg e2, if_neg e3]; exact h1 a b hab hb e1
theorem snn_end {i j : Nat} {qs : Nums} (h : SnkN i j qs) (he : j = 0 ∨ ∃ k, j = k + 1 ∧ ¬ rx qs (k + 1) < rx qs k) : SrtN (i + 1) qs := by
 obtain ⟨h0, h1⟩ := h
 intro a b hab hb
 by_cases e : b = j
 ·subst e
  rcases he with he | ⟨k, rfl, hk⟩
  ·omega
  ·by_cases e2 : a = k
   ·subst e2; exact hk
   ·have := h1 a k (by omega) (by omega) (by omega); grind
 ·exact h1 a b hab (by omega) e
section
variable {P : Program} {ops : Array Oper} {W : World} {l : List Own} {Q : Exit → Act → World → Prop} {gs : List Nat} {k : Nat} {o : Oper} {rest : List Oper} {a : Act} {R : Reg}
theorem Seq.callF {f : FuncId} {y : Operand} {xs : List Operand} {ts : Array TypeId} {vs : Array Value} {v : Value} (ho : o.op = .call { callee := .value y, args := xs.toArray, argTypes := ts }) (hy : a.eval y = .func (.func f) #[] #[]) (hk : kd gs k o = .val) (hw : wants ops o a = true)
  (hx : xs.map a.eval = vs.toList) (hf : goesIn P f = true)
  (hc : ∀ w, St W l w → Calls P f vs w (fun e w' => e = .returned v ∧ Below w.heap.size w w'))
  (h : Seq P ops Q W l gs (k + 1) rest (a.put o.dst v) R) : Seq P ops Q W l gs k (o :: rest) a R := by
 refine .inl (.inr ⟨hw, ?_⟩)
 rw [hk]
 refine ⟨v, .inr ⟨by simp [isCall, ho], fun w hs => ?_⟩, h⟩
 have key : ∀ ρ : Operand → Value, ρ y = .func (.func f) #[] #[] → xs.map ρ = vs.toList → (execOp ρ o).run P w = .ok (.enter f vs) w := by
  intro ρ h1 h2
  unfold goesIn at hf
  cases hp : P.funcs[f]? with
  | none => simp [hp] at hf
  | some fn =>
    simp only [hp, Bool.and_eq_true, bne_iff_ne, ne_eq] at hf
    have hb : fn.body.isNone = false := by cases hq : fn.body <;> simp_all
    have hv : (xs.map ρ).toArray = vs := by rw [h2]
    simp [execOp, ho, resolve, invoke, callFunc, Deferred.ofValue, h1, hp, hf.1, hb, hv, go_sem]
    intro hq; rw [hq] at hb; cases hb
 have hr := key a.eval hy hx
 rw [hr]
 exact ⟨Below.refl _ _, hc w hs⟩
end
theorem isortN_S {k : Nat} {W : World} {l : List Own} {g n cap : Nat} {J : List Value} {ps : Nums} (hT : Tab W) (hz : Qz k ps) (hn : ps.length = n) (hn2 : n ≤ 1000) (hk : k ≤ 1000000000) (w : World) (h : St W ((g, 27, RX J ps) :: l) w) :
  Calls Tryz.prog 147 #[.slice (some ⟨g, 0, none⟩) n cap, .int .i64 0, .int .i64 (n : Int), .func (.func 29) #[] #[]] w fun e w' => e = .returned (.tuple #[]) ∧ ∃ qs, qs.length = n ∧ qs.Perm ps ∧ SrtN n qs ∧ St W ((g, 27, RX J qs) :: l) w' := by
 have HT := yh hT; clear hT
 have HZ0 := yh hz; clear hz
 have HN := yh hn; clear hn
 have HK := yh hk; clear hk
 have HST := yh h; clear h
 go_enter Tryz.func147, Tryz.ntmps147
 go_wp2_with fail
 go_loopg [8] (n - 1) (fun kx s8 wr => ∃ (i : Nat) (qs : Nums), kx = n - i ∧ s8 = .int .i64 (i : Int) ∧ 1 ≤ i ∧ (i ≤ n ∨ i = 1) ∧ Hid (qs.length = n ∧ qs.Perm ps ∧ SrtN i qs) ∧ Hid (St W ((g, 27, RX J qs) :: l) wr))
 case atStart => exact ⟨1, ps, by omega, rfl, Nat.le_refl _, .inr rfl, yh ⟨HN.out, List.Perm.refl _, fun a b hab hb => by omega⟩, HST⟩
 case round =>
  clear HST
  obtain ⟨i, qs, hgk, rfl, hi1, hi2, HQ, HS⟩ := hrel
  have HGK := yh hgk; clear hgk
  by_cases hlt : i < n
  ·have HLT := yh hlt
   have hwi : IntKind.i64.wrap ((i : Int) + 1) = (i : Int) + 1 := IntWalk.i64_in _ (by omega)
   go_wp2_with fail
   have HQ1 : Hid (qs.length = n ∧ qs.Perm ps ∧ SnkN i i qs) := yh ⟨HQ.out.1, HQ.out.2.1, snn_start HQ.out.2.2⟩
   clear HQ
   go_loopg [9] i (fun kx s9 wi => ∃ (j : Nat) (qs : Nums), kx = j ∧ s9 = .int .i64 (j : Int) ∧ j ≤ i ∧ Hid (qs.length = n ∧ qs.Perm ps ∧ SnkN i j qs) ∧ Hid (St W ((g, 27, RX J qs) :: l) wi))
   case atStart => exact ⟨i, qs, rfl, rfl, Nat.le_refl _, HQ1, HS⟩
   case round =>
    clear HQ1 HS
    obtain ⟨j, qs, hgk2, rfl, hji, HQ, HS⟩ := hrel
    have HGK2 := yh hgk2; clear hgk2
    rcases j with _ | j
    ·go_upto_region 4 with fail
     refine wS [] Reg.fin_no (StR.no HS.out) ?_
     iterate 4 refine pU ?_
     iterate 12 refine nW ?_
     refine pU ?_
     refine dnH fun wz HS2=>?_
     clear HS
     go_wp2_with fail
     go_roundg (n - (i + 1))
     case measure => rw [HGK.out]; have := HLT.out; omega
     case rel => exact ⟨i + 1, qs, rfl, by go_num, by omega, by have := HLT.out; omega, yh ⟨HQ.out.1, HQ.out.2.1, snn_end HQ.out.2.2 (.inl rfl)⟩, HS2⟩
    ·have hjn : j + 1 < n := by have := HLT.out; omega
     have HJ1 := yh (show j + 1 < qs.length by rw [HQ.out.1]; exact hjn)
     have HJ0 := yh (show j < qs.length by rw [HQ.out.1]; omega)
     have HJ2 := yh (show j < (qs.set (j + 1) (rx qs j)).length by rw [List.length_set, HQ.out.1]; omega)
     have hj1n : j + 1 < n := hjn
     have hj0n : j < n := by omega
     have HZ := yh (HZ0.out.perm HQ.out.2.1)
     obtain ⟨v, hv⟩ : ∃ v, cmpQ (rx qs (j + 1)) (rx qs j) = v := ⟨_, rfl⟩
     have HV := yh hv
     have HO := yh (cmpQ_neg (a := rx qs (j + 1)) (b := rx qs j))
     have hvi : v < 0 ↔ rx qs (j + 1) < rx qs j := by rw [← hv]; exact HO.out
     clear hv
     have hw1 : IntKind.i64.wrap ((j : Int) + 1 - 1) = (j : Int) := by rw [show (j : Int) + 1 - 1 = (j : Int) by omega]; exact IntWalk.i64_in _ (by omega)
     have hw2 : IntKind.i64.wrap (j : Int) = (j : Int) := IntWalk.i64_in _ (by omega)
     have hpos : (0 : Int) < (j : Int) + 1 := by omega
     by_cases hlx : rx qs (j + 1) < rx qs j
     ·have hvd : decide (v < 0) = true := decide_eq_true (hvi.2 hlx)
      clear hvi
      have HLX := yh hlx; clear hlx
      go_upto_region 4 with fail
      refine wS [] Reg.fin_no (StR.no HS.out) ?_
      iterate 7 refine pU ?_
      refine iX 3 (j + 1) hj1n ?_
      refine lM (RC (rx qs (j + 1))) (RX_room HJ1.out) (RX_at HJ1.out) ?_
      iterate 2 refine pU ?_
      refine pV (.int .i64 (j : Int)) (by intro w; go_simp <;> (first | (rw [hw1]; done) | exact hw1 | (simp [hw1]; done))) ?_
      refine iX 3 j hj0n ?_
      refine lM (RC (rx qs j)) (RX_room HJ0.out) (RX_at HJ0.out) ?_
      refine Seq.callF (f := 29) (vs := #[.agg (RC (rx qs (j + 1))), .agg (RC (rx qs j))]) rfl rfl rfl rfl rfl (by kernel_rfl) (cmp_q (k := k) HT.out (HZ.out.at_ HJ1.out) (HZ.out.at_ HJ0.out) HV.out (by have := HK.out; omega)) (nZ ?_)
      iterate 2 refine pU ?_
      refine dnS fun wz HS2=>?_
      clear HS
      go_upto_region 6 with fail
      refine wS [18, 26] (Reg.fin.put Reg.fin_no _ _) (StR.move (StR.no HS2)) ?_
      iterate 4 refine pU ?_
      refine pV (.int .i64 (j : Int)) (by intro w; go_simp <;> (first | (rw [hw1]; done) | exact hw1 | (simp [hw1]; done))) ?_
      iterate 2 refine pU ?_
      refine pV (.int .i64 (j : Int)) (by intro w; go_simp <;> (first | (rw [hw1]; done) | exact hw1 | (simp [hw1]; done))) ?_
      refine iX 3 j hj0n ?_
      refine lG (RC (rx qs j)) (RX_room HJ0.out) (RX_at HJ0.out) ?_
      iterate 2 refine pU ?_
      refine iX 3 (j + 1) hj1n ?_
      refine lG (RC (rx qs (j + 1))) (RX_room HJ1.out) (RX_at HJ1.out) ?_
      refine iX 3 (j + 1) hj1n ?_
      refine Seq.storeAt (v := .agg (RC (rx qs j))) rfl rfl rfl rfl rfl (by repeat first|exact rS|refine rN ‹_› ?_) (RX_room HJ1.out) (by show _ = some 3; kernel_rfl) (RC_one _) (cs' := RX J (qs.set (j + 1) (rx qs j))) (RX_put HJ1.out) (nZ ?_)
      refine iX 3 j hj0n ?_
      refine Seq.storeAt (v := .agg (RC (rx qs (j + 1)))) rfl rfl rfl rfl rfl (by repeat first|exact rS|refine rN ‹_› ?_) (RX_room HJ2.out) (by show _ = some 3; kernel_rfl) (RC_one _) (cs' := RX J ((qs.set (j + 1) (rx qs j)).set j (rx qs (j + 1)))) (RX_put HJ2.out) (nZ ?_)
      refine Seq.done fun wz2 hws => ?_
      have HS3 := yh (hws.q1)
      clear hws HS2
      go_wp2_with fail
      go_roundg j
      case measure => rw [HGK2.out]; omega
      case rel => exact ⟨j, swn qs j, rfl, by go_num, by omega, yh ⟨by rw [swn_length]; exact HQ.out.1, (swn_perm HJ1.out).trans HQ.out.2.1, snn_step (by rw [HQ.out.1]; exact HLT.out) HQ.out.2.2 HLX.out⟩, HS3⟩
     ·have hvd : decide (v < 0) = false := decide_eq_false (fun h => hlx (hvi.1 h))
      clear hvi
      have HLX := yh hlx; clear hlx
      go_upto_region 4 with fail
      refine wS [] Reg.fin_no (StR.no HS.out) ?_
      iterate 7 refine pU ?_
      refine iX 3 (j + 1) hj1n ?_
      refine lM (RC (rx qs (j + 1))) (RX_room HJ1.out) (RX_at HJ1.out) ?_
      iterate 2 refine pU ?_
      refine pV (.int .i64 (j : Int)) (by intro w; go_simp <;> (first | (rw [hw1]; done) | exact hw1 | (simp [hw1]; done))) ?_
      refine iX 3 j hj0n ?_
      refine lM (RC (rx qs j)) (RX_room HJ0.out) (RX_at HJ0.out) ?_
      refine Seq.callF (f := 29) (vs := #[.agg (RC (rx qs (j + 1))), .agg (RC (rx qs j))]) rfl rfl rfl rfl rfl (by kernel_rfl) (cmp_q (k := k) HT.out (HZ.out.at_ HJ1.out) (HZ.out.at_ HJ0.out) HV.out (by have := HK.out; omega)) (nZ ?_)
      iterate 2 refine pU ?_
      refine dnH fun _ HS2=>?_
      clear HS
      go_wp2_with fail
      go_roundg (n - (i + 1))
      case measure => rw [HGK.out]; have := HLT.out; omega
      case rel => exact ⟨i + 1, qs, rfl, by go_num, by omega, by have := HLT.out; omega, yh ⟨HQ.out.1, HQ.out.2.1, snn_end HQ.out.2.2 (.inr ⟨j, rfl, HLX.out⟩)⟩, HS2⟩
  ·have HE : Hid (SrtN n qs) := yh (fun a b hab hb => HQ.out.2.2 a b hab (by omega))
   go_wp2_with fail
   go_end0
   exact ⟨rfl, qs, HQ.out.1, HQ.out.2.1, HE.out, HS.out⟩
theorem len64_s (x : Int) (w : World) (h0 : 0 ≤ x) (h1 : x ≤ 200) :
  Calls Tryz.prog 156 #[.int .u64 x] w fun e w' => ∃ v : Int, e = .returned (.int .i64 v) ∧ w' = w := by
 go_enter Tryz.func156, Tryz.ntmps156
 go_wp2
 all_goals (go_ret; exact ⟨_, rfl, rfl⟩)
theorem len_s (x : Int) (w : World) (h0 : 0 ≤ x) (h1 : x ≤ 200) :
  Calls Tryz.prog 119 #[.int .u64 x] w fun e w' => ∃ v : Int, e = .returned (.int .i64 v) ∧ w' = w := by
 go_enter Tryz.func119, Tryz.ntmps119
 go_wp2_with (go_at_call 156; refine (len64_s x _ h0 h1).mono ?_; rintro e w' ⟨v, rfl, rfl⟩)
 go_ret
 exact ⟨_, rfl, rfl⟩
def SortNPost (W : World) (l : List Own) (g n : Nat) (J : List Value) (ps : Nums) (e : Ending) (w' : World) : Prop :=
 e = .returned (.tuple #[]) ∧ ∃ qs, qs.length = n ∧ qs.Perm ps ∧ SrtN n qs ∧ St W ((g, 27, RX J qs) :: l) w'
theorem pdqN_S {k : Nat} {W : World} {l : List Own} {g n cap : Nat} {J : List Value} {ps : Nums} (hT : Tab W) (hz : Qz k ps) (hn : ps.length = n) (hn2 : n ≤ 12) (hk : k ≤ 1000000000) (v : Int) (w : World) (h : St W ((g, 27, RX J ps) :: l) w) :
  Calls Tryz.prog 118 #[.slice (some ⟨g, 0, none⟩) n cap, .int .i64 0, .int .i64 (n : Int), .int .i64 v, .func (.func 29) #[] #[]] w (SortNPost W l g n J ps) := by
 have HI := yh (fun (w : World) (h : St W ((g, 27, RX J ps) :: l) w) => isortN_S (cap := cap) hT hz hn (by omega) hk w h)
 have HST := yh h
 clear hT hz hn hk h
 have hw1 : IntKind.i64.wrap ((n : Int) - 0) = (n : Int) := by rw [Int.sub_zero]; exact IntWalk.i64_in _ (by omega)
 have hw2 : IntKind.i64.wrap (n : Int) = (n : Int) := IntWalk.i64_in _ (by omega)
 have hle : (n : Int) ≤ 12 := by omega
 go_enter Tryz.func118, Tryz.ntmps118
 go_wp2_with fail
 go_loopg [1, 2] 0 (fun kx s1 s2 wr => kx = 0 ∧ s1 = .int .i64 0 ∧ s2 = .int .i64 (n : Int) ∧ Hid (St W ((g, 27, RX J ps) :: l) wr))
 case atStart => exact ⟨rfl, rfl, rfl, HST⟩
 case round =>
  clear HST
  obtain ⟨-, rfl, rfl, HS⟩ := hrel
  go_wp2_with (first | (go_at_call 147; refine (HI.out _ HS.out).mono ?_; rintro e w2 ⟨rfl, hp⟩) | fail)
  go_end0
  exact ⟨rfl, hp⟩
theorem sortFN_S {k : Nat} {W : World} {l : List Own} {g n cap : Nat} {J : List Value} {ps : Nums} (hT : Tab W) (hz : Qz k ps) (hn : ps.length = n) (hn2 : n ≤ 12) (hk : k ≤ 1000000000) (w : World) (h : St W ((g, 27, RX J ps) :: l) w) :
  Calls Tryz.prog 72 #[.slice (some ⟨g, 0, none⟩) n cap, .func (.func 29) #[] #[]] w (SortNPost W l g n J ps) := by
 have HI := yh (fun (v : Int) (w : World) (h : St W ((g, 27, RX J ps) :: l) w) => pdqN_S (cap := cap) hT hz hn hn2 hk v w h)
 have HST := yh h
 clear hT hz hn hk h
 have hwu : IntKind.u64.wrap (n : Int) = (n : Int) := IntWalk.u64_in _ (by omega)
 go_enter Tryz.func72, Tryz.ntmps72
 go_wp2_with (first | (go_at_call 119; refine (len_s _ _ (by omega) (by omega)).mono ?_; rintro e w2 ⟨v, rfl, rfl⟩) | (go_at_call 118; refine (HI.out _ _ HST.out).mono ?_; rintro e w2 ⟨rfl, hp⟩) | fail)
 go_end0
 exact ⟨rfl, hp⟩
end Go.Proofs.YtmchjmflkaiakaaGreatDoor
