/- Joined texts: HuC HuM. -/
import Derived.Test.YtmchjmflkaiakaaGreatDoorHuB
import Derived.Deep.LoopGhost
import Derived.OwnWalk
import Derived.Test.YtmchjmflkaiakaaGreatDoorPo3
set_option maxHeartbeats 4000000
set_option maxRecDepth 20000
namespace Go.Proofs.YtmchjmflkaiakaaGreatDoor
open Go.RowKit
set_option linter.unusedVariables false
set_option linter.unusedSimpArgs false
def pt (ps : Pts) (i : Nat) : P2 := (px ps i, py ps i)
theorem pt_get {ps : Pts} {i : Nat} (h : i < ps.length) : ps[i] = pt ps i := getD_pt h
def swp (qs : Pts) (j : Nat) : Pts := (qs.set (j + 1) (pt qs j)).set j (pt qs (j + 1))
theorem swp_length (qs : Pts) (j : Nat) : (swp qs j).length = qs.length := by simp [swp]
theorem swp_pt {qs : Pts} {j : Nat} (h : j + 1 < qs.length) (k : Nat) : pt (swp qs j) k = if k = j then pt qs (j + 1) else if k = j + 1 then pt qs j else pt qs k := by
 unfold swp
 have h1 : j < (qs.set (j + 1) (pt qs j)).length := by rw [set_length]; omega
 show (px _ k, py _ k) = _
 rw [px_set h1, py_set h1, px_set h, py_set h]
 by_cases e1 : j = k
 ·subst e1; simp [pt]
 ·by_cases e2 : j + 1 = k
  ·subst e2; simp [pt]
  ·rw [if_neg e1, if_neg e1, if_neg e2, if_neg e2, if_neg (fun e => e1 e.symm), if_neg (fun e => e2 e.symm)]; rfl
theorem swp_perm {qs : Pts} {j : Nat} (h : j + 1 < qs.length) : (swp qs j).Perm qs := by
 have e : qs = qs.take j ++ (pt qs j :: pt qs (j + 1) :: qs.drop (j + 2)) := by
  conv => lhs; rw [← List.take_append_drop j qs]
  rw [List.drop_eq_getElem_cons (show j < qs.length by omega), List.drop_eq_getElem_cons h, pt_get, pt_get]
 have hl : (qs.take j).length = j := by simp; omega
 generalize hp : pt qs j = p at e
 generalize hq : pt qs (j + 1) = q at e
 unfold swp
 rw [hp, hq]
 generalize qs.take j = A at *
 generalize qs.drop (j + 2) = B at *
 subst e
 rw [List.set_append, if_neg (by omega), show j + 1 - A.length = 1 by omega, List.set_append, if_neg (by omega), show j - A.length = 0 by omega]
 exact List.Perm.append_left _ (List.Perm.swap _ _ _)
theorem Pz.perm {k : Nat} {ps qs : Pts} (h : Pz k ps) (hp : qs.Perm ps) : Pz k qs := fun p hq => h p (hp.mem_iff.1 hq)
def SrtP (k : Nat) (qs : Pts) : Prop := ∀ a b, a < b → b < k → ¬ lxl (pt qs b) (pt qs a)
def SnkP (i j : Nat) (qs : Pts) : Prop := j ≤ i ∧ ∀ a b, a < b → b ≤ i → b ≠ j → ¬ lxl (pt qs b) (pt qs a)
theorem snk_start {i : Nat} {qs : Pts} (h : SrtP i qs) : SnkP i i qs := ⟨Nat.le_refl _, fun a b hab hb hn => h a b hab (by omega)⟩
theorem snk_step {i j : Nat} {qs : Pts} (hl : i < qs.length) (h : SnkP i (j + 1) qs) (hlt : lxl (pt qs (j + 1)) (pt qs j)) : SnkP i j (swp qs j) := by
 obtain ⟨h0, h1⟩ := h
 refine ⟨by omega, fun a b hab hb hn => ?_⟩
 rw [swp_pt (by omega), swp_pt (by omega), if_neg hn]
 by_cases e1 : b = j + 1
 ·subst e1
  rw [if_pos rfl]
  by_cases e2 : a = j
  ·subst e2; rw [if_pos rfl]; exact lxl_asymm hlt
  ·rw [if_neg e2, if_neg (by omega)]
   exact h1 a j (by omega) (by omega) (by omega)
 ·rw [if_neg e1]
  by_cases e2 : a = j
  ·subst e2; rw [if_pos rfl]; exact h1 (a + 1) b (by omega) hb e1
  ·by_cases e3 : a = j + 1
   ·subst e3; rw [if_neg e2, if_pos rfl]; exact h1 j b (by omega) hb e1
   ·rw [if_neg e2, if_neg e3]; exact h1 a b hab hb e1
theorem nlt_trans {a b c : P2} (h1 : ¬ lxl b a) (h2 : ¬ lxl c b) : ¬ lxl c a := by
 intro h3
 rcases lxl_total a b with h | h | h
 ·exact h2 (lxl_trans h3 h)
 ·subst h; exact h2 h3
 ·exact h1 h
theorem snk_end {i j : Nat} {qs : Pts} (h : SnkP i j qs) (he : j = 0 ∨ ∃ k, j = k + 1 ∧ ¬ lxl (pt qs (k + 1)) (pt qs k)) : SrtP (i + 1) qs := by
 obtain ⟨h0, h1⟩ := h
 intro a b hab hb
 by_cases e : b = j
 ·subst e
  rcases he with he | ⟨k, rfl, hk⟩
  ·omega
  ·by_cases e2 : a = k
   ·subst e2; exact hk
   ·exact nlt_trans (h1 a k (by omega) (by omega) (by omega)) hk
 ·exact h1 a b hab (by omega) e
theorem isort_S {k : Nat} {W : World} {l : List Own} {g n cap : Nat} {J : List Value} {ps : Pts} (hT : Tab W) (hz : Pz k ps) (hn : ps.length = n) (hn2 : n ≤ 1000) (hk : k ≤ 1000000000) (w : World) (h : St W ((g, 29, PX J ps) :: l) w) :
  Calls Tryz.prog 169 #[.slice (some ⟨g, 0, none⟩) n cap, .int .i64 0, .int .i64 (n : Int), .func (.func 108) #[] #[]] w fun e w' => e = .returned (.tuple #[]) ∧ ∃ qs, qs.length = n ∧ qs.Perm ps ∧ SrtP n qs ∧ St W ((g, 29, PX J qs) :: l) w' := by
 have HT := yh hT; clear hT
 have HZ0 := yh hz; clear hz
 have HN := yh hn; clear hn
 have HK := yh hk; clear hk
 have HST := yh h; clear h
 go_enter Tryz.func169, Tryz.ntmps169
 go_wp2_with fail
 go_loopg [8] (n - 1) (fun kx s8 wr => ∃ (i : Nat) (qs : Pts), kx = n - i ∧ s8 = .int .i64 (i : Int) ∧ 1 ≤ i ∧ (i ≤ n ∨ i = 1) ∧ Hid (qs.length = n ∧ qs.Perm ps ∧ SrtP i qs) ∧ Hid (St W ((g, 29, PX J qs) :: l) wr))
 case atStart => exact ⟨1, ps, by omega, rfl, Nat.le_refl _, .inr rfl, yh ⟨HN.out, List.Perm.refl _, fun a b hab hb => by omega⟩, HST⟩
 case round =>
  clear HST
  obtain ⟨i, qs, hgk, rfl, hi1, hi2, HQ, HS⟩ := hrel
  have HGK := yh hgk; clear hgk
  by_cases hlt : i < n
  ·have HLT := yh hlt
   have hwi : IntKind.i64.wrap ((i : Int) + 1) = (i : Int) + 1 := IntWalk.i64_in _ (by omega)
   go_wp2_with fail
   have HQ1 : Hid (qs.length = n ∧ qs.Perm ps ∧ SnkP i i qs) := yh ⟨HQ.out.1, HQ.out.2.1, snk_start HQ.out.2.2⟩
   clear HQ
   go_loopg [9] i (fun kx s9 wi => ∃ (j : Nat) (qs : Pts), kx = j ∧ s9 = .int .i64 (j : Int) ∧ j ≤ i ∧ Hid (qs.length = n ∧ qs.Perm ps ∧ SnkP i j qs) ∧ Hid (St W ((g, 29, PX J qs) :: l) wi))
   case atStart => exact ⟨i, qs, rfl, rfl, Nat.le_refl _, HQ1, HS⟩
   case round =>
    clear HQ1 HS
    obtain ⟨j, qs, hgk2, rfl, hji, HQ, HS⟩ := hrel
    have HGK2 := yh hgk2; clear hgk2
    rcases j with _ | j
    ·go_upto_region 4 with fail
     refine wS [] Reg.fin_no (StR.no HS.out) ?_
     iterate 4 refine pU ?_
     iterate 12 refine nW ?_
     refine pU ?_
     refine dnH fun wz HS2=>?_
     clear HS
     go_wp2_with fail
     go_roundg (n - (i + 1))
     case measure => rw [HGK.out]; have := HLT.out; omega
     case rel => exact ⟨i + 1, qs, rfl, by go_num, by omega, by have := HLT.out; omega, yh ⟨HQ.out.1, HQ.out.2.1, snk_end HQ.out.2.2 (.inl rfl)⟩, HS2⟩
    ·have hjn : j + 1 < n := by have := HLT.out; omega
     have HJ1 := yh (show j + 1 < qs.length by rw [HQ.out.1]; exact hjn)
     have HJ0 := yh (show j < qs.length by rw [HQ.out.1]; omega)
     have HJ2 := yh (show j < (qs.set (j + 1) (px qs j, py qs j)).length by rw [set_length, HQ.out.1]; omega)
     have hj1n : j + 1 < n := hjn
     have hj0n : j < n := by omega
     have HZ := yh (HZ0.out.perm HQ.out.2.1)
     obtain ⟨v, hv⟩ : ∃ v, ordQ (px qs (j + 1)) (py qs (j + 1)) (px qs j) (py qs j) = v := ⟨_, rfl⟩
     have HV := yh hv
     have HO := yh (ordQ_lt (pt qs (j + 1)) (pt qs j))
     have hvi : v < 0 ↔ lxl (pt qs (j + 1)) (pt qs j) := by rw [← hv]; exact HO.out
     clear hv
     have hw1 : IntKind.i64.wrap ((j : Int) + 1 - 1) = (j : Int) := by rw [show (j : Int) + 1 - 1 = (j : Int) by omega]; exact IntWalk.i64_in _ (by omega)
     have hw2 : IntKind.i64.wrap (j : Int) = (j : Int) := IntWalk.i64_in _ (by omega)
     have hpos : (0 : Int) < (j : Int) + 1 := by omega
     by_cases hlx : lxl (pt qs (j + 1)) (pt qs j)
     ·have hvd : decide (v < 0) = true := decide_eq_true (hvi.2 hlx)
      clear hvi
      have HLX := yh hlx; clear hlx
      go_upto_region 4 with fail
      refine wS [] Reg.fin_no (StR.no HS.out) ?_
      iterate 7 refine pU ?_
      refine iX 6 (j + 1) hj1n ?_
      refine lM (VC (px qs (j + 1)) (py qs (j + 1))) (PX_room HJ1.out) (PX_at HJ1.out) ?_
      iterate 2 refine pU ?_
      refine pV (.int .i64 (j : Int)) (by intro w; go_simp <;> (first | (rw [hw1]; done) | exact hw1 | (simp [hw1]; done))) ?_
      refine iX 6 j hj0n ?_
      refine lM (VC (px qs j) (py qs j)) (PX_room HJ0.out) (PX_at HJ0.out) ?_
      refine Seq.callF (f := 108) (vs := #[.agg (VC (px qs (j + 1)) (py qs (j + 1))), .agg (VC (px qs j) (py qs j))]) rfl rfl rfl rfl rfl (by kernel_rfl) (order_q (k := k) HT.out (HZ.out.x HJ1.out) (HZ.out.y HJ1.out) (HZ.out.x HJ0.out) (HZ.out.y HJ0.out) HV.out (by have := HK.out; omega)) (nZ ?_)
      iterate 2 refine pU ?_
      refine dnS fun wz HS2=>?_
      clear HS
      go_upto_region 6 with fail
      refine wS [18, 26] (Reg.fin.put Reg.fin_no _ _) (StR.move (StR.no HS2)) ?_
      iterate 4 refine pU ?_
      refine pV (.int .i64 (j : Int)) (by intro w; go_simp <;> (first | (rw [hw1]; done) | exact hw1 | (simp [hw1]; done))) ?_
      iterate 2 refine pU ?_
      refine pV (.int .i64 (j : Int)) (by intro w; go_simp <;> (first | (rw [hw1]; done) | exact hw1 | (simp [hw1]; done))) ?_
      refine iX 6 j hj0n ?_
      refine lG (VC (px qs j) (py qs j)) (PX_room HJ0.out) (PX_at HJ0.out) ?_
      iterate 2 refine pU ?_
      refine iX 6 (j + 1) hj1n ?_
      refine lG (VC (px qs (j + 1)) (py qs (j + 1))) (PX_room HJ1.out) (PX_at HJ1.out) ?_
      refine iX 6 (j + 1) hj1n ?_
      refine Seq.storeAt (v := .agg (VC (px qs j) (py qs j))) rfl rfl rfl rfl rfl (by repeat first|exact rS|refine rN ‹_› ?_) (PX_room HJ1.out) (by show _ = some 6; kernel_rfl) (VC_one _ _) (cs' := PX J (qs.set (j + 1) ((px qs j), (py qs j)))) (PX_put HJ1.out) (nZ ?_)
      refine iX 6 j hj0n ?_
      refine Seq.storeAt (v := .agg (VC (px qs (j + 1)) (py qs (j + 1)))) rfl rfl rfl rfl rfl (by repeat first|exact rS|refine rN ‹_› ?_) (PX_room HJ2.out) (by show _ = some 6; kernel_rfl) (VC_one _ _) (cs' := PX J ((qs.set (j + 1) (px qs j, py qs j)).set j ((px qs (j + 1)), (py qs (j + 1))))) (PX_put HJ2.out) (nZ ?_)
      refine Seq.done fun wz2 hws => ?_
      have HS3 := yh (hws.q1)
      clear hws HS2
      go_wp2_with fail
      go_roundg j
      case measure => rw [HGK2.out]; omega
      case rel => exact ⟨j, swp qs j, rfl, by go_num, by omega, yh ⟨by rw [swp_length]; exact HQ.out.1, (swp_perm HJ1.out).trans HQ.out.2.1, snk_step (by rw [HQ.out.1]; exact HLT.out) HQ.out.2.2 HLX.out⟩, HS3⟩
     ·have hvd : decide (v < 0) = false := decide_eq_false (fun h => hlx (hvi.1 h))
      clear hvi
      have HLX := yh hlx; clear hlx
      go_upto_region 4 with fail
      refine wS [] Reg.fin_no (StR.no HS.out) ?_
      iterate 7 refine pU ?_
      refine iX 6 (j + 1) hj1n ?_
      refine lM (VC (px qs (j + 1)) (py qs (j + 1))) (PX_room HJ1.out) (PX_at HJ1.out) ?_
      iterate 2 refine pU ?_
      refine pV (.int .i64 (j : Int)) (by intro w; go_simp <;> (first | (rw [hw1]; done) | exact hw1 | (simp [hw1]; done))) ?_
      refine iX 6 j hj0n ?_
      refine lM (VC (px qs j) (py qs j)) (PX_room HJ0.out) (PX_at HJ0.out) ?_
      refine Seq.callF (f := 108) (vs := #[.agg (VC (px qs (j + 1)) (py qs (j + 1))), .agg (VC (px qs j) (py qs j))]) rfl rfl rfl rfl rfl (by kernel_rfl) (order_q (k := k) HT.out (HZ.out.x HJ1.out) (HZ.out.y HJ1.out) (HZ.out.x HJ0.out) (HZ.out.y HJ0.out) HV.out (by have := HK.out; omega)) (nZ ?_)
      iterate 2 refine pU ?_
      refine dnH fun _ HS2=>?_
      clear HS
      go_wp2_with fail
      go_roundg (n - (i + 1))
      case measure => rw [HGK.out]; have := HLT.out; omega
      case rel => exact ⟨i + 1, qs, rfl, by go_num, by omega, by have := HLT.out; omega, yh ⟨HQ.out.1, HQ.out.2.1, snk_end HQ.out.2.2 (.inr ⟨j, rfl, HLX.out⟩)⟩, HS2⟩
  ·have HE : Hid (SrtP n qs) := yh (fun a b hab hb => HQ.out.2.2 a b hab (by omega))
   go_wp2_with fail
   go_end0
   exact ⟨rfl, qs, HQ.out.1, HQ.out.2.1, HE.out, HS.out⟩
theorem pt_some {ps : Pts} {i : Nat} {a : P2} (h : ps[i]? = some a) : pt ps i = a := by
 obtain ⟨h1, h2⟩ := List.getElem?_eq_some_iff.1 h
 rw [← h2, pt_get h1]
theorem pt_mem {ps : Pts} {i : Nat} (h : i < ps.length) : pt ps i ∈ ps := by rw [← pt_get h]; exact List.getElem_mem _
theorem nodup_pt {ps : Pts} (hn : ps.Nodup) {i j : Nat} (hi : i < ps.length) (hj : j < ps.length) (hne : i ≠ j) : pt ps i ≠ pt ps j := by
 rw [← pt_get hi, ← pt_get hj]
 intro e
 have hp := List.pairwise_iff_getElem.1 hn
 rcases Nat.lt_or_ge i j with h | h
 ·exact hp i j hi hj h e
 ·exact hp j i hj hi (by omega) e.symm
theorem mod_ne {i k n : Nat} (hi : i < n) (h2 : 2 ≤ k) (hk : k < n) : (i + k) % n ≠ i ∧ (i + k) % n ≠ (i + 1) % n := by
 have e1 : (i + k) % n = if i + k < n then i + k else i + k - n := by
  split
  ·exact Nat.mod_eq_of_lt (by assumption)
  ·rw [Nat.mod_eq_sub_mod (by omega), Nat.mod_eq_of_lt (by omega)]
 have e2 : (i + 1) % n = if i + 1 < n then i + 1 else i + 1 - n := by
  split
  ·exact Nat.mod_eq_of_lt (by assumption)
  ·rw [Nat.mod_eq_sub_mod (by omega), Nat.mod_eq_of_lt (by omega)]
 rw [e1, e2]
 split <;> split <;> omega
theorem hull_sub {l : List P2} (h : l.Pairwise lxl) (h2 : 2 ≤ l.length) : ∀ p ∈ hullL l, p ∈ l := by
 obtain ⟨hl, hu⟩ := hull_chains h h2
 intro p hp
 rcases (pgon_mem hl hu (two_of h h2) p).1 hp with h | h
 ·exact hl.sub p h
 ·exact Upp.sub hu p h
theorem hull_nodup {l : List P2} (h : l.Pairwise lxl) (h2 : 2 ≤ l.length) : (hullL l).Nodup := by
 obtain ⟨hl, hu⟩ := hull_chains h h2
 exact pgon_nodup hl hu
theorem hull_cvx {l : List P2} (h : l.Pairwise lxl) (h2 : 2 ≤ l.length) : Cvx (hullL l) := by
 obtain ⟨hl, hu⟩ := hull_chains h h2
 have ht := two_of h h2
 have hnd := hull_nodup h h2
 intro i hi k hk2 hk
 obtain ⟨a, b, ga, gb, -, hs⟩ := pgon_edge hl hu ht hi
 have hv : (i + k) % (hullL l).length < (hullL l).length := Nat.mod_lt _ (by omega)
 have hj : (i + 1) % (hullL l).length < (hullL l).length := Nat.mod_lt _ (by omega)
 have hm := mod_ne hi hk2 hk
 have ea : pt (hullL l) i = a := pt_some ga
 have eb : pt (hullL l) ((i + 1) % (hullL l).length) = b := pt_some gb
 have := hs (pt (hullL l) ((i + k) % (hullL l).length)) ((pgon_mem hl hu ht _).1 (pt_mem hv)) (by rw [← ea]; exact nodup_pt hnd hv hi hm.1) (by rw [← eb]; exact nodup_pt hnd hv hj hm.2)
 rw [← ea, ← eb] at this
 exact this
theorem hull_has {l : List P2} (h : l.Pairwise lxl) (h2 : 2 ≤ l.length) {p : P2} (hp : p ∈ l) : hasB (hullL l) p.1 p.2 = true := by
 obtain ⟨hl, hu⟩ := hull_chains h h2
 have ht := two_of h h2
 refine hasB_at.2 fun i hi => ?_
 obtain ⟨a, b, ga, gb, he, -⟩ := pgon_edge hl hu ht hi
 have ea : pt (hullL l) i = a := pt_some ga
 have eb : pt (hullL l) ((i + 1) % (hullL l).length) = b := pt_some gb
 have := he p hp
 rw [← ea, ← eb] at this
 exact decide_eq_true this
theorem nodup_len {l : List P2} : ∀ {m : List P2}, l.Nodup → (∀ x ∈ l, x ∈ m) → l.length ≤ m.length := by
 induction l with
 | nil => intro m _ _; exact Nat.zero_le _
 | cons a l ih =>
   intro m hn hs
   have h1 := List.nodup_cons.1 hn
   have ha : a ∈ m := hs a List.mem_cons_self
   have := ih (m := m.erase a) h1.2 (fun x hx => (List.mem_erase_of_ne (by rintro rfl; exact h1.1 hx)).2 (hs x (List.mem_cons_of_mem _ hx)))
   rw [List.length_erase_of_mem ha] at this
   have hp : 0 < m.length := List.length_pos_of_mem ha
   rw [List.length_cons]; omega
theorem lxl_nodup {l : List P2} (h : l.Pairwise lxl) : l.Nodup := h.imp fun {a b} hab e => by subst e; exact lxl_irrefl a hab
theorem hull_len {l : List P2} (h : l.Pairwise lxl) (h2 : 2 ≤ l.length) : (hullL l).length ≤ l.length := nodup_len (hull_nodup h h2) (hull_sub h h2)
end Go.Proofs.YtmchjmflkaiakaaGreatDoor
