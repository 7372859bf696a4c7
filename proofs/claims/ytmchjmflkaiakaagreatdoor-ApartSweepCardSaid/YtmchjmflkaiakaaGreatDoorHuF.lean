/- poly.chain (printed by hullf.py). -/
import Derived.Test.YtmchjmflkaiakaaGreatDoorHuD
import Derived.Test.YtmchjmflkaiakaaGreatDoorGrow
import Derived.Deep.LoopGhost
import Derived.OwnWalk
set_option maxHeartbeats 8000000
set_option maxRecDepth 20000
namespace Go.Proofs.YtmchjmflkaiakaaGreatDoor
open Go.RowKit
set_option linter.unusedVariables false
set_option linter.unusedSimpArgs false
theorem infoV : (Tryz.prog.info? 29).map (fun i => (i.zero, i.size, i.bytes)) = some (some (.agg #[.bool false, .string ⟨#[]⟩, .string ⟨#[]⟩, .bool false, .string ⟨#[]⟩, .string ⟨#[]⟩]), 6, 80) := by kernel_rfl
def CH (w0 : World) (v : Value) (os : Pts) (gp cp : Nat) (J : List Value) (ps : Pts) (w : World) : Prop :=
 Rws w0 [⟨v, 29, 6, os.length, fl os⟩, ⟨.slice (some ⟨gp, 0, none⟩) cp cp, 29, 6, cp, (PX J ps).toList⟩] w
section
variable {w0 w w' : World} {v : Value} {os : Pts} {gp cp : Nat} {J : List Value} {ps : Pts}
theorem CH.kept (h : CH w0 v os gp cp J ps w) (hb : Below w.heap.size w w') : CH w0 v os gp cp J ps w' := Rws.next h hb
theorem CH.pts (h : CH w0 v os gp cp J ps w) : w0.heap.size ≤ gp ∧ Blk w gp 29 (PX J ps) ∧ (PX J ps).size = cp * 6 := by
 obtain ⟨h1, h2⟩ := h.own _ (List.mem_cons_of_mem _ List.mem_cons_self)
 rcases h2 with ⟨h2, _⟩ | ⟨g', cap', cur, hv, hg, hh, hnc, hm, hs, hc⟩
 ·cases h2
 ·dsimp only at h1 hv hg hh hnc hm hs hc
  cases hv
  have : cur = PX J ps := by
   apply Array.toList_inj.1
   rw [← hc, List.take_of_length_le (by rw [Array.length_toList, hs]; exact Nat.le_refl _)]
  subst this
  exact ⟨hg, hh, hs⟩
theorem CH.out (h : CH w0 v os gp cp J ps w) : (v = .slice none 0 0 ∧ os = []) ∨ ∃ go co Jo, v = .slice (some ⟨go, 0, none⟩) os.length co ∧ w0.heap.size ≤ go ∧ os.length ≤ co ∧ co ≤ maxLen ∧ Blk w go 29 (PX Jo os) := by
 obtain ⟨h1, h2⟩ := h.own _ List.mem_cons_self
 rcases h2 with ⟨hv, hx⟩ | ⟨g', cap', cur, hv, hg, hh, hnc, hm, hs, hc⟩
 ·exact .inl ⟨hv, List.eq_nil_of_length_eq_zero hx⟩
 ·dsimp only at h1 hv hg hh hnc hm hs hc
  refine .inr ⟨g', cap', cur.toList.drop (os.length * 6), hv, hg, hnc, hm, ?_⟩
  have : cur = PX (cur.toList.drop (os.length * 6)) os := by
   apply Array.toList_inj.1
   rw [PX_list, ← hc, List.take_append_drop]
  rw [← this]
  exact hh
theorem CH.cut {go co : Nat} {p : P2} (h : CH w0 (.slice (some ⟨go, 0, none⟩) (os.length + 1) co) (os ++ [p]) gp cp J ps w) : CH w0 (.slice (some ⟨go, 0, none⟩) os.length co) os gp cp J ps w := by
 have h0 := h
 unfold CH at h
 refine ⟨h.below, fun r hr => ?_, ?_⟩
 ·rcases List.mem_cons.1 hr with rfl | hr
  ·obtain ⟨h1, h2⟩ := h.own _ List.mem_cons_self
   rcases h2 with ⟨hv, _⟩ | ⟨g', cap', cur, hv, hg, hh, hnc, hm, hs, hc⟩
   ·cases hv
   ·dsimp only at h1 hv hg hh hnc hm hs hc
    have hlen : (os ++ [p]).length = os.length + 1 := by simp
    rw [hlen] at hv
    cases hv
    refine ⟨by dsimp only; rw [fl_len]; omega, .inr ⟨go, co, cur, rfl, hg, hh, by rw [hlen] at hnc; dsimp only; omega, hm, hs, ?_⟩⟩
    have e : cur.toList.take (os.length * 6) = (cur.toList.take ((os ++ [p]).length * 6)).take (os.length * 6) := by
     rw [List.take_take, Nat.min_eq_left (by rw [List.length_append]; omega)]
    dsimp only
    rw [e, hc, fl_app, List.take_append_of_le_length (by rw [fl_len]; omega), List.take_of_length_le (by rw [fl_len]; omega)]
  ·exact h.own r (List.mem_cons_of_mem _ hr)
 ·refine List.pairwise_cons.2 ⟨fun q hq => ?_, (List.pairwise_cons.1 h.apart).2⟩
  exact (List.pairwise_cons.1 h.apart).1 q hq
end
theorem sgn_leH (x : Rat) : sgnQ x ≤ 0 ↔ x ≤ 0 := by unfold sgnQ cmpQ; grind
theorem chn_snoc (l : List P2) (p : P2) : chn (l ++ [p]) = p :: pops p (chn l) := by simp [chn]
theorem chn_take {ps : Pts} {i : Nat} (h : i < ps.length) : chn (ps.take (i + 1)) = pt ps i :: pops (pt ps i) (chn (ps.take i)) := by
 rw [List.take_add_one, List.getElem?_eq_getElem h, pt_get h]
 exact chn_snoc _ _
theorem pops_len (p : P2) : ∀ s : List P2, (pops p s).length ≤ s.length
 | [] => Nat.le_refl _
 | [_] => Nat.le_refl _
 | b :: a :: r => by
   unfold pops
   split
   ·exact Nat.le_trans (pops_len p (a :: r)) (by simp)
   ·exact Nat.le_refl _
theorem chn_len (l : List P2) : (chn l).length ≤ l.length := by
 have : ∀ (l s : List P2), (l.foldl (fun s p => p :: pops p s) s).length ≤ s.length + l.length := by
  intro l
  induction l with
  | nil => intro s; simp
  | cons p l ih =>
    intro s
    rw [List.foldl_cons]
    have := ih (p :: pops p s)
    have h2 := pops_len p s
    simp only [List.length_cons] at this ⊢
    omega
 simpa [chn] using this l []
theorem pops_in (p : P2) : ∀ s : List P2, ∀ q ∈ pops p s, q ∈ s
 | [], _, h => h
 | [_], _, h => h
 | b :: a :: r, q, h => by
   unfold pops at h
   split at h
   ·exact List.mem_cons_of_mem _ (pops_in p (a :: r) q h)
   ·exact h
theorem chn_in (l : List P2) : ∀ q ∈ chn l, q ∈ l := by
 have : ∀ (l s : List P2), ∀ q ∈ l.foldl (fun s p => p :: pops p s) s, q ∈ s ∨ q ∈ l := by
  intro l
  induction l with
  | nil => intro s q h; exact .inl h
  | cons p l ih =>
    intro s q h
    rw [List.foldl_cons] at h
    rcases ih _ q h with h1 | h1
    ·rcases List.mem_cons.1 h1 with rfl | h1
     ·exact .inr List.mem_cons_self
     ·exact .inl (pops_in p s q h1)
    ·exact .inr (List.mem_cons_of_mem _ h1)
 intro q h
 rcases this l [] q h with h1 | h1
 ·cases h1
 ·exact h1
theorem VC_open (x y : Rat) : ∃ (s1 s2 : Bool) (a1 d1 a2 d2 : ByteArray), VC x y = #[.bool s1, .string a1, .string d1, .bool s2, .string a2, .string d2] := ⟨_, _, _, _, _, _, rfl⟩
theorem Blk.c6 {w : World} {p : Nat} {t : TypeId} {v0 v1 v2 v3 v4 v5 : Value} (h : Blk w p t #[v0, v1, v2, v3, v4, v5]) : w.cell? ⟨p, 0, none⟩ = some v0 ∧ w.cell? ⟨p, 1, none⟩ = some v1 ∧ w.cell? ⟨p, 2, none⟩ = some v2 ∧ w.cell? ⟨p, 3, none⟩ = some v3 ∧ w.cell? ⟨p, 4, none⟩ = some v4 ∧ w.cell? ⟨p, 5, none⟩ = some v5 := by
 refine ⟨?_, ?_, ?_, ?_, ?_, ?_⟩ <;> (rw [h.cell]; rfl)
theorem oneV (s1 s2 : Bool) (a1 d1 a2 d2 : ByteArray) : ∀ u ∈ (#[.bool s1, .string a1, .string d1, .bool s2, .string a2, .string d2] : Array Value).toList, u.oneCell' = true := by
 intro u hu; simp at hu; rcases hu with rfl | rfl | rfl | rfl | rfl | rfl <;> rfl
theorem CH.form {w0 w : World} {v : Value} {os : Pts} {gp cp : Nat} {J : List Value} {ps : Pts} (h : CH w0 v os gp cp J ps w) {m : Nat} (hm : os.length = m) : ∃ A c, v = .slice A m c := by
 subst hm
 rcases h.out with ⟨rfl, rfl⟩ | ⟨go, co, Jo, rfl, -⟩
 ·exact ⟨none, 0, rfl⟩
 ·exact ⟨_, co, rfl⟩
theorem chain_R {k : Nat} {w0 w : World} {v : Value} {pre : Pts} {gp cp n c : Nat} {J : List Value} {ps : Pts} (hT : Tab w0) (hz : Pz k ps) (hzo : Pz k pre) (hn : ps.length = n) (hn0 : 0 < n) (hn2 : n ≤ 1000) (hpre : pre.length ≤ 1000) (hk : k ≤ 1000000000) (h : CH w0 v pre gp cp J ps w) :
  Calls Tryz.prog 111 #[v, .slice (some ⟨gp, 0, none⟩) n c] w fun e w' => ∃ v', e = .returned v' ∧ CH w0 v' (pre ++ (chn ps).tail.reverse) gp cp J ps w' ∧ Below w0.heap.size w0 w' := by
 have HTW := yh (fun w' (hb : Below w0.heap.size w0 w') => hT.next hb); clear hT
 have HZ := yh hz; clear hz
 have HZP := yh hzo; clear hzo
 have HN := yh hn
 have HK := yh hk; clear hk
 have HC := yh h
 obtain ⟨nf, hnf⟩ : ∃ nf, pre.length = nf := ⟨_, rfl⟩
 have HNF := yh hnf
 have hnf2 : nf ≤ 1000 := by rw [← hnf]; exact hpre
 obtain ⟨A, cc, rfl⟩ := h.form hnf
 clear hn hpre h hnf
 go_enter Tryz.func111, Tryz.ntmps111
 go_wp2_with fail
 go_loopg [0, 12] n (fun kx s0 s12 wr => ∃ (i : Nat) (A : Option Addr) (cc : Nat), kx = n - i ∧ s0 = .slice A (nf + (chn (ps.take i)).length) cc ∧ s12 = .int .i64 (i : Int) ∧ i ≤ n ∧ Hid (CH w0 (.slice A (nf + (chn (ps.take i)).length) cc) (pre ++ (chn (ps.take i)).reverse) gp cp J ps wr))
 case atStart => exact ⟨0, A, cc, by omega, rfl, rfl, Nat.zero_le _, by simpa [chn] using HC⟩
 case round =>
  clear HC
  obtain ⟨i, A, cc, hgk, rfl, rfl, hin1, HC⟩ := hrel
  have HGK := yh hgk; clear hgk
  by_cases hlt : i < n
  ·have hin : i < n := hlt
   have HI := yh (show i < ps.length by rw [HN.out]; exact hlt)
   have HBP := yh HC.out.pts.2.1
   have HS0 : St wr [] wr := St.start
   have HSN := yh (chn_take HI.out)
   have HLE : Hid ((chn (ps.take i)).length ≤ n) := yh (by have := chn_len (ps.take i); rw [List.length_take, HN.out] at this; omega)
   have HIN : Hid (∀ q ∈ chn (ps.take i), q ∈ ps) := yh (fun q hq => List.mem_of_mem_take (chn_in _ q hq))
   generalize hst : chn (ps.take i) = s0 at *
   have HST := yh hst; clear hst
   obtain ⟨sl0, hsl0⟩ : ∃ m, s0.length = m := ⟨_, rfl⟩
   have HSL0 := yh hsl0
   have hs0n : sl0 ≤ n := by rw [← hsl0]; exact HLE.out
   rw [hsl0] at HC ⊢
   clear hsl0
   go_upto_region 4 with fail
   refine rgT [] HS0 ?_
   refine iX 6 i hin ?_
   refine lF HBP.out (VC (px ps i) (py ps i)) (PX_room HI.out) (PX_at HI.out) ?_
   refine aL6 ?_
   intro p7 _ _ hp7
   refine nZ ?_
   refine sV (VC_one _ _) ?_
   refine Seq.done fun w4 hws => ?_
   have HS4 := hws.q1
   have HB7 := yh (HS4.blk _ List.mem_cons_self).2
   have HC4 := yh (HC.out.kept HS4.below)
   clear HS4 hws HC HBP HS0
   go_wp2_with fail
   go_loopg [0] sl0 (fun kx t0 wi => ∃ (s : List P2) (A : Option Addr) (cc : Nat), kx = s.length ∧ t0 = .slice A (nf + s.length) cc ∧ s.length ≤ sl0 ∧ Hid (CH w0 (.slice A (nf + s.length) cc) (pre ++ s.reverse) gp cp J ps wi) ∧ Hid (Blk wi p7 29 (VC (px ps i) (py ps i))) ∧ Hid (pops (pt ps i) s = pops (pt ps i) s0) ∧ Hid (∀ q ∈ s, q ∈ ps))
   case atStart => exact ⟨s0, A, cc, by rw [HSL0.out], by rw [HSL0.out], by rw [HSL0.out]; exact Nat.le_refl _, by rw [HSL0.out]; exact HC4, HB7, yh rfl, HIN⟩
   case round =>
    clear HC4 HB7 HIN
    obtain ⟨s, A, cc, hgk2, rfl, hsl, HC, HB7, HPO, HIN⟩ := hrel
    have HGK2 := yh hgk2; clear hgk2
    have HTI := yh (HTW.out _ HC.out.below)
    have HZO : Hid (Pz k (pre ++ s.reverse)) := yh (fun p hp => by
     rcases List.mem_append.1 hp with h | h
     ·exact HZP.out p h
     ·exact HZ.out p (HIN.out p (List.mem_reverse.1 h)))
    have HLN : Hid ((pre ++ s.reverse).length = nf + s.length) := yh (by rw [List.length_append, List.length_reverse, HNF.out])
    have hw1 : IntKind.i64.wrap ((nf : Int) + 1) = (nf : Int) + 1 := IntWalk.i64_in _ (by omega)
    have HS0 : St wr [] wr := St.start
    match s, HC, HPO, HIN, HZO, HLN, HGK2, hsl with
    | b :: a :: r, HC, HPO, HIN, HZO, HLN, HGK2, hsl =>
      obtain ⟨m2, hm2⟩ : ∃ m2, nf + r.length = m2 := ⟨_, rfl⟩
      have hrl : r.length + 2 ≤ n := by simp only [List.length_cons] at hsl; omega
      have hlen : nf + (b :: a :: r).length = m2 + 1 + 1 := by simp only [List.length_cons]; omega
      rw [hlen] at HC HLN ⊢
      have HL2 := HLN
      rcases HC.out.out with ⟨hv9, _⟩ | ⟨go, co, Jo, hv9, hgo, hlc, hco, hbo⟩
      ·exfalso; cases hv9
      ·rw [HL2.out] at hv9 hlc
       cases hv9
       have HBO := yh hbo
       have HLC := yh (And.intro hlc hco)
       have HP2 : Hid (pt (pre ++ (b :: a :: r).reverse) m2 = a ∧ pt (pre ++ (b :: a :: r).reverse) (m2 + 1) = b) := yh (by
        have e : pre ++ (b :: a :: r).reverse = (pre ++ r.reverse) ++ [a, b] := by simp
        have hl : (pre ++ r.reverse).length = m2 := by rw [List.length_append, List.length_reverse, HNF.out]; exact hm2
        rw [e]
        generalize pre ++ r.reverse = X at *
        subst hl
        constructor
        ·rw [← pt_get (by simp)]; simp
        ·rw [← pt_get (by simp)]; simp)
       have HDR : Hid (pre ++ (b :: a :: r).reverse = (pre ++ (a :: r).reverse) ++ [b]) := yh (by simp)
       generalize hos : pre ++ (b :: a :: r).reverse = os at *
       have HM2 := yh (show m2 < os.length by rw [HL2.out]; omega)
       have HM3 := yh (show m2 + 1 < os.length by rw [HL2.out]; omega)
       have hm2a : m2 < m2 + 1 + 1 := by omega
       have hm2b : m2 + 1 < m2 + 1 + 1 := by omega
       have hmle : m2 ≤ 3000 := by omega
       have hw2 : IntKind.i64.wrap (((m2 + 1 + 1 : Nat) : Int) - 2) = (m2 : Int) := by rw [show ((m2 + 1 + 1 : Nat) : Int) - 2 = (m2 : Int) by omega]; exact IntWalk.i64_in _ (by omega)
       have hw3 : IntKind.i64.wrap (((m2 + 1 + 1 : Nat) : Int) - 1) = ((m2 + 1 : Nat) : Int) := by rw [show ((m2 + 1 + 1 : Nat) : Int) - 1 = ((m2 + 1 : Nat) : Int) by omega]; exact IntWalk.i64_in _ (by omega)
       have hgt : (nf : Int) + 1 < ((m2 + 1 + 1 : Nat) : Int) := by omega
       obtain ⟨vl, hvl⟩ : ∃ z, sgnQ (lf (px os m2) (py os m2) (px os (m2 + 1)) (py os (m2 + 1)) (px ps i) (py ps i)) = z := ⟨_, rfl⟩
       have HV := yh hvl
       have HSG : Hid (vl ≤ 0 ↔ lft a b (pt ps i) ≤ 0) := yh (by
        rw [← hvl, sgn_leH, ← HP2.out.1, ← HP2.out.2]; exact Iff.rfl)
       clear hvl hbo hlc hco hm2 hlen
       by_cases hneg : vl ≤ 0
       ·have hnd : decide (vl ≤ 0) = true := decide_eq_true hneg
        have HPE : Hid (pops (pt ps i) (b :: a :: r) = pops (pt ps i) (a :: r)) := yh (by
         conv => lhs; unfold pops
         rw [if_pos (HSG.out.1 hneg)])
        go_upto_region 5 with fail
        refine rgW [] HS0 ?_
        iterate 3 refine pU ?_
        refine pV (.int .i64 ((nf : Int) + 1)) (by intro w; go_simp <;> (first | (rw [hw1]; done) | exact hw1 | omega | exact IntWalk.i64_in _ (by omega) | (go_num; done) | (simp [hw1]; done))) ?_
        refine pV (.bool true) (by intro w; go_simp <;> (first | (rw [hgt]; done) | exact hgt | omega | exact IntWalk.i64_in _ (by omega) | (go_num; done) | (simp [hgt]; done))) ?_
        iterate 4 refine pU ?_
        refine pV (.int .i64 (m2 : Int)) (by intro w; go_simp <;> (first | (rw [hw2]; done) | exact hw2 | omega | exact IntWalk.i64_in _ (by omega) | (go_num; done) | (simp [hw2]; done))) ?_
        refine iX 6 m2 hm2a ?_
        refine lF HBO.out (VC (px os m2) (py os m2)) (PX_room HM2.out) (PX_at HM2.out) ?_
        iterate 3 refine pU ?_
        refine pV (.int .i64 ((m2 + 1 : Nat) : Int)) (by intro w; go_simp <;> (first | (rw [hw3]; done) | exact hw3 | omega | exact IntWalk.i64_in _ (by omega) | (go_num; done) | (simp [hw3]; done))) ?_
        refine iX 6 (m2 + 1) hm2b ?_
        refine lF HBO.out (VC (px os (m2 + 1)) (py os (m2 + 1))) (PX_room HM3.out) (PX_at HM3.out) ?_
        refine Seq.loadAtF rfl rfl rfl rfl HB7.out (n := 6) (cs' := VC (px ps i) (py ps i)) (Nat.le_of_ble_eq_true rfl) (by kernel_rfl) rfl (nZ ?_)
        refine cX rfl rfl (left_q (k := k) HTI.out (HZO.out.x HM2.out) (HZO.out.y HM2.out) (HZO.out.x HM3.out) (HZO.out.y HM3.out) (HZ.out.x HI.out) (HZ.out.y HI.out) HV.out (by have := HK.out; omega)) ?_
        iterate 2 refine pU ?_
        refine Seq.done fun w5 hws => ?_
        have HC5 := yh (HC.out.kept hws.st.below)
        have HB75 := yh (HB7.out.belowB hws.st.below)
        have hl9 : (pre ++ (a :: r).reverse).length = m2 + 1 := by
         have := HL2.out
         rw [HDR.out, List.length_append] at this
         simpa using this
        have HC6 : Hid (CH w0 (.slice (some ⟨go, 0, none⟩) (m2 + 1) cc) (pre ++ (a :: r).reverse) gp cp J ps w5) := yh (by
         have h9 := HC5.out
         rw [HDR.out, ← hl9] at h9
         have := CH.cut h9
         rwa [hl9] at this)
        have e9 : Hid (nf + (a :: r).length = m2 + 1) := yh (by rw [← hl9, List.length_append, List.length_reverse, HNF.out])
        clear hws HC HB7 HTI HBO HC5 HS0 hl9
        have hcc2 : m2 + 1 + 1 ≤ cc := HLC.out.1
        have hcc : m2 + 1 ≤ cc := by omega
        go_wp2_with fail
        go_roundg (a :: r).length
        case measure => rw [HGK2.out]; simp
        case rel => exact ⟨a :: r, _, cc, rfl, by rw [e9.out], by simp only [List.length_cons] at hsl ⊢; omega, by rw [e9.out]; exact HC6, HB75, yh (by rw [← HPE.out]; exact HPO.out), yh (fun q hq => HIN.out q (List.mem_cons_of_mem _ hq))⟩
       ·have hnd : decide (vl ≤ 0) = false := decide_eq_false hneg
        have HPE : Hid (pops (pt ps i) (b :: a :: r) = b :: a :: r) := yh (by
         conv => lhs; unfold pops
         rw [if_neg (fun h => hneg (HSG.out.2 h))])
        go_upto_region 5 with fail
        refine rgW [] HS0 ?_
        iterate 3 refine pU ?_
        refine pV (.int .i64 ((nf : Int) + 1)) (by intro w; go_simp <;> (first | (rw [hw1]; done) | exact hw1 | omega | exact IntWalk.i64_in _ (by omega) | (go_num; done) | (simp [hw1]; done))) ?_
        refine pV (.bool true) (by intro w; go_simp <;> (first | (rw [hgt]; done) | exact hgt | omega | exact IntWalk.i64_in _ (by omega) | (go_num; done) | (simp [hgt]; done))) ?_
        iterate 4 refine pU ?_
        refine pV (.int .i64 (m2 : Int)) (by intro w; go_simp <;> (first | (rw [hw2]; done) | exact hw2 | omega | exact IntWalk.i64_in _ (by omega) | (go_num; done) | (simp [hw2]; done))) ?_
        refine iX 6 m2 hm2a ?_
        refine lF HBO.out (VC (px os m2) (py os m2)) (PX_room HM2.out) (PX_at HM2.out) ?_
        iterate 3 refine pU ?_
        refine pV (.int .i64 ((m2 + 1 : Nat) : Int)) (by intro w; go_simp <;> (first | (rw [hw3]; done) | exact hw3 | omega | exact IntWalk.i64_in _ (by omega) | (go_num; done) | (simp [hw3]; done))) ?_
        refine iX 6 (m2 + 1) hm2b ?_
        refine lF HBO.out (VC (px os (m2 + 1)) (py os (m2 + 1))) (PX_room HM3.out) (PX_at HM3.out) ?_
        refine Seq.loadAtF rfl rfl rfl rfl HB7.out (n := 6) (cs' := VC (px ps i) (py ps i)) (Nat.le_of_ble_eq_true rfl) (by kernel_rfl) rfl (nZ ?_)
        refine cX rfl rfl (left_q (k := k) HTI.out (HZO.out.x HM2.out) (HZO.out.y HM2.out) (HZO.out.x HM3.out) (HZO.out.y HM3.out) (HZ.out.x HI.out) (HZ.out.y HI.out) HV.out (by have := HK.out; omega)) ?_
        iterate 2 refine pU ?_
        refine Seq.done fun w5 hws => ?_
        have HC5 := yh (HC.out.kept hws.st.below)
        have HB75 := yh (HB7.out.belowB hws.st.below)
        clear hws HC HB7 HTI HBO HS0
        have HOS := yh hos
        clear hos
        obtain ⟨x1, x2, xa1, xd1, xa2, xd2, hvc⟩ := VC_open (px ps i) (py ps i)
        have HVC := yh hvc
        rw [hvc] at HB75
        clear hvc
        obtain ⟨k0, k1, k2, k3, k4, k5⟩ := HB75.out.c6
        have hnm : (m2 + 1 + 1) + 1 ≤ maxLen := by unfold maxLen; omega
        have hby : ((m2 + 1 + 1) + 1) * 80 ≤ 140737488355328 := by omega
        have HROW : Hid (Rws w0 (⟨.slice (some ⟨go, 0, none⟩) (m2 + 1 + 1) cc, 29, 6, (m2 + 1 + 1), fl os⟩ :: ⟨.slice (some ⟨gp, 0, none⟩) cp cp, 29, 6, cp, (PX J ps).toList⟩ :: []) w5) := yh (by have := HC5.out; unfold CH at this; rw [HL2.out] at this; exact this)
        go_wp2_with (
         at_builtin
         refine wpList_append_oneL rfl (.tmp 43) (.tmp 45) _ rfl Tryz.underlying24 infoV rfl rfl HROW.out rfl rfl rfl (oneV _ _ _ _ _ _) hnm hby ?_
         intro v' w7 hR7 hb7)
        have HR7 : Hid (CH w0 v' (os ++ [pt ps i]) gp cp J ps w7) := yh (by
         unfold CH
         have e : fl (os ++ [pt ps i]) = fl os ++ [.bool x1, .string xa1, .string xd1, .bool x2, .string xa2, .string xd2] := by
          rw [fl_app]
          congr 1
          have : fl [pt ps i] = (VC (px ps i) (py ps i)).toList := by simp [fl, pv, pt]
          rw [this, HVC.out]
         rw [e, List.length_append, HL2.out]
         exact hR7)
        clear hR7 hb7 k0 k1 k2 k3 k4 k5
        have HF : Hid (pre ++ (chn (ps.take (i + 1))).reverse = os ++ [pt ps i]) := yh (by rw [HSN.out, ← HPO.out, HPE.out, List.reverse_cons, ← List.append_assoc, HOS.out])
        have hfl : (os ++ [pt ps i]).length = nf + (chn (ps.take (i + 1))).length := by rw [← HF.out, List.length_append, List.length_reverse, HNF.out]
        obtain ⟨A7, c7, rfl⟩ := HR7.out.form hfl
        clear hfl
        go_roundg (n - (i + 1))
        case measure => rw [HGK.out]; omega
        case rel => exact ⟨i + 1, A7, c7, rfl, rfl, by go_num, hlt, by rw [HF.out]; exact HR7⟩
    | [b], HC, HPO, HIN, HZO, HLN, HGK2, hsl =>
      have HPE : Hid (pops (pt ps i) [b] = [b]) := yh rfl
      have hlen : nf + [b].length = nf + 1 := rfl
      rw [hlen] at HC HLN ⊢
      have HL2 := HLN
      have hgt : ¬ (nf : Int) + 1 < ((nf + 1 : Nat) : Int) := by omega
      have hgt' : ((nf + 1 : Nat) : Int) ≤ (nf : Int) + 1 := by omega
      have hgt2 : decide ((nf : Int) + 1 < ((nf + 1 : Nat) : Int)) = false := decide_eq_false hgt
      generalize hos : pre ++ [b].reverse = os at *
      go_upto_region 5 with fail
      refine rgW [] HS0 ?_
      iterate 3 refine pU ?_
      refine pV (.int .i64 ((nf : Int) + 1)) (by intro w; go_simp <;> (first | (rw [hw1]; done) | exact hw1 | omega | exact IntWalk.i64_in _ (by omega) | (go_num; done) | (simp [hw1]; done))) ?_
      refine pV (.bool false) (by intro w; go_simp <;> (first | (rw [hgt]; done) | exact hgt | omega | exact IntWalk.i64_in _ (by omega) | (go_num; done) | (simp [hgt]; done))) ?_
      refine pU ?_
      iterate 15 refine nW ?_
      refine pU ?_
      refine Seq.done fun w5 hws => ?_
      have HC5 := yh (HC.out.kept hws.st.below)
      have HB75 := yh (HB7.out.belowB hws.st.below)
      clear hws HC HB7 HTI HS0
      have HOS := yh hos
      clear hos hlen hgt hgt' hgt2
      obtain ⟨x1, x2, xa1, xd1, xa2, xd2, hvc⟩ := VC_open (px ps i) (py ps i)
      have HVC := yh hvc
      rw [hvc] at HB75
      clear hvc
      obtain ⟨k0, k1, k2, k3, k4, k5⟩ := HB75.out.c6
      have hnm : (nf + 1) + 1 ≤ maxLen := by unfold maxLen; omega
      have hby : ((nf + 1) + 1) * 80 ≤ 140737488355328 := by omega
      have HROW : Hid (Rws w0 (⟨.slice A (nf + 1) cc, 29, 6, (nf + 1), fl os⟩ :: ⟨.slice (some ⟨gp, 0, none⟩) cp cp, 29, 6, cp, (PX J ps).toList⟩ :: []) w5) := yh (by have := HC5.out; unfold CH at this; rw [HL2.out] at this; exact this)
      go_wp2_with (
       at_builtin
       refine wpList_append_oneL rfl (.tmp 43) (.tmp 45) _ rfl Tryz.underlying24 infoV rfl rfl HROW.out rfl rfl rfl (oneV _ _ _ _ _ _) hnm hby ?_
       intro v' w7 hR7 hb7)
      have HR7 : Hid (CH w0 v' (os ++ [pt ps i]) gp cp J ps w7) := yh (by
       unfold CH
       have e : fl (os ++ [pt ps i]) = fl os ++ [.bool x1, .string xa1, .string xd1, .bool x2, .string xa2, .string xd2] := by
        rw [fl_app]
        congr 1
        have : fl [pt ps i] = (VC (px ps i) (py ps i)).toList := by simp [fl, pv, pt]
        rw [this, HVC.out]
       rw [e, List.length_append, HL2.out]
       exact hR7)
      clear hR7 hb7 k0 k1 k2 k3 k4 k5
      have HF : Hid (pre ++ (chn (ps.take (i + 1))).reverse = os ++ [pt ps i]) := yh (by rw [HSN.out, ← HPO.out, HPE.out, List.reverse_cons, ← List.append_assoc, HOS.out])
      have hfl : (os ++ [pt ps i]).length = nf + (chn (ps.take (i + 1))).length := by rw [← HF.out, List.length_append, List.length_reverse, HNF.out]
      obtain ⟨A7, c7, rfl⟩ := HR7.out.form hfl
      clear hfl
      go_roundg (n - (i + 1))
      case measure => rw [HGK.out]; omega
      case rel => exact ⟨i + 1, A7, c7, rfl, rfl, by go_num, hlt, by rw [HF.out]; exact HR7⟩
    | [], HC, HPO, HIN, HZO, HLN, HGK2, hsl =>
      have HPE : Hid (pops (pt ps i) [] = []) := yh rfl
      have hlen : nf + ([] : List P2).length = nf := rfl
      rw [hlen] at HC HLN ⊢
      have HL2 := HLN
      have hgt : ¬ (nf : Int) + 1 < ((nf : Nat) : Int) := by omega
      have hgt' : ((nf : Nat) : Int) ≤ (nf : Int) + 1 := by omega
      have hgt2 : decide ((nf : Int) + 1 < ((nf : Nat) : Int)) = false := decide_eq_false hgt
      generalize hos : pre ++ ([] : List P2).reverse = os at *
      go_upto_region 5 with fail
      refine rgW [] HS0 ?_
      iterate 3 refine pU ?_
      refine pV (.int .i64 ((nf : Int) + 1)) (by intro w; go_simp <;> (first | (rw [hw1]; done) | exact hw1 | omega | exact IntWalk.i64_in _ (by omega) | (go_num; done) | (simp [hw1]; done))) ?_
      refine pV (.bool false) (by intro w; go_simp <;> (first | (rw [hgt]; done) | exact hgt | omega | exact IntWalk.i64_in _ (by omega) | (go_num; done) | (simp [hgt]; done))) ?_
      refine pU ?_
      iterate 15 refine nW ?_
      refine pU ?_
      refine Seq.done fun w5 hws => ?_
      have HC5 := yh (HC.out.kept hws.st.below)
      have HB75 := yh (HB7.out.belowB hws.st.below)
      clear hws HC HB7 HTI HS0
      have HOS := yh hos
      clear hos hlen hgt hgt' hgt2
      obtain ⟨x1, x2, xa1, xd1, xa2, xd2, hvc⟩ := VC_open (px ps i) (py ps i)
      have HVC := yh hvc
      rw [hvc] at HB75
      clear hvc
      obtain ⟨k0, k1, k2, k3, k4, k5⟩ := HB75.out.c6
      have hnm : nf + 1 ≤ maxLen := by unfold maxLen; omega
      have hby : (nf + 1) * 80 ≤ 140737488355328 := by omega
      have HROW : Hid (Rws w0 (⟨.slice A nf cc, 29, 6, nf, fl os⟩ :: ⟨.slice (some ⟨gp, 0, none⟩) cp cp, 29, 6, cp, (PX J ps).toList⟩ :: []) w5) := yh (by have := HC5.out; unfold CH at this; rw [HL2.out] at this; exact this)
      go_wp2_with (
       at_builtin
       refine wpList_append_oneL rfl (.tmp 43) (.tmp 45) _ rfl Tryz.underlying24 infoV rfl rfl HROW.out rfl rfl rfl (oneV _ _ _ _ _ _) hnm hby ?_
       intro v' w7 hR7 hb7)
      have HR7 : Hid (CH w0 v' (os ++ [pt ps i]) gp cp J ps w7) := yh (by
       unfold CH
       have e : fl (os ++ [pt ps i]) = fl os ++ [.bool x1, .string xa1, .string xd1, .bool x2, .string xa2, .string xd2] := by
        rw [fl_app]
        congr 1
        have : fl [pt ps i] = (VC (px ps i) (py ps i)).toList := by simp [fl, pv, pt]
        rw [this, HVC.out]
       rw [e, List.length_append, HL2.out]
       exact hR7)
      clear hR7 hb7 k0 k1 k2 k3 k4 k5
      have HF : Hid (pre ++ (chn (ps.take (i + 1))).reverse = os ++ [pt ps i]) := yh (by rw [HSN.out, ← HPO.out, HPE.out, List.reverse_cons, ← List.append_assoc, HOS.out])
      have hfl : (os ++ [pt ps i]).length = nf + (chn (ps.take (i + 1))).length := by rw [← HF.out, List.length_append, List.length_reverse, HNF.out]
      obtain ⟨A7, c7, rfl⟩ := HR7.out.form hfl
      clear hfl
      go_roundg (n - (i + 1))
      case measure => rw [HGK.out]; omega
      case rel => exact ⟨i + 1, A7, c7, rfl, rfl, by go_num, hlt, by rw [HF.out]; exact HR7⟩
  ·obtain rfl : i = n := by omega
   have HTK : Hid (ps.take i = ps) := yh (by rw [← HN.out, List.take_length])
   rw [HTK.out] at HC ⊢
   have hne : chn ps ≠ [] := by
    have h1 := chn_take (ps := ps) (i := i - 1) (by rw [HN.out]; omega)
    rw [show i - 1 + 1 = i by omega, HTK.out] at h1
    rw [h1]; simp
   obtain ⟨b, r, hbr⟩ : ∃ b r, chn ps = b :: r := by
    cases hc : chn ps with
    | nil => exact absurd hc hne
    | cons b r => exact ⟨b, r, rfl⟩
   have HL9 : Hid ((chn ps).length ≤ i) := yh (by have := chn_len ps; rw [HN.out] at this; exact this)
   have HBR := yh hbr
   rw [hbr] at HC HL9 ⊢
   clear hbr hne
   have HDR : Hid (pre ++ (b :: r).reverse = (pre ++ r.reverse) ++ [b]) := yh (by simp)
   obtain ⟨m, hm⟩ : ∃ m, nf + r.length = m := ⟨_, rfl⟩
   have hm1 : nf + (b :: r).length = m + 1 := by simp only [List.length_cons]; omega
   have hml : (pre ++ r.reverse).length = m := by rw [List.length_append, List.length_reverse, HNF.out]; exact hm
   rw [hm1] at HC ⊢
   rcases HC.out.out with ⟨hv9, _⟩ | ⟨go, co, Jo, hv9, hgo, hlc, hco, hbo⟩
   ·exfalso; cases hv9
   ·have hl9 : (pre ++ (b :: r).reverse).length = m + 1 := by rw [HDR.out, List.length_append, hml]; rfl
    rw [hl9] at hv9 hlc
    cases hv9
    have HC6 : Hid (CH w0 (.slice (some ⟨go, 0, none⟩) m cc) (pre ++ r.reverse) gp cp J ps wr) := yh (by
     have h9 := HC.out
     rw [HDR.out, ← hml] at h9
     have := CH.cut h9
     rwa [hml] at this)
    have hmle : m ≤ 3000 := by
     have h8 := HL9.out
     simp only [List.length_cons] at h8
     omega
    have hw2 : IntKind.i64.wrap (((m + 1 : Nat) : Int) - 1) = (m : Int) := by rw [show ((m + 1 : Nat) : Int) - 1 = (m : Int) by omega]; exact IntWalk.i64_in _ (by omega)
    have hw2' : IntKind.i64.wrap (m : Int) = (m : Int) := IntWalk.i64_in _ (by omega)
    have hcc : m ≤ cc := by omega
    have HBE := yh HC.out.below
    clear hbo hl9 hm hm1 hml HC
    go_wp2_with fail
    go_ret
    exact ⟨_, rfl, by rw [HBR.out]; exact HC6.out, HBE.out⟩
end Go.Proofs.YtmchjmflkaiakaaGreatDoor
