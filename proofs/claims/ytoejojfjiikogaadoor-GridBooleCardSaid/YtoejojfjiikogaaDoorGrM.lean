/- gantmake.Cells. -/
import Derived.Test.YtoejojfjiikogaaDoorPo3
import Derived.Test.YtoejojfjiikogaaDoorGrN
import Derived.Test.YtoejojfjiikogaaDoorGrQ
import Derived.Test.YtoejojfjiikogaaDoorGrB

namespace Go.Proofs.YtoejojfjiikogaaDoor
open Go.RowKit
set_option linter.unusedVariables false
set_option linter.unusedSimpArgs false

/-- the row of the cells made so far, and the stream (at block g, with the slice A n c) -/
def CMk (w0 : World) (v : Value) (xs : List Ft) (g : Nat) (A : Option Addr) (n c : Nat) (w : World) : Prop :=
  Rws w0 [⟨v, 60, 2, xs.length, cellsF xs⟩, ⟨.slice (some ⟨g, 0, none⟩) 1 1, 94, 1, 1, [.slice A n c]⟩] w
theorem CMk.stream {w0 w : World} {v : Value} {xs : List Ft} {g n c : Nat} {A : Option Addr} (h : CMk w0 v xs g A n c w) : w0.heap.size ≤ g ∧ Blk w g 94 #[.slice A n c] := by
  obtain ⟨h1, h2⟩ := h.own _ (List.mem_cons_of_mem _ List.mem_cons_self)
  rcases h2 with ⟨h2, _⟩ | ⟨g', cap', cur, hv, hg, hh, hnc, hm, hs, hc⟩
  · cases h2
  · dsimp only at hv hg hh hnc hm hs hc
    cases hv
    refine ⟨hg, ?_⟩
    have : cur = #[.slice A n c] := by
      apply Array.toList_inj.1
      have h3 : cur.toList.length = 1 := by simpa using hs
      rw [← hc, List.take_of_length_le (by omega)]
    rw [← this]; exact hh
theorem CMk.row {w0 w : World} {v : Value} {xs : List Ft} {g n c : Nat} {A : Option Addr} (h : CMk w0 v xs g A n c w) : FRow w0 v xs w :=
  ⟨h.below, fun r hr => h.own r (by simp at hr; subst hr; exact List.mem_cons_self), List.pairwise_singleton _ _⟩
/-- a number is drawn from the stream -/
theorem CMk.next {w0 w : World} {v : Value} {xs : List Ft} {g n c m : Nat} {A : Option Addr} {ys : List Int} (h : CMk w0 v xs g A n c w) (hi : Ints w0 A n c ys) (hm : 0 < m ∧ m ≤ 1048576) :
    Calls Tryd.prog 51 #[.pointer (some ⟨g, 0, none⟩), .int .i64 (m : Int)] w fun e w' => e = .returned (.int .i64 ((nxV ys m : Nat) : Int)) ∧ CMk w0 v xs g (slA A n c) (slL n) (slC n c) w' := by
  obtain ⟨hg, hb⟩ := h.stream
  obtain ⟨h1, h2⟩ := h.own _ List.mem_cons_self
  have stream : ∀ w', Blk w' g 94 #[.slice (slA A n c) (slL n) (slC n c)] → w'.ownsRow w0.heap.size 94 1 (.slice (some ⟨g, 0, none⟩) 1 1) 1 [.slice (slA A n c) (slL n) (slC n c)] := fun w' hb' =>
    ⟨rfl, .inr ⟨g, 1, _, rfl, hg, hb', Nat.le_refl _, by unfold maxLen; omega, rfl, rfl⟩⟩
  have hap : List.Pairwise (fun (r q : Rw) => r.v.ownBlock = none ∨ r.v.ownBlock ≠ q.v.ownBlock) [⟨v, 60, 2, xs.length, cellsF xs⟩, ⟨.slice (some ⟨g, 0, none⟩) 1 1, 94, 1, 1, [.slice (slA A n c) (slL n) (slC n c)]⟩] :=
    List.pairwise_cons.2 ⟨fun q hq => by
      simp at hq; subst hq
      have h9 := (List.pairwise_cons.1 h.apart).1 ⟨.slice (some ⟨g, 0, none⟩) 1 1, 94, 1, 1, [.slice A n c]⟩ List.mem_cons_self
      exact h9, List.pairwise_singleton _ _⟩
  rcases h2 with ⟨hv, hx⟩ | ⟨p, cap, cur, hv, hp, hh, hnc, hmx, hs, hc⟩
  · dsimp only at hv hx
    have hst : St w0 [(g, 94, #[.slice A n c])] w := ⟨h.below, fun e he => by simp at he; subst he; exact ⟨hg, hb⟩, List.pairwise_singleton _ _⟩
    refine (next_S hi hm w hst).mono ?_
    rintro e w' ⟨rfl, hs'⟩
    refine ⟨rfl, hs'.below, fun r hr => ?_, hap⟩
    rcases List.mem_cons.1 hr with rfl | hr
    · exact ⟨h1, .inl ⟨hv, hx⟩⟩
    · simp at hr; subst hr
      exact stream w' (hs'.blk _ List.mem_cons_self).2
  · dsimp only at hv hp hh hnc hmx hs hc
    have hne : g ≠ p := by
      rintro rfl
      have h9 : w.heap[g]? = some (.cells #[.slice A n c] 94) := hb
      rw [hh] at h9
      injection h9 with h9
      injection h9 with h7 h8
      exact absurd h8 (by decide)
    have hst : St w0 [(g, 94, #[.slice A n c]), (p, 60, cur)] w := ⟨h.below, fun e he => by
      rcases List.mem_cons.1 he with rfl | he
      · exact ⟨hg, hb⟩
      · simp at he; subst he; exact ⟨hp, hh⟩, List.pairwise_cons.2 ⟨fun e he => by simp at he; subst he; exact hne, List.pairwise_singleton _ _⟩⟩
    refine (next_S hi hm w hst).mono ?_
    rintro e w' ⟨rfl, hs'⟩
    refine ⟨rfl, hs'.below, fun r hr => ?_, hap⟩
    rcases List.mem_cons.1 hr with rfl | hr
    · exact ⟨h1, .inr ⟨p, cap, cur, hv, hp, (hs'.blk _ (List.mem_cons_of_mem _ List.mem_cons_self)).2, hnc, hmx, hs, hc⟩⟩
    · simp at hr; subst hr
      exact stream w' (hs'.blk _ List.mem_cons_self).2
theorem CMk.kept {w0 w w' : World} {v : Value} {xs : List Ft} {g n c : Nat} {A : Option Addr} (h : CMk w0 v xs g A n c w) (hb : Below w.heap.size w w') : CMk w0 v xs g A n c w' := Rws.next h hb
theorem nxV_8 (ys : List Int) : (-4 : Int) ≤ ((nxV ys 8 : Nat) : Int) - 4 ∧ ((nxV ys 8 : Nat) : Int) - 4 < 4 := by
  have := nxV_lt ys (m := 8) (by omega); omega
set_option maxHeartbeats 4000000 in
set_option maxRecDepth 20000 in
/-- a set of up to 8 cells near the origin, ascending -/
theorem cells_any (ys : List Int) (A : Option Addr) (n c : Nat) (w : World) (hi : Ints w A n c ys) :
    Calls Tryd.prog 18 #[.slice A n c] w fun e w' => ∃ v xs, e = .returned v ∧ Fs v xs w' ∧ Asc xs ∧ (∀ f ∈ xs, smP f) ∧ xs.length ≤ 8 ∧ Below w.heap.size w w' := by
  have HI := Lib.hid hi; clear hi
  go_enter Tryd.func18, Tryd.ntmps18
  go_upto_region 2 with (fail)
  have HM : Hid (CMk w (.slice none 0 0) [] w.heap.size A n c (w.alloc (.cells #[.slice A n c] 94))) := Lib.hid (by
    refine ⟨(Below.refl _ _).alloc (Nat.le_refl _) _, fun r hr => ?_, ?_⟩
    · rcases List.mem_cons.1 hr with rfl | hr
      · exact ⟨rfl, .inl ⟨rfl, rfl⟩⟩
      · simp at hr; subst hr
        exact ⟨rfl, .inr ⟨w.heap.size, 1, _, rfl, Nat.le_refl _, Blk.new _ _ _, Nat.le_refl _, by unfold maxLen; omega, rfl, rfl⟩⟩
    · exact List.pairwise_cons.2 ⟨fun r hr => .inl rfl, List.pairwise_singleton _ _⟩)
  generalize World.alloc w _ = w1 at *
  generalize w.heap.size = g at *
  have H1 := Lib.hid (HM.out.next HI.out (m := 9) (by omega))
  have hk9 := nxV_lt ys (m := 9) (by omega)
  have HI1 := Lib.hid HI.out.tail
  generalize nxV ys 9 = k at *
  generalize ys.tail = ys1 at *
  generalize slA A n c = A1 at *
  generalize slL n = n1 at *
  generalize slC n c = c1 at *
  clear HM HI
  go_wp2_with fail
  refine H1.out.mono ?_
  rintro e w2 ⟨rfl, hm2⟩
  have HM2 := Lib.hid hm2
  clear hm2 H1
  go_wp2_with fail
  go_loopg [4, 11] k (fun kx v i wr => ∃ (j : Nat) (xs : List Ft) (zs : List Int) (A2 : Option Addr) (n2 c2 : Nat), kx = k - j ∧ j ≤ k ∧ i = .int .i64 j ∧ Hid (CMk w v xs g A2 n2 c2 wr) ∧ Hid (Ints w A2 n2 c2 zs) ∧ Hid (xs.Nodup ∧ (∀ f ∈ xs, smP f) ∧ xs.length ≤ j))
  case atStart => exact ⟨0, [], ys1, A1, n1, c1, by omega, Nat.zero_le _, rfl, HM2, HI1, Lib.hid ⟨List.nodup_nil, fun f hf => by simp at hf, Nat.le_refl _⟩⟩
  case round =>
    clear HM2 HI1
    obtain ⟨j, xs, zs, A2, n2, c2, hgk, hj, rfl, HM, HI, HX⟩ := hrel
    have HGK := Lib.hid hgk; clear hgk
    by_cases hlt : j < k
    · have HX1 := Lib.hid (HM.out.next HI.out (m := 8) (by omega))
      have hx8 := nxV_8 zs
      have HI2 := Lib.hid HI.out.tail
      generalize nxV zs 8 = x at *
      generalize zs.tail = zs1 at *
      generalize slA A2 n2 c2 = A3 at *
      generalize slL n2 = n3 at *
      generalize slC n2 c2 = c3 at *
      clear HM HI
      have hw1 := i64_w ((x : Int) - 4) (by omega) (by omega)
      go_wp2_with fail
      refine HX1.out.mono ?_
      rintro e w3 ⟨rfl, hm3⟩
      have HY1 := Lib.hid (hm3.next HI2.out (m := 8) (by omega))
      have hy8 := nxV_8 zs1
      have HI3 := Lib.hid HI2.out.tail
      generalize nxV zs1 8 = y at *
      generalize zs1.tail = zs2 at *
      generalize slA A3 n3 c3 = A4 at *
      generalize slL n3 = n4 at *
      generalize slC n3 c3 = c4 at *
      clear HX1 HI2 hm3
      have hw2 := i64_w ((y : Int) - 4) (by omega) (by omega)
      go_wp2_with fail
      refine HY1.out.mono ?_
      rintro e w4 ⟨rfl, hm4⟩
      have HM4 := Lib.hid hm4
      clear HY1 hm4
      go_upto_region 6 with (fail)
      generalize hcx : (x : Int) - 4 = cx at *
      generalize hcy : (y : Int) - 4 = cy at *
      clear hcx hcy hw1 hw2
      have HM5 := Lib.hid (HM4.out.kept ((Below.refl _ _).alloc (Nat.le_refl _) (.cells #[.int .i64 cx, .int .i64 cy] 60)))
      have HB5 := Lib.hid (Blk.new w4 60 #[.int .i64 cx, .int .i64 cy])
      clear HM4
      generalize w4.heap.size = p at *
      generalize World.alloc w4 _ = w5 at *
      obtain ⟨B5, d5, rfl, hl5, hm5, hF5⟩ := HM5.out.row.facts
      have HSM : Hid (smP ⟨cx, cy⟩) := Lib.hid ⟨hx8.1, hx8.2, hy8.1, hy8.2⟩
      have HCO := Lib.hid (contains_any xs ⟨cx, cy⟩ B5 xs.length d5 w5 rfl (by have := HX.out.2.2; omega) hF5)
      unfold valF at HCO
      dsimp only at HCO
      clear hF5 hl5 hx8 hy8
      unfold maxLen at hm5
      generalize hn5 : xs.length = n5 at *
      have HN5 := Lib.hid hn5; clear hn5
      have hn8 : n5 ≤ 8 := by have := HX.out.2.2; omega
      have k0 := HB5.out.cell 0
      have k1 := HB5.out.cell 1
      simp at k0 k1
      cases hc : decide ((⟨cx, cy⟩ : Ft) ∈ xs) with
      | true =>
        rw [hc] at HCO
        clear hc
        go_wp2_with fail
        refine HCO.out.mono ?_
        rintro e w6 ⟨rfl, hb6⟩
        have HM6 := Lib.hid (HM5.out.kept hb6)
        clear hb6
        go_wp2_with fail
        go_roundg (k - (j + 1))
        case measure => rw [HGK.out]; omega
        case rel => exact ⟨j + 1, xs, zs2, A4, n4, c4, rfl, hlt, by go_num, HM6, HI3, Lib.hid ⟨HX.out.1, HX.out.2.1, by have h1 := HX.out.2.2; have h2 := HN5.out; omega⟩⟩
      | false =>
        rw [hc] at HCO
        have HNI : Hid (¬ (⟨cx, cy⟩ : Ft) ∈ xs) := Lib.hid (by simpa using hc)
        clear hc
        go_wp2_with fail
        refine HCO.out.mono ?_
        rintro e w6 ⟨rfl, hb6⟩
        have HM6 := Lib.hid (HM5.out.kept hb6)
        have HB6 := Lib.hid (HB5.out.belowB hb6)
        clear hb6 k0 k1
        have k0 := HB6.out.cell 0
        have k1 := HB6.out.cell 1
        simp at k0 k1
        have hnm : n5 + 1 ≤ maxLen := by unfold maxLen; omega
        have hby : (n5 + 1) * 16 ≤ 140737488355328 := by omega
        have HR6 : Hid (Rws w (⟨.slice B5 n5 d5, 60, 2, n5, cellsF xs⟩ :: ⟨.slice (some ⟨g, 0, none⟩) 1 1, 94, 1, 1, [.slice A4 n4 c4]⟩ :: []) w6) := Lib.hid (by have := HM6.out; unfold CMk at this; rw [HN5.out] at this; exact this)
        go_wp2_with (
          at_builtin
          refine wpList_append_oneL rfl (.tmp 24) (.tmp 26) _ rfl Tryd.underlying56 infoFt rfl rfl HR6.out rfl rfl rfl (one_ft ⟨_, _⟩) hnm hby ?_
          intro v' w7 hR7 hb7)
        have HM7 : Hid (CMk w v' (xs ++ [⟨cx, cy⟩]) g A4 n4 c4 w7) := Lib.hid (by
          unfold CMk
          have e : cellsF (xs ++ [⟨cx, cy⟩]) = cellsF xs ++ [.int .i64 cx, .int .i64 cy] := by simp [cellsF, valG]
          rw [e, List.length_append, HN5.out]
          exact hR7)
        clear hR7 hb7
        go_roundg (k - (j + 1))
        case measure => rw [HGK.out]; omega
        case rel =>
          refine ⟨j + 1, xs ++ [⟨cx, cy⟩], zs2, A4, n4, c4, rfl, hlt, by go_num, HM7, HI3, Lib.hid ⟨?_, ?_, ?_⟩⟩
          · rw [List.nodup_append]
            refine ⟨HX.out.1, by simp, fun a ha b hb e => ?_⟩
            simp at hb; subst hb; subst e
            exact HNI.out ha
          · intro f hf
            rcases List.mem_append.1 hf with hf | hf
            · exact HX.out.2.1 f hf
            · simp at hf; subst hf; exact HSM.out
          · have h1 := HX.out.2.2; have h2 := HN5.out; rw [List.length_append]; simp; omega
    · obtain rfl : j = k := by omega
      have HB := Lib.hid HM.out.below
      have HX8 : Hid (xs.length ≤ 8) := Lib.hid (by have := HX.out.2.2; omega)
      rcases HM.out.row.own with ⟨rfl, hnl⟩ | ⟨q, cap, rfl, hq, hm, hb⟩
      · have HNL := Lib.hid hnl
        clear hnl
        go_wp2_with (first | (go_at_call 53; refine (sortF_none _ _ _ _).mono ?_; rintro e w2 ⟨rfl, rfl⟩) | fail)
        go_ret
        exact ⟨_, [], rfl, ⟨none, 0, rfl, Nat.le_refl _, by unfold maxLen; omega, FactsAt.nil⟩, List.Pairwise.nil, fun f hf => by simp at hf, by simp, HB.out⟩
      · obtain ⟨ss, hss⟩ := as_small xs HX.out.2.1
        have hsz : ss.toArray.size = xs.length := by rw [← hss]; simp
        have hmp : ss.toArray.map (·.1) = xs.toArray := by rw [← hss]; simp
        have HSO := Lib.hid (sortS_any q cap cap ss.toArray wr w.heap.size hq (by rw [hmp]; exact hb) (by rw [hsz]; have := HX8.out; omega))
        rw [hsz] at HSO
        have HSS := Lib.hid hss
        have HQ := Lib.hid hq
        have HMX := Lib.hid hm
        clear hss hsz hmp hq hm hb HM
        generalize hrr : (ss.toArray.toList.mergeSort fun x y => !(Go.Proofs.ltOf cmpS y x)) = rr at *
        have HRR : Hid ((ss.mergeSort fun x y => !(Go.Proofs.ltOf cmpS y x)) = rr) := Lib.hid (by rw [← hrr])
        clear hrr
        generalize hnn : xs.length = n9 at *
        have HN9 := Lib.hid hnn
        clear hnn
        go_wp2_with fail
        refine HSO.out.mono ?_
        rintro e w2 ⟨rfl, hf2, hb2⟩
        have HB2 := Lib.hid (HB.out.trans hb2)
        have HF2 := Lib.hid hf2
        clear hf2 hb2
        go_wp2_with fail
        go_ret
        have hmem : ∀ f, f ∈ rr.map (·.1) ↔ f ∈ xs := fun f => by rw [← HRR.out, sortS_mem, HSS.out]
        have hlen : (rr.map (·.1)).length = n9 := by rw [← HRR.out, ← HN9.out, ← HSS.out]; simp [List.length_mergeSort]
        have hfa := HF2.out.factsAll
        rw [show (rr.toArray.map (·.1)).toList = rr.map (·.1) by simp] at hfa
        refine ⟨_, rr.map (·.1), rfl, ⟨_, cap, by rw [hlen]; rfl, ?_, HMX.out, hfa⟩, ?_, fun f hf => HX.out.2.1 f ((hmem f).1 hf), by rw [hlen]; exact HX8.out, HB2.out⟩
        · have := HF2.out.le; simpa using this
        · rw [← HRR.out]
          exact sortS_asc (by rw [HSS.out]; exact HX.out.1)
end Go.Proofs.YtoejojfjiikogaaDoor
