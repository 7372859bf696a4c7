/- FactSets: every function for sets of facts returns what the reference says: the walk of the law; the lists hold at most 1100000 facts each. -/
import Derived.Test.YtnaiflokmihmeaaFacY
import Derived.Test.YtnaiflokmihmeaaFacV
import Derived.Test.YtnaiflokmihmeaaFacZ
import Derived.Test.YtnaiflokmihmeaaFacAa
import Derived.Test.YtnaiflokmihmeaaFacS
import Derived.Test.YtnaiflokmihmeaaInvS
import Derived.Test.YtnaiflokmihmeaaRet
import Derived.Test.YtnaiflokmihmeaaBulk
import Derived.Deep.DeepCutAuto
import Derived.Great.BuildSlice
namespace Go.Proofs.Ytnaiflokmihmeaa
open Go.RowKit Go.ChangeShapes Go.WideShapes Go.Deep
set_option linter.unusedVariables false
set_option linter.unusedSimpArgs false

/-- a slice of the facts l -/
def isFs (l : List Ft) : Told := fun u w => ∃ A c, u = .slice A l.length c ∧ l.length ≤ c ∧ c ≤ maxLen ∧ FactsAt w w.heap.size A l
theorem isFs_st {l : List Ft} (v : Value) (w w' : World) (h : isFs l v w) (hb : Below w.heap.size w w') : isFs l v w' := by
  obtain ⟨A, c, e, h1, h2, h3⟩ := h
  exact ⟨A, c, e, h1, h2, h3.next hb⟩
/-- a slice of two slices -/
def isPr (x y : Value) : Told := fun u w => ∃ g, u = .slice (some ⟨g, 0, none⟩) 2 2 ∧ Blk w g 43 #[x, y]
theorem isPr_st {x y : Value} (v : Value) (w w' : World) (h : isPr x y v w) (hb : Below w.heap.size w w') : isPr x y v w' := by
  obtain ⟨g, e, h1⟩ := h
  exact ⟨g, e, h1.belowB hb⟩
theorem of_told {f : Nat} {vs : Array Value} {l : List Ft} {w : World} (h : Calls Try.prog f vs w (OfPost l w)) : Calls Try.prog f vs w fun e w' => ∃ v, e = .returned v ∧ isFs (ofL l) v w' ∧ Below w.heap.size w w' :=
  h.mono fun e w' ⟨A, c, e1, h1, h2, h3, h4⟩ => ⟨_, e1, ⟨A, c, rfl, h1, h2, h3⟩, h4⟩
theorem row_told {f : Nat} {vs : Array Value} {l : List Ft} {w : World} (h : Calls Try.prog f vs w fun e w' => ∃ v, e = .returned v ∧ FRow w v l w') : Calls Try.prog f vs w fun e w' => ∃ v, e = .returned v ∧ isFs l v w' ∧ Below w.heap.size w w' :=
  h.mono fun e w' ⟨v, e1, h1⟩ => ⟨v, e1, h1.facts, h1.bel⟩
theorem fill_pair (A B : Option Addr) (n m ca cb : Nat) : Instr.fill (fun i => some (i * 1, 1)) (Array.map (fun x => (Value.slice none 0 0).cells[x % (Value.slice none 0 0).cells.size]!) (Array.range (2 * 1))) #[(0, .slice A n ca), (1, .slice B m cb)].toList = some #[.slice A n ca, .slice B m cb] := by
  simp [Instr.fill, Value.cells, Array.range]
  apply Array.ext
  · simp
  · intro i h1 h2
    simp at h1
    have h3 : i = 0 ∨ i = 1 := by omega
    rcases h3 with rfl | rfl <;> simp
theorem run_pair (A B : Option Addr) (n m ca cb : Nat) (w : World) : ((do pure (.value (← Instr.buildSlice 97 2 #[(0, .slice A n ca), (1, .slice B m cb)])) : Sem Next)).run Try.prog w = .ok (.value (.slice (some ⟨w.heap.size, 0, none⟩) 2 2)) (w.alloc (.cells #[.slice A n ca, .slice B m cb] 43)) := by
  obtain ⟨i, hi, hz, hs, hb⟩ := info_parts (show (Try.prog.info? 43).map (fun i => (i.zero, i.size, i.bytes)) = some (some (.slice none 0 0), 1, 24) by kernel_rfl)
  rw [Sem.run_bind, run_buildSlice w _ _ 2 #[(0, .slice A n ca), (1, .slice B m cb)] #[.slice A n ca, .slice B m cb] i _ Try.underlying97 hi hz (by rw [hs]; decide) (by rw [hs]; decide) (by rw [hs]; exact fill_pair _ _ _ _ _ _)]
  rfl
theorem stpB_ok {l : List Ft} {i : Nat} {f : Ft} (h : stpB l i = true) (hf : l[i]? = some f) : okF f = true := by
  unfold stpB at h
  rw [hf] at h
  simp only [Bool.and_eq_true] at h
  exact h.1
theorem cmp_lt (f g : Ft) : decide (cmpF f g < 0) = decide (FLt f g) := by
  rcases cmpF_cases f g with ⟨h, e⟩ | ⟨h, e⟩ | ⟨h, e⟩
  · rw [e]; simp [h]
  · subst h; rw [e]; simp [FLt]
  · rw [e]
    have : ¬ FLt f g := fun h2 => flt_irrefl _ (flt_trans h h2)
    simp [this]
theorem all_take {l : List Ft} {j : Nat} {f : Ft} {p : Ft → Bool} (h : l[j]? = some f) : (l.take (j+1)).all p = ((l.take j).all p && p f) := by
  rw [List.take_add_one, h, List.all_append]; simp
/-- two rows of the call's own -/
def FRow2 (w : World) (v u : Value) (xs ys : List Ft) (wr : World) : Prop := Rws w [⟨v, 45, 3, xs.length, cellsF xs⟩, ⟨u, 45, 3, ys.length, cellsF ys⟩] wr
section
variable {w wr w' : World} {v v' u : Value} {xs ys : List Ft} {n : Nat} {x : Ft}
theorem FRow2.nil (w : World) : FRow2 w (.slice none 0 0) (.slice none 0 0) [] [] w := (Rws.start.nil _ _).nil _ _
theorem FRow2.next (h : FRow2 w v u xs ys wr) (hb : Below wr.heap.size wr w') : FRow2 w v u xs ys w' := Rws.next h hb
theorem FRow2.bel (h : FRow2 w v u xs ys wr) : Below w.heap.size w wr := Rws.below h
theorem FRow2.row1 (h : FRow2 w v u xs ys wr) (hn : xs.length = n) : Rws w (⟨v, 45, 3, n, cellsF xs⟩ :: [⟨u, 45, 3, ys.length, cellsF ys⟩]) wr := by subst hn; exact h
theorem FRow2.row2 (h : FRow2 w v u xs ys wr) (hn : ys.length = n) : Rws w (⟨u, 45, 3, n, cellsF ys⟩ :: [⟨v, 45, 3, xs.length, cellsF xs⟩]) wr := by subst hn; exact Rws.swap h
theorem FRow2.add1 (hn : xs.length = n) (h : Rws w [⟨v', 45, 3, n + 1, cellsF xs ++ (#[.int .i64 x.k, .int .i64 x.a, .int .i64 x.b] : Array Value).toList⟩, ⟨u, 45, 3, ys.length, cellsF ys⟩] wr) : FRow2 w v' u (xs ++ [x]) ys wr := by
  subst hn
  have e : cellsF (xs ++ [x]) = cellsF xs ++ [.int .i64 x.k, .int .i64 x.a, .int .i64 x.b] := by simp [cellsF, valG]
  unfold FRow2
  rw [e, List.length_append]
  exact h
theorem FRow2.add2 (hn : ys.length = n) (h : Rws w [⟨v', 45, 3, n + 1, cellsF ys ++ (#[.int .i64 x.k, .int .i64 x.a, .int .i64 x.b] : Array Value).toList⟩, ⟨v, 45, 3, xs.length, cellsF xs⟩] wr) : FRow2 w v v' xs (ys ++ [x]) wr := by
  subst hn
  have e : cellsF (ys ++ [x]) = cellsF ys ++ [.int .i64 x.k, .int .i64 x.a, .int .i64 x.b] := by simp [cellsF, valG]
  unfold FRow2
  rw [e, List.length_append]
  exact Rws.swap h
theorem FRow2.facts1 (h : FRow2 w v u xs ys wr) : ∃ A c, v = .slice A xs.length c ∧ xs.length ≤ c ∧ c ≤ maxLen ∧ FactsAt wr wr.heap.size A xs := FactsAt.of_own (Rws.head h)
theorem FRow2.facts2 (h : FRow2 w v u xs ys wr) : ∃ A c, u = .slice A ys.length c ∧ ys.length ≤ c ∧ c ≤ maxLen ∧ FactsAt wr wr.heap.size A ys := FactsAt.of_own (Rws.head (Rws.drop h))
theorem FRow2.ne1 (h : FRow2 w v u xs ys wr) : v.ownBlock ≠ some wr.heap.size := fun e => by have := ((Rws.head h).lt _ e).2; omega
theorem FRow2.ne2 (h : FRow2 w v u xs ys wr) : u.ownBlock ≠ some wr.heap.size := fun e => by have := ((Rws.head (Rws.drop h)).lt _ e).2; omega
end

theorem two_more {w wr : World} {p : Nat} {t : TypeId} {cs : Array Value} (hx : Blk w p t cs) (hb : Below w.heap.size w wr) (ds : Array Value) :
    Blk (wr.alloc (.cells ds 45)) p t cs ∧ Blk (wr.alloc (.cells ds 45)) wr.heap.size 45 ds ∧ Below w.heap.size w (wr.alloc (.cells ds 45)) :=
  ⟨(hx.belowB hb).alloc _, Blk.new _ _ _, hb.alloc hb.size _⟩
theorem two_next {w wr w' : World} {p q : Nat} {t u : TypeId} {cs ds : Array Value} (h : Blk wr p t cs ∧ Blk wr q u ds ∧ Below w.heap.size w wr) (hb : Below wr.heap.size wr w') : Blk w' p t cs ∧ Blk w' q u ds ∧ Below w.heap.size w w' :=
  ⟨h.1.belowB hb, h.2.1.belowB hb, h.2.2.trans (hb.mono h.2.2.size)⟩
set_option maxHeartbeats 40000000 in
set_option maxRecDepth 20000 in
theorem factSets_core (la lb lc : List Ft) (f : Ft) (A B C : Option Addr) (n m k ca cb cc : Nat) (w : World) (hn : n = la.length) (hm : m = lb.length) (hk : k = lc.length) (hn1 : n ≤ 1100000) (hm1 : m ≤ 1100000) (hk1 : k ≤ 1100000) (hnc : n ≤ ca)
    (hA : FactsAt w w.heap.size A la) (hB : FactsAt w w.heap.size B lb) (hC : FactsAt w w.heap.size C lc) :
    Calls Try.prog 5 #[.slice A n ca, .slice B m cb, .slice C k cc, valF f] w fun e w' => e = .returned (.bool true) ∧ Below w.heap.size w w' := by
  have HN := Lib.hid hn
  have HM := Lib.hid hm
  have HK := Lib.hid hk
  have HA := Lib.hid hA
  have HB := Lib.hid hB
  have HC := Lib.hid hC
  clear hn hm hk hA hB hC
  obtain ⟨pb, hpb⟩ : ∃ pb : Ft → Bool, pb = fun x => decide (x ∈ lb) := ⟨_, rfl⟩
  obtain ⟨nb, hnb⟩ : ∃ nb : Ft → Bool, nb = fun x => !decide (x ∈ lb) := ⟨_, rfl⟩
  have HPB := Lib.hid (fun x => congrFun hpb x)
  have HNB := Lib.hid (fun x => congrFun hnb x)
  have HPB0 := Lib.hid hpb
  have HNB0 := Lib.hid hnb
  clear hpb hnb
  have HCN := Lib.hid (fun x W (hb : Below w.heap.size w W) => containsF_any lb B m cb x W HM.out (by omega) (HB.out.next hb))
  obtain ⟨fk, fa, fb⟩ := f
  unfold valF
  dsimp only
  have hm0 : n ≤ 9223372036854775807 := by omega
  obtain ⟨w1, hw1⟩ : ∃ w1, w.alloc (.cells #[.int .i64 fk, .int .i64 fa, .int .i64 fb] 45) = w1 := ⟨_, rfl⟩
  have HW1 : Hid (Below w.heap.size w w1) := Lib.hid (by rw [← hw1]; exact (Below.refl _ _).alloc (Nat.le_refl _) _)
  have HX1 : Hid (Blk w1 w.heap.size 45 #[.int .i64 fk, .int .i64 fa, .int .i64 fb]) := Lib.hid (by rw [← hw1]; exact Blk.new _ _ _)
  go_enter Try.func5, Try.ntmps5
  go_wp2_with fail
  clear hw1
  go_loopg [9, 10, 11, 12, 20] n (fun kx v9 v10 s11 s12 i wr => ∃ (j : Nat) (wi z : Bool), kx = n - j ∧ j ≤ n ∧ i = .int .i64 j ∧ wi = ((la.take j).all pb) ∧ (s11 = .bool wi ∧ s12 = .bool z) ∧ Hid (FRow2 w1 v9 v10 ((la.take j).filter pb) ((la.take j).filter nb) wr) ∧ Hid (z = true ↔ ∀ i, i < j → stpB la i = true))
  case atStart => exact ⟨0, true, true, by omega, Nat.zero_le _, rfl, rfl, ⟨rfl, rfl⟩, FRow2.nil w1, Lib.hid ⟨fun _ i hi => by omega, fun _ => rfl⟩⟩
  case round =>
    obtain ⟨j, wi, z, hgk, hj, rfl, hwi, ⟨rfl, rfl⟩, hrow, hz⟩ := hrel
    have HGK := Lib.hid hgk; clear hgk
    have HB0 := Lib.hid (HW1.out.trans (hrow.out.bel.mono HW1.out.size))
    have hl9 : ((la.take j).filter pb).length ≤ j := Nat.le_trans (List.length_filter_le _ _) (by rw [List.length_take]; omega)
    have hl10 : ((la.take j).filter nb).length ≤ j := Nat.le_trans (List.length_filter_le _ _) (by rw [List.length_take]; omega)
    obtain ⟨A9, c9, rfl, hc9, hm9, hF9⟩ := hrow.out.facts1
    obtain ⟨A10, c10, rfl, hc10, hm10, hF10⟩ := hrow.out.facts2
    have HF9 := Lib.hid hF9
    have HF10 := Lib.hid hF10
    clear hF9 hF10
    unfold maxLen at hm9 hm10
    have HWI := Lib.hid hwi; clear hwi
    by_cases hlt : j < n
    · clear HF9 HF10
      obtain ⟨⟨xk, xa, xb⟩, hf⟩ := get_of_lt HN.out hlt
      obtain ⟨b, off, rfl, hb, h0, h1, h2⟩ := HA.out.three hf
      have g0 := (HB0.out.cell (p := ⟨b, off + j*3, none⟩) hb).trans h0
      have g1 := (HB0.out.cell (p := ⟨b, off + j*3+1, none⟩) hb).trans h1
      have g2 := (HB0.out.cell (p := ⟨b, off + j*3+2, none⟩) hb).trans h2
      dsimp only at g0 g1 g2
      have HF := Lib.hid hf; clear hf h0 h1 h2
      have hne9 := hrow.out.ne1
      have hne10 := hrow.out.ne2
      generalize hq9 : ((la.take j).filter pb).length = n9 at *
      generalize hq10 : ((la.take j).filter nb).length = n10 at *
      have HN9 := Lib.hid hq9; clear hq9
      have HN10 := Lib.hid hq10; clear hq10
      have i1 : (0 : Int) ≤ (j : Int) := by omega
      have i2 : (j : Int) < (n : Int) := by omega
      go_upto_region 6 with (fail)
      clear g0 g1 g2
      have HR4 := Lib.hid (hrow.out.next ((Below.refl _ _).alloc (Nat.le_refl _) (.cells #[.int .i64 xk, .int .i64 xa, .int .i64 xb] 45)))
      have HB4 := Lib.hid (HB0.out.alloc HB0.out.size (.cells #[.int .i64 xk, .int .i64 xa, .int .i64 xb] 45))
      have HD4 := Lib.hid (Blk.new wr 45 #[.int .i64 xk, .int .i64 xa, .int .i64 xb])
      generalize wr.heap.size = p14 at *
      generalize World.alloc wr _ = w4 at *
      clear hrow HB0
      have HCX := Lib.hid (fun W hb => HCN.out ⟨xk, xa, xb⟩ W hb)
      have HFX := Lib.hid (fun W => factis_any ⟨xk, xa, xb⟩ W)
      unfold valF at HCX HFX
      dsimp only at HCX HFX
      have k0 := HD4.out.cell 0
      have k1 := HD4.out.cell 1
      have k2 := HD4.out.cell 2
      simp at k0 k1 k2
      cases hmem : decide ((⟨xk, xa, xb⟩ : Ft) ∈ lb) with
      | true =>
        have HM0 := Lib.hid hmem
        rw [hmem] at HCX
        clear hmem
        go_upto_region 6 with (fail)
        go_wp2_with fail
        refine (HCX.out _ HB4.out).mono ?_
        rintro e w5 ⟨rfl, hb5⟩
        have HR5 := Lib.hid (HR4.out.next hb5)
        have HD5 := Lib.hid (HD4.out.belowB hb5)
        have HS5 := hb5.size
        clear hb5 k0 k1 k2
        have k0 := HD5.out.cell 0
        have k1 := HD5.out.cell 1
        have k2 := HD5.out.cell 2
        simp at k0 k1 k2
        go_upto_region 9 with (at_builtin; refine wpList_append_oneG rfl _ _ _ rfl Try.underlying43 infoFt rfl rfl (HR5.out.row1 HN9.out) rfl rfl rfl (one_ft ⟨_, _, _⟩) (by omega) ?_; intro v' wq hR6 hb6 hg6)
        have HRQ : Hid (FRow2 w1 v' (.slice A10 n10 c10) ((la.take (j+1)).filter pb) ((la.take (j+1)).filter nb) wq) := Lib.hid (by
          rw [filtP_yes HF.out (p := pb) (by rw [HPB.out]; exact HM0.out), filtP_no HF.out (p := nb) (by rw [HNB.out, HM0.out]; rfl)]
          exact FRow2.add1 (x := ⟨xk, xa, xb⟩) HN9.out hR6)
        have HTW : Hid (wi = ((la.take (j+1)).all pb)) := Lib.hid (by rw [HWI.out, all_take HF.out, HPB.out, HM0.out, Bool.and_true])
        have HDQ : Hid (Blk wq p14 45 #[.int .i64 xk, .int .i64 xa, .int .i64 xb]) := Lib.hid ((HD5.out.alloc _).grown hg6 (Ne.symm hne9))
        have HBW : Hid (Below w.heap.size w wq) := Lib.hid (HW1.out.trans (hb6.mono HW1.out.size))
        clear hR6 hb6 hg6 k0 k1 k2
        have hlt14 := HDQ.out.lt
        have d0 := HDQ.out.cell 0
        have d1 := HDQ.out.cell 1
        have d2 := HDQ.out.cell 2
        simp at d0 d1 d2

        cases z with
        | false =>
          have HZZ : Hid (¬ ∀ i, i < j + 1 → stpB la i = true) := Lib.hid (fun h => by have h9 := hz.out.2 (fun i hi => h i (by omega)); cases h9)
          refine wp_seq [] (by kernel_rfl) (by kernel_rfl) Reg.fin_no (StR.no (St.start (W := wq))) ?_
          refine Seq.pure rfl rfl (by intro w; go_simp; try first | with_reducible rfl | rfl) ?_
          simp only [Act.put, List.setIfInBounds_toArray, List.set_cons_zero, List.set_cons_succ]
          refine Seq.pure rfl rfl (by intro w; go_simp; try first | with_reducible rfl | rfl) ?_
          simp only [Act.put, List.setIfInBounds_toArray, List.set_cons_zero, List.set_cons_succ]
          refine Seq.nw (by kernel_rfl) ?_
          simp only [Act.put, List.setIfInBounds_toArray, List.set_cons_zero, List.set_cons_succ]
          refine Seq.nw (by kernel_rfl) ?_
          simp only [Act.put, List.setIfInBounds_toArray, List.set_cons_zero, List.set_cons_succ]
          refine Seq.pure rfl rfl (by intro w; go_simp; try first | with_reducible rfl | rfl) ?_
          simp only [Act.put, List.setIfInBounds_toArray, List.set_cons_zero, List.set_cons_succ]
          refine Seq.pure rfl rfl (by intro w; go_simp; try first | with_reducible rfl | rfl) ?_
          simp only [Act.put, List.setIfInBounds_toArray, List.set_cons_zero, List.set_cons_succ]
          refine Seq.nw (by kernel_rfl) ?_
          simp only [Act.put, List.setIfInBounds_toArray, List.set_cons_zero, List.set_cons_succ]
          refine Seq.nw (by kernel_rfl) ?_
          simp only [Act.put, List.setIfInBounds_toArray, List.set_cons_zero, List.set_cons_succ]
          refine Seq.nw (by kernel_rfl) ?_
          simp only [Act.put, List.setIfInBounds_toArray, List.set_cons_zero, List.set_cons_succ]
          refine Seq.nw (by kernel_rfl) ?_
          simp only [Act.put, List.setIfInBounds_toArray, List.set_cons_zero, List.set_cons_succ]
          refine Seq.nw (by kernel_rfl) ?_
          simp only [Act.put, List.setIfInBounds_toArray, List.set_cons_zero, List.set_cons_succ]
          refine Seq.nw (by kernel_rfl) ?_
          simp only [Act.put, List.setIfInBounds_toArray, List.set_cons_zero, List.set_cons_succ]
          refine Seq.nw (by kernel_rfl) ?_
          simp only [Act.put, List.setIfInBounds_toArray, List.set_cons_zero, List.set_cons_succ]
          refine Seq.nw (by kernel_rfl) ?_
          simp only [Act.put, List.setIfInBounds_toArray, List.set_cons_zero, List.set_cons_succ]
          refine Seq.nw (by kernel_rfl) ?_
          simp only [Act.put, List.setIfInBounds_toArray, List.set_cons_zero, List.set_cons_succ]
          refine Seq.nw (by kernel_rfl) ?_
          simp only [Act.put, List.setIfInBounds_toArray, List.set_cons_zero, List.set_cons_succ]
          refine Seq.nw (by kernel_rfl) ?_
          simp only [Act.put, List.setIfInBounds_toArray, List.set_cons_zero, List.set_cons_succ]
          refine Seq.pure rfl rfl (by intro w; go_simp; try first | with_reducible rfl | rfl) ?_
          simp only [Act.put, List.setIfInBounds_toArray, List.set_cons_zero, List.set_cons_succ]
          refine Seq.pure rfl rfl (by intro w; go_simp; try first | with_reducible rfl | rfl) ?_
          simp only [Act.put, List.setIfInBounds_toArray, List.set_cons_zero, List.set_cons_succ]
          refine Seq.done fun wz hws => ?_
          have HBZ := Lib.hid hws.st.below
          clear hws
          go_wp2_with fail
          go_roundg (n - (j + 1))
          case measure => rw [HGK.out]; omega
          case rel => exact ⟨j+1, _, _, rfl, hlt, by go_num, HTW.out, ⟨rfl, rfl⟩, HRQ.out.next HBZ.out, Lib.hid ⟨fun h => (by cases h), fun h => absurd h HZZ.out⟩⟩
        | true =>
          have hstp := hz.out.1 rfl
          have HSTP := Lib.hid hstp
          clear hstp
          cases hok : okF ⟨xk, xa, xb⟩ with
          | false =>
            rw [hok] at HFX
            have HZZ : Hid (¬ ∀ i, i < j + 1 → stpB la i = true) := Lib.hid (fun h => by
              have h1 := stpB_ok (h j (Nat.lt_succ_self j)) HF.out
              rw [hok] at h1; cases h1)
            clear hok
            refine wp_seq [] (by kernel_rfl) (by kernel_rfl) Reg.fin_no (StR.no (St.start (W := wq))) ?_
            refine Seq.pure rfl rfl (by intro w; go_simp; try first | with_reducible rfl | rfl) ?_
            simp only [Act.put, List.setIfInBounds_toArray, List.set_cons_zero, List.set_cons_succ]
            refine Seq.pure rfl rfl (by intro w; go_simp; try first | with_reducible rfl | rfl) ?_
            simp only [Act.put, List.setIfInBounds_toArray, List.set_cons_zero, List.set_cons_succ]
            refine Seq.look (v := .agg #[.int .i64 xk, .int .i64 xa, .int .i64 xb]) rfl rfl (by intro w hs; have q0 := (hs.below.cell (p := ⟨p14, 0, none⟩) hlt14).trans d0; have q1 := (hs.below.cell (p := ⟨p14, 1, none⟩) hlt14).trans d1; have q2 := (hs.below.cell (p := ⟨p14, 2, none⟩) hlt14).trans d2; go_simp; done) ?_
            simp only [Act.put, List.setIfInBounds_toArray, List.set_cons_zero, List.set_cons_succ]
            refine Seq.call rfl rfl rfl rfl (by kernel_rfl) (fun w h => HFX.out w) ?_
            simp only [Act.put, List.setIfInBounds_toArray, List.set_cons_zero, List.set_cons_succ]
            refine Seq.pure rfl rfl (by intro w; go_simp; try first | with_reducible rfl | rfl) ?_
            simp only [Act.put, List.setIfInBounds_toArray, List.set_cons_zero, List.set_cons_succ]
            refine Seq.pure rfl rfl (by intro w; go_simp; try first | with_reducible rfl | rfl) ?_
            simp only [Act.put, List.setIfInBounds_toArray, List.set_cons_zero, List.set_cons_succ]
            refine Seq.nw (by kernel_rfl) ?_
            simp only [Act.put, List.setIfInBounds_toArray, List.set_cons_zero, List.set_cons_succ]
            refine Seq.nw (by kernel_rfl) ?_
            simp only [Act.put, List.setIfInBounds_toArray, List.set_cons_zero, List.set_cons_succ]
            refine Seq.nw (by kernel_rfl) ?_
            simp only [Act.put, List.setIfInBounds_toArray, List.set_cons_zero, List.set_cons_succ]
            refine Seq.nw (by kernel_rfl) ?_
            simp only [Act.put, List.setIfInBounds_toArray, List.set_cons_zero, List.set_cons_succ]
            refine Seq.nw (by kernel_rfl) ?_
            simp only [Act.put, List.setIfInBounds_toArray, List.set_cons_zero, List.set_cons_succ]
            refine Seq.nw (by kernel_rfl) ?_
            simp only [Act.put, List.setIfInBounds_toArray, List.set_cons_zero, List.set_cons_succ]
            refine Seq.nw (by kernel_rfl) ?_
            simp only [Act.put, List.setIfInBounds_toArray, List.set_cons_zero, List.set_cons_succ]
            refine Seq.nw (by kernel_rfl) ?_
            simp only [Act.put, List.setIfInBounds_toArray, List.set_cons_zero, List.set_cons_succ]
            refine Seq.nw (by kernel_rfl) ?_
            simp only [Act.put, List.setIfInBounds_toArray, List.set_cons_zero, List.set_cons_succ]
            refine Seq.nw (by kernel_rfl) ?_
            simp only [Act.put, List.setIfInBounds_toArray, List.set_cons_zero, List.set_cons_succ]
            refine Seq.nw (by kernel_rfl) ?_
            simp only [Act.put, List.setIfInBounds_toArray, List.set_cons_zero, List.set_cons_succ]
            refine Seq.pure rfl rfl (by intro w; go_simp; try first | with_reducible rfl | rfl) ?_
            simp only [Act.put, List.setIfInBounds_toArray, List.set_cons_zero, List.set_cons_succ]
            refine Seq.pure rfl rfl (by intro w; go_simp; try first | with_reducible rfl | rfl) ?_
            simp only [Act.put, List.setIfInBounds_toArray, List.set_cons_zero, List.set_cons_succ]
            refine Seq.done fun wz hws => ?_
            have HBZ := Lib.hid hws.st.below
            clear hws
            go_wp2_with fail
            go_roundg (n - (j + 1))
            case measure => rw [HGK.out]; omega
            case rel => exact ⟨j+1, _, _, rfl, hlt, by go_num, HTW.out, ⟨rfl, rfl⟩, HRQ.out.next HBZ.out, Lib.hid ⟨fun h => (by cases h), fun h => absurd h HZZ.out⟩⟩
          | true =>
            rw [hok] at HFX
            rcases j with _ | q
            · have HZZ : Hid (∀ i, i < 0 + 1 → stpB la i = true) := Lib.hid (fun i hi => (by obtain rfl : i = 0 := (by omega); rw [stpB_0 HF.out, hok]))
              clear hok
              refine wp_seq [] (by kernel_rfl) (by kernel_rfl) Reg.fin_no (StR.no (St.start (W := wq))) ?_
              refine Seq.pure rfl rfl (by intro w; go_simp; try first | with_reducible rfl | rfl) ?_
              simp only [Act.put, List.setIfInBounds_toArray, List.set_cons_zero, List.set_cons_succ]
              refine Seq.pure rfl rfl (by intro w; go_simp; try first | with_reducible rfl | rfl) ?_
              simp only [Act.put, List.setIfInBounds_toArray, List.set_cons_zero, List.set_cons_succ]
              refine Seq.look (v := .agg #[.int .i64 xk, .int .i64 xa, .int .i64 xb]) rfl rfl (by intro w hs; have q0 := (hs.below.cell (p := ⟨p14, 0, none⟩) hlt14).trans d0; have q1 := (hs.below.cell (p := ⟨p14, 1, none⟩) hlt14).trans d1; have q2 := (hs.below.cell (p := ⟨p14, 2, none⟩) hlt14).trans d2; go_simp; done) ?_
              simp only [Act.put, List.setIfInBounds_toArray, List.set_cons_zero, List.set_cons_succ]
              refine Seq.call rfl rfl rfl rfl (by kernel_rfl) (fun w h => HFX.out w) ?_
              simp only [Act.put, List.setIfInBounds_toArray, List.set_cons_zero, List.set_cons_succ]
              refine Seq.pure rfl rfl (by intro w; go_simp; try first | with_reducible rfl | rfl) ?_
              simp only [Act.put, List.setIfInBounds_toArray, List.set_cons_zero, List.set_cons_succ]
              refine Seq.pure rfl rfl (by intro w; go_simp; try first | with_reducible rfl | rfl) ?_
              simp only [Act.put, List.setIfInBounds_toArray, List.set_cons_zero, List.set_cons_succ]
              refine Seq.pure rfl rfl (by intro w; go_simp; try first | with_reducible rfl | rfl) ?_
              simp only [Act.put, List.setIfInBounds_toArray, List.set_cons_zero, List.set_cons_succ]
              refine Seq.pure rfl rfl (by intro w; go_simp; try first | with_reducible rfl | rfl) ?_
              simp only [Act.put, List.setIfInBounds_toArray, List.set_cons_zero, List.set_cons_succ]
              refine Seq.pure rfl rfl (by intro w; go_simp; try first | with_reducible rfl | rfl) ?_
              simp only [Act.put, List.setIfInBounds_toArray, List.set_cons_zero, List.set_cons_succ]
              refine Seq.nw (by kernel_rfl) ?_
              simp only [Act.put, List.setIfInBounds_toArray, List.set_cons_zero, List.set_cons_succ]
              refine Seq.nw (by kernel_rfl) ?_
              simp only [Act.put, List.setIfInBounds_toArray, List.set_cons_zero, List.set_cons_succ]
              refine Seq.nw (by kernel_rfl) ?_
              simp only [Act.put, List.setIfInBounds_toArray, List.set_cons_zero, List.set_cons_succ]
              refine Seq.nw (by kernel_rfl) ?_
              simp only [Act.put, List.setIfInBounds_toArray, List.set_cons_zero, List.set_cons_succ]
              refine Seq.nw (by kernel_rfl) ?_
              simp only [Act.put, List.setIfInBounds_toArray, List.set_cons_zero, List.set_cons_succ]
              refine Seq.nw (by kernel_rfl) ?_
              simp only [Act.put, List.setIfInBounds_toArray, List.set_cons_zero, List.set_cons_succ]
              refine Seq.nw (by kernel_rfl) ?_
              simp only [Act.put, List.setIfInBounds_toArray, List.set_cons_zero, List.set_cons_succ]
              refine Seq.pure rfl rfl (by intro w; go_simp; try first | with_reducible rfl | rfl) ?_
              simp only [Act.put, List.setIfInBounds_toArray, List.set_cons_zero, List.set_cons_succ]
              refine Seq.pure rfl rfl (by intro w; go_simp; try first | with_reducible rfl | rfl) ?_
              simp only [Act.put, List.setIfInBounds_toArray, List.set_cons_zero, List.set_cons_succ]
              refine Seq.pure rfl rfl (by intro w; go_simp; try first | with_reducible rfl | rfl) ?_
              simp only [Act.put, List.setIfInBounds_toArray, List.set_cons_zero, List.set_cons_succ]
              refine Seq.done fun wz hws => ?_
              have HBZ := Lib.hid hws.st.below
              clear hws
              go_wp2_with fail
              go_roundg (n - (0 + 1))
              case measure => rw [HGK.out]; omega
              case rel => exact ⟨0+1, _, _, rfl, hlt, by go_num, HTW.out, ⟨rfl, rfl⟩, HRQ.out.next HBZ.out, Lib.hid ⟨fun _ => HZZ.out, fun _ => rfl⟩⟩
            · obtain ⟨⟨ek, ea, eb⟩, he⟩ := get_of_lt (k := q) HN.out (by omega)
              obtain ⟨b', off', hA', hb', e0', e1', e2'⟩ := HA.out.three he
              cases hA'
              dsimp only at e0' e1' e2'
              have hltb : b < wq.heap.size := Nat.lt_of_lt_of_le hb' HBW.out.size
              have e0 := (HBW.out.cell (p := ⟨b, off + q*3, none⟩) hb').trans e0'
              have e1 := (HBW.out.cell (p := ⟨b, off + q*3+1, none⟩) hb').trans e1'
              have e2 := (HBW.out.cell (p := ⟨b, off + q*3+2, none⟩) hb').trans e2'
              have HLX := Lib.hid (fun W => fless_any ⟨ek, ea, eb⟩ ⟨xk, xa, xb⟩ W)
              unfold valF at HLX
              dsimp only at HLX
              have HST := Lib.hid (stpB_s HF.out he)
              rw [hok, Bool.true_and, cmp_lt] at HST
              clear he hok e0' e1' e2'
              generalize decide (FLt ⟨ek, ea, eb⟩ ⟨xk, xa, xb⟩) = ls at *
              have hq1 := i64_w (q : Int) (by omega) (by omega)
              have i1 : (0 : Int) ≤ (q : Int) := by omega
              have i2 : (q : Int) < (n : Int) := by omega
              have i3 : ((q : Int) + 1 == 0) = false := by simp; omega
              have HZZ : Hid (ls = true ↔ ∀ i, i < q + 1 + 1 → stpB la i = true) := Lib.hid (by
                rw [← HST.out]
                exact ⟨fun h => forall_lt_succ HSTP.out h, fun h => h (q + 1) (by omega)⟩)
              refine wp_seq [] (by kernel_rfl) (by kernel_rfl) Reg.fin_no (StR.no (St.start (W := wq))) ?_
              refine Seq.pure rfl rfl (by intro w; go_simp; try first | with_reducible rfl | rfl) ?_
              simp only [Act.put, List.setIfInBounds_toArray, List.set_cons_zero, List.set_cons_succ]
              refine Seq.pure rfl rfl (by intro w; go_simp; try first | with_reducible rfl | rfl) ?_
              simp only [Act.put, List.setIfInBounds_toArray, List.set_cons_zero, List.set_cons_succ]
              refine Seq.look (v := .agg #[.int .i64 xk, .int .i64 xa, .int .i64 xb]) rfl rfl (by intro w hs; have q0 := (hs.below.cell (p := ⟨p14, 0, none⟩) hlt14).trans d0; have q1 := (hs.below.cell (p := ⟨p14, 1, none⟩) hlt14).trans d1; have q2 := (hs.below.cell (p := ⟨p14, 2, none⟩) hlt14).trans d2; go_simp; done) ?_
              simp only [Act.put, List.setIfInBounds_toArray, List.set_cons_zero, List.set_cons_succ]
              refine Seq.call rfl rfl rfl rfl (by kernel_rfl) (fun w h => HFX.out w) ?_
              simp only [Act.put, List.setIfInBounds_toArray, List.set_cons_zero, List.set_cons_succ]
              refine Seq.pure rfl rfl (by intro w; go_simp; try first | with_reducible rfl | rfl) ?_
              simp only [Act.put, List.setIfInBounds_toArray, List.set_cons_zero, List.set_cons_succ]
              refine Seq.pure rfl rfl (by intro w; go_simp; try first | with_reducible rfl | rfl) ?_
              simp only [Act.put, List.setIfInBounds_toArray, List.set_cons_zero, List.set_cons_succ]
              refine Seq.pure rfl rfl (by intro w; go_simp; try first | with_reducible rfl | rfl) ?_
              simp only [Act.put, List.setIfInBounds_toArray, List.set_cons_zero, List.set_cons_succ]
              refine Seq.pure rfl rfl (by intro w; go_simp; try first | with_reducible rfl | rfl) ?_
              simp only [Act.put, List.setIfInBounds_toArray, List.set_cons_zero, List.set_cons_succ]
              refine Seq.pure rfl rfl (by intro w; go_simp; try first | with_reducible rfl | rfl) ?_
              simp only [Act.put, List.setIfInBounds_toArray, List.set_cons_zero, List.set_cons_succ]
              refine Seq.pure rfl rfl (by intro w; go_simp; try first | with_reducible rfl | rfl) ?_
              simp only [Act.put, List.setIfInBounds_toArray, List.set_cons_zero, List.set_cons_succ]
              refine Seq.pure rfl rfl (by intro w; go_simp; try first | with_reducible rfl | rfl) ?_
              simp only [Act.put, List.setIfInBounds_toArray, List.set_cons_zero, List.set_cons_succ]
              refine Seq.pure rfl rfl (by intro w; go_simp; try first | with_reducible rfl | rfl) ?_
              simp only [Act.put, List.setIfInBounds_toArray, List.set_cons_zero, List.set_cons_succ]
              refine Seq.pure rfl rfl (by intro w; go_simp; try first | with_reducible rfl | rfl) ?_
              simp only [Act.put, List.setIfInBounds_toArray, List.set_cons_zero, List.set_cons_succ]
              refine Seq.look (v := .agg #[.int .i64 ek, .int .i64 ea, .int .i64 eb]) rfl rfl (by intro w hs; have q0 := (hs.below.cell (p := ⟨b, off + q*3, none⟩) hltb).trans e0; have q1 := (hs.below.cell (p := ⟨b, off + q*3+1, none⟩) hltb).trans e1; have q2 := (hs.below.cell (p := ⟨b, off + q*3+2, none⟩) hltb).trans e2; go_simp; done) ?_
              simp only [Act.put, List.setIfInBounds_toArray, List.set_cons_zero, List.set_cons_succ]
              refine Seq.look (v := .agg #[.int .i64 xk, .int .i64 xa, .int .i64 xb]) rfl rfl (by intro w hs; have q0 := (hs.below.cell (p := ⟨p14, 0, none⟩) hlt14).trans d0; have q1 := (hs.below.cell (p := ⟨p14, 1, none⟩) hlt14).trans d1; have q2 := (hs.below.cell (p := ⟨p14, 2, none⟩) hlt14).trans d2; go_simp; done) ?_
              simp only [Act.put, List.setIfInBounds_toArray, List.set_cons_zero, List.set_cons_succ]
              refine Seq.call rfl rfl rfl rfl (by kernel_rfl) (fun w h => HLX.out w) ?_
              simp only [Act.put, List.setIfInBounds_toArray, List.set_cons_zero, List.set_cons_succ]
              refine Seq.pure rfl rfl (by intro w; go_simp; try first | with_reducible rfl | rfl) ?_
              simp only [Act.put, List.setIfInBounds_toArray, List.set_cons_zero, List.set_cons_succ]
              refine Seq.pure rfl rfl (by intro w; go_simp; try first | with_reducible rfl | rfl) ?_
              simp only [Act.put, List.setIfInBounds_toArray, List.set_cons_zero, List.set_cons_succ]
              refine Seq.pure rfl rfl (by intro w; go_simp; try first | with_reducible rfl | rfl) ?_
              simp only [Act.put, List.setIfInBounds_toArray, List.set_cons_zero, List.set_cons_succ]
              refine Seq.done fun wz hws => ?_
              have HBZ := Lib.hid hws.st.below
              clear hws
              go_wp2_with fail
              go_roundg (n - (q + 1 + 1))
              case measure => rw [HGK.out]; omega
              case rel => exact ⟨q+1+1, _, _, rfl, hlt, by go_num, HTW.out, ⟨rfl, rfl⟩, HRQ.out.next HBZ.out, HZZ.out⟩
      | false =>
        have HM0 := Lib.hid hmem
        rw [hmem] at HCX
        clear hmem
        go_upto_region 6 with (fail)
        go_wp2_with fail
        refine (HCX.out _ HB4.out).mono ?_
        rintro e w5 ⟨rfl, hb5⟩
        have HR5 := Lib.hid (HR4.out.next hb5)
        have HD5 := Lib.hid (HD4.out.belowB hb5)
        have HS5 := hb5.size
        clear hb5 k0 k1 k2
        have k0 := HD5.out.cell 0
        have k1 := HD5.out.cell 1
        have k2 := HD5.out.cell 2
        simp at k0 k1 k2
        go_upto_region 9 with (at_builtin; refine wpList_append_oneG rfl _ _ _ rfl Try.underlying43 infoFt rfl rfl (HR5.out.row2 HN10.out) rfl rfl rfl (one_ft ⟨_, _, _⟩) (by omega) ?_; intro v' wq hR6 hb6 hg6)
        have HRQ : Hid (FRow2 w1 (.slice A9 n9 c9) v' ((la.take (j+1)).filter pb) ((la.take (j+1)).filter nb) wq) := Lib.hid (by
          rw [filtP_no HF.out (p := pb) (by rw [HPB.out]; exact HM0.out), filtP_yes HF.out (p := nb) (by rw [HNB.out, HM0.out]; rfl)]
          exact FRow2.add2 (x := ⟨xk, xa, xb⟩) HN10.out hR6)
        have HTW : Hid (false = ((la.take (j+1)).all pb)) := Lib.hid (by rw [all_take HF.out, HPB.out, HM0.out, Bool.and_false])
        have HDQ : Hid (Blk wq p14 45 #[.int .i64 xk, .int .i64 xa, .int .i64 xb]) := Lib.hid ((HD5.out.alloc _).grown hg6 (Ne.symm hne10))
        have HBW : Hid (Below w.heap.size w wq) := Lib.hid (HW1.out.trans (hb6.mono HW1.out.size))
        clear hR6 hb6 hg6 k0 k1 k2
        have hlt14 := HDQ.out.lt
        have d0 := HDQ.out.cell 0
        have d1 := HDQ.out.cell 1
        have d2 := HDQ.out.cell 2
        simp at d0 d1 d2

        cases z with
        | false =>
          have HZZ : Hid (¬ ∀ i, i < j + 1 → stpB la i = true) := Lib.hid (fun h => by have h9 := hz.out.2 (fun i hi => h i (by omega)); cases h9)
          refine wp_seq [] (by kernel_rfl) (by kernel_rfl) Reg.fin_no (StR.no (St.start (W := wq))) ?_
          refine Seq.pure rfl rfl (by intro w; go_simp; try first | with_reducible rfl | rfl) ?_
          simp only [Act.put, List.setIfInBounds_toArray, List.set_cons_zero, List.set_cons_succ]
          refine Seq.pure rfl rfl (by intro w; go_simp; try first | with_reducible rfl | rfl) ?_
          simp only [Act.put, List.setIfInBounds_toArray, List.set_cons_zero, List.set_cons_succ]
          refine Seq.nw (by kernel_rfl) ?_
          simp only [Act.put, List.setIfInBounds_toArray, List.set_cons_zero, List.set_cons_succ]
          refine Seq.nw (by kernel_rfl) ?_
          simp only [Act.put, List.setIfInBounds_toArray, List.set_cons_zero, List.set_cons_succ]
          refine Seq.pure rfl rfl (by intro w; go_simp; try first | with_reducible rfl | rfl) ?_
          simp only [Act.put, List.setIfInBounds_toArray, List.set_cons_zero, List.set_cons_succ]
          refine Seq.pure rfl rfl (by intro w; go_simp; try first | with_reducible rfl | rfl) ?_
          simp only [Act.put, List.setIfInBounds_toArray, List.set_cons_zero, List.set_cons_succ]
          refine Seq.nw (by kernel_rfl) ?_
          simp only [Act.put, List.setIfInBounds_toArray, List.set_cons_zero, List.set_cons_succ]
          refine Seq.nw (by kernel_rfl) ?_
          simp only [Act.put, List.setIfInBounds_toArray, List.set_cons_zero, List.set_cons_succ]
          refine Seq.nw (by kernel_rfl) ?_
          simp only [Act.put, List.setIfInBounds_toArray, List.set_cons_zero, List.set_cons_succ]
          refine Seq.nw (by kernel_rfl) ?_
          simp only [Act.put, List.setIfInBounds_toArray, List.set_cons_zero, List.set_cons_succ]
          refine Seq.nw (by kernel_rfl) ?_
          simp only [Act.put, List.setIfInBounds_toArray, List.set_cons_zero, List.set_cons_succ]
          refine Seq.nw (by kernel_rfl) ?_
          simp only [Act.put, List.setIfInBounds_toArray, List.set_cons_zero, List.set_cons_succ]
          refine Seq.nw (by kernel_rfl) ?_
          simp only [Act.put, List.setIfInBounds_toArray, List.set_cons_zero, List.set_cons_succ]
          refine Seq.nw (by kernel_rfl) ?_
          simp only [Act.put, List.setIfInBounds_toArray, List.set_cons_zero, List.set_cons_succ]
          refine Seq.nw (by kernel_rfl) ?_
          simp only [Act.put, List.setIfInBounds_toArray, List.set_cons_zero, List.set_cons_succ]
          refine Seq.nw (by kernel_rfl) ?_
          simp only [Act.put, List.setIfInBounds_toArray, List.set_cons_zero, List.set_cons_succ]
          refine Seq.nw (by kernel_rfl) ?_
          simp only [Act.put, List.setIfInBounds_toArray, List.set_cons_zero, List.set_cons_succ]
          refine Seq.pure rfl rfl (by intro w; go_simp; try first | with_reducible rfl | rfl) ?_
          simp only [Act.put, List.setIfInBounds_toArray, List.set_cons_zero, List.set_cons_succ]
          refine Seq.pure rfl rfl (by intro w; go_simp; try first | with_reducible rfl | rfl) ?_
          simp only [Act.put, List.setIfInBounds_toArray, List.set_cons_zero, List.set_cons_succ]
          refine Seq.done fun wz hws => ?_
          have HBZ := Lib.hid hws.st.below
          clear hws
          go_wp2_with fail
          go_roundg (n - (j + 1))
          case measure => rw [HGK.out]; omega
          case rel => exact ⟨j+1, _, _, rfl, hlt, by go_num, HTW.out, ⟨rfl, rfl⟩, HRQ.out.next HBZ.out, Lib.hid ⟨fun h => (by cases h), fun h => absurd h HZZ.out⟩⟩
        | true =>
          have hstp := hz.out.1 rfl
          have HSTP := Lib.hid hstp
          clear hstp
          cases hok : okF ⟨xk, xa, xb⟩ with
          | false =>
            rw [hok] at HFX
            have HZZ : Hid (¬ ∀ i, i < j + 1 → stpB la i = true) := Lib.hid (fun h => by
              have h1 := stpB_ok (h j (Nat.lt_succ_self j)) HF.out
              rw [hok] at h1; cases h1)
            clear hok
            refine wp_seq [] (by kernel_rfl) (by kernel_rfl) Reg.fin_no (StR.no (St.start (W := wq))) ?_
            refine Seq.pure rfl rfl (by intro w; go_simp; try first | with_reducible rfl | rfl) ?_
            simp only [Act.put, List.setIfInBounds_toArray, List.set_cons_zero, List.set_cons_succ]
            refine Seq.pure rfl rfl (by intro w; go_simp; try first | with_reducible rfl | rfl) ?_
            simp only [Act.put, List.setIfInBounds_toArray, List.set_cons_zero, List.set_cons_succ]
            refine Seq.look (v := .agg #[.int .i64 xk, .int .i64 xa, .int .i64 xb]) rfl rfl (by intro w hs; have q0 := (hs.below.cell (p := ⟨p14, 0, none⟩) hlt14).trans d0; have q1 := (hs.below.cell (p := ⟨p14, 1, none⟩) hlt14).trans d1; have q2 := (hs.below.cell (p := ⟨p14, 2, none⟩) hlt14).trans d2; go_simp; done) ?_
            simp only [Act.put, List.setIfInBounds_toArray, List.set_cons_zero, List.set_cons_succ]
            refine Seq.call rfl rfl rfl rfl (by kernel_rfl) (fun w h => HFX.out w) ?_
            simp only [Act.put, List.setIfInBounds_toArray, List.set_cons_zero, List.set_cons_succ]
            refine Seq.pure rfl rfl (by intro w; go_simp; try first | with_reducible rfl | rfl) ?_
            simp only [Act.put, List.setIfInBounds_toArray, List.set_cons_zero, List.set_cons_succ]
            refine Seq.pure rfl rfl (by intro w; go_simp; try first | with_reducible rfl | rfl) ?_
            simp only [Act.put, List.setIfInBounds_toArray, List.set_cons_zero, List.set_cons_succ]
            refine Seq.nw (by kernel_rfl) ?_
            simp only [Act.put, List.setIfInBounds_toArray, List.set_cons_zero, List.set_cons_succ]
            refine Seq.nw (by kernel_rfl) ?_
            simp only [Act.put, List.setIfInBounds_toArray, List.set_cons_zero, List.set_cons_succ]
            refine Seq.nw (by kernel_rfl) ?_
            simp only [Act.put, List.setIfInBounds_toArray, List.set_cons_zero, List.set_cons_succ]
            refine Seq.nw (by kernel_rfl) ?_
            simp only [Act.put, List.setIfInBounds_toArray, List.set_cons_zero, List.set_cons_succ]
            refine Seq.nw (by kernel_rfl) ?_
            simp only [Act.put, List.setIfInBounds_toArray, List.set_cons_zero, List.set_cons_succ]
            refine Seq.nw (by kernel_rfl) ?_
            simp only [Act.put, List.setIfInBounds_toArray, List.set_cons_zero, List.set_cons_succ]
            refine Seq.nw (by kernel_rfl) ?_
            simp only [Act.put, List.setIfInBounds_toArray, List.set_cons_zero, List.set_cons_succ]
            refine Seq.nw (by kernel_rfl) ?_
            simp only [Act.put, List.setIfInBounds_toArray, List.set_cons_zero, List.set_cons_succ]
            refine Seq.nw (by kernel_rfl) ?_
            simp only [Act.put, List.setIfInBounds_toArray, List.set_cons_zero, List.set_cons_succ]
            refine Seq.nw (by kernel_rfl) ?_
            simp only [Act.put, List.setIfInBounds_toArray, List.set_cons_zero, List.set_cons_succ]
            refine Seq.nw (by kernel_rfl) ?_
            simp only [Act.put, List.setIfInBounds_toArray, List.set_cons_zero, List.set_cons_succ]
            refine Seq.pure rfl rfl (by intro w; go_simp; try first | with_reducible rfl | rfl) ?_
            simp only [Act.put, List.setIfInBounds_toArray, List.set_cons_zero, List.set_cons_succ]
            refine Seq.pure rfl rfl (by intro w; go_simp; try first | with_reducible rfl | rfl) ?_
            simp only [Act.put, List.setIfInBounds_toArray, List.set_cons_zero, List.set_cons_succ]
            refine Seq.done fun wz hws => ?_
            have HBZ := Lib.hid hws.st.below
            clear hws
            go_wp2_with fail
            go_roundg (n - (j + 1))
            case measure => rw [HGK.out]; omega
            case rel => exact ⟨j+1, _, _, rfl, hlt, by go_num, HTW.out, ⟨rfl, rfl⟩, HRQ.out.next HBZ.out, Lib.hid ⟨fun h => (by cases h), fun h => absurd h HZZ.out⟩⟩
          | true =>
            rw [hok] at HFX
            rcases j with _ | q
            · have HZZ : Hid (∀ i, i < 0 + 1 → stpB la i = true) := Lib.hid (fun i hi => (by obtain rfl : i = 0 := (by omega); rw [stpB_0 HF.out, hok]))
              clear hok
              refine wp_seq [] (by kernel_rfl) (by kernel_rfl) Reg.fin_no (StR.no (St.start (W := wq))) ?_
              refine Seq.pure rfl rfl (by intro w; go_simp; try first | with_reducible rfl | rfl) ?_
              simp only [Act.put, List.setIfInBounds_toArray, List.set_cons_zero, List.set_cons_succ]
              refine Seq.pure rfl rfl (by intro w; go_simp; try first | with_reducible rfl | rfl) ?_
              simp only [Act.put, List.setIfInBounds_toArray, List.set_cons_zero, List.set_cons_succ]
              refine Seq.look (v := .agg #[.int .i64 xk, .int .i64 xa, .int .i64 xb]) rfl rfl (by intro w hs; have q0 := (hs.below.cell (p := ⟨p14, 0, none⟩) hlt14).trans d0; have q1 := (hs.below.cell (p := ⟨p14, 1, none⟩) hlt14).trans d1; have q2 := (hs.below.cell (p := ⟨p14, 2, none⟩) hlt14).trans d2; go_simp; done) ?_
              simp only [Act.put, List.setIfInBounds_toArray, List.set_cons_zero, List.set_cons_succ]
              refine Seq.call rfl rfl rfl rfl (by kernel_rfl) (fun w h => HFX.out w) ?_
              simp only [Act.put, List.setIfInBounds_toArray, List.set_cons_zero, List.set_cons_succ]
              refine Seq.pure rfl rfl (by intro w; go_simp; try first | with_reducible rfl | rfl) ?_
              simp only [Act.put, List.setIfInBounds_toArray, List.set_cons_zero, List.set_cons_succ]
              refine Seq.pure rfl rfl (by intro w; go_simp; try first | with_reducible rfl | rfl) ?_
              simp only [Act.put, List.setIfInBounds_toArray, List.set_cons_zero, List.set_cons_succ]
              refine Seq.pure rfl rfl (by intro w; go_simp; try first | with_reducible rfl | rfl) ?_
              simp only [Act.put, List.setIfInBounds_toArray, List.set_cons_zero, List.set_cons_succ]
              refine Seq.pure rfl rfl (by intro w; go_simp; try first | with_reducible rfl | rfl) ?_
              simp only [Act.put, List.setIfInBounds_toArray, List.set_cons_zero, List.set_cons_succ]
              refine Seq.pure rfl rfl (by intro w; go_simp; try first | with_reducible rfl | rfl) ?_
              simp only [Act.put, List.setIfInBounds_toArray, List.set_cons_zero, List.set_cons_succ]
              refine Seq.nw (by kernel_rfl) ?_
              simp only [Act.put, List.setIfInBounds_toArray, List.set_cons_zero, List.set_cons_succ]
              refine Seq.nw (by kernel_rfl) ?_
              simp only [Act.put, List.setIfInBounds_toArray, List.set_cons_zero, List.set_cons_succ]
              refine Seq.nw (by kernel_rfl) ?_
              simp only [Act.put, List.setIfInBounds_toArray, List.set_cons_zero, List.set_cons_succ]
              refine Seq.nw (by kernel_rfl) ?_
              simp only [Act.put, List.setIfInBounds_toArray, List.set_cons_zero, List.set_cons_succ]
              refine Seq.nw (by kernel_rfl) ?_
              simp only [Act.put, List.setIfInBounds_toArray, List.set_cons_zero, List.set_cons_succ]
              refine Seq.nw (by kernel_rfl) ?_
              simp only [Act.put, List.setIfInBounds_toArray, List.set_cons_zero, List.set_cons_succ]
              refine Seq.nw (by kernel_rfl) ?_
              simp only [Act.put, List.setIfInBounds_toArray, List.set_cons_zero, List.set_cons_succ]
              refine Seq.pure rfl rfl (by intro w; go_simp; try first | with_reducible rfl | rfl) ?_
              simp only [Act.put, List.setIfInBounds_toArray, List.set_cons_zero, List.set_cons_succ]
              refine Seq.pure rfl rfl (by intro w; go_simp; try first | with_reducible rfl | rfl) ?_
              simp only [Act.put, List.setIfInBounds_toArray, List.set_cons_zero, List.set_cons_succ]
              refine Seq.pure rfl rfl (by intro w; go_simp; try first | with_reducible rfl | rfl) ?_
              simp only [Act.put, List.setIfInBounds_toArray, List.set_cons_zero, List.set_cons_succ]
              refine Seq.done fun wz hws => ?_
              have HBZ := Lib.hid hws.st.below
              clear hws
              go_wp2_with fail
              go_roundg (n - (0 + 1))
              case measure => rw [HGK.out]; omega
              case rel => exact ⟨0+1, _, _, rfl, hlt, by go_num, HTW.out, ⟨rfl, rfl⟩, HRQ.out.next HBZ.out, Lib.hid ⟨fun _ => HZZ.out, fun _ => rfl⟩⟩
            · obtain ⟨⟨ek, ea, eb⟩, he⟩ := get_of_lt (k := q) HN.out (by omega)
              obtain ⟨b', off', hA', hb', e0', e1', e2'⟩ := HA.out.three he
              cases hA'
              dsimp only at e0' e1' e2'
              have hltb : b < wq.heap.size := Nat.lt_of_lt_of_le hb' HBW.out.size
              have e0 := (HBW.out.cell (p := ⟨b, off + q*3, none⟩) hb').trans e0'
              have e1 := (HBW.out.cell (p := ⟨b, off + q*3+1, none⟩) hb').trans e1'
              have e2 := (HBW.out.cell (p := ⟨b, off + q*3+2, none⟩) hb').trans e2'
              have HLX := Lib.hid (fun W => fless_any ⟨ek, ea, eb⟩ ⟨xk, xa, xb⟩ W)
              unfold valF at HLX
              dsimp only at HLX
              have HST := Lib.hid (stpB_s HF.out he)
              rw [hok, Bool.true_and, cmp_lt] at HST
              clear he hok e0' e1' e2'
              generalize decide (FLt ⟨ek, ea, eb⟩ ⟨xk, xa, xb⟩) = ls at *
              have hq1 := i64_w (q : Int) (by omega) (by omega)
              have i1 : (0 : Int) ≤ (q : Int) := by omega
              have i2 : (q : Int) < (n : Int) := by omega
              have i3 : ((q : Int) + 1 == 0) = false := by simp; omega
              have HZZ : Hid (ls = true ↔ ∀ i, i < q + 1 + 1 → stpB la i = true) := Lib.hid (by
                rw [← HST.out]
                exact ⟨fun h => forall_lt_succ HSTP.out h, fun h => h (q + 1) (by omega)⟩)
              refine wp_seq [] (by kernel_rfl) (by kernel_rfl) Reg.fin_no (StR.no (St.start (W := wq))) ?_
              refine Seq.pure rfl rfl (by intro w; go_simp; try first | with_reducible rfl | rfl) ?_
              simp only [Act.put, List.setIfInBounds_toArray, List.set_cons_zero, List.set_cons_succ]
              refine Seq.pure rfl rfl (by intro w; go_simp; try first | with_reducible rfl | rfl) ?_
              simp only [Act.put, List.setIfInBounds_toArray, List.set_cons_zero, List.set_cons_succ]
              refine Seq.look (v := .agg #[.int .i64 xk, .int .i64 xa, .int .i64 xb]) rfl rfl (by intro w hs; have q0 := (hs.below.cell (p := ⟨p14, 0, none⟩) hlt14).trans d0; have q1 := (hs.below.cell (p := ⟨p14, 1, none⟩) hlt14).trans d1; have q2 := (hs.below.cell (p := ⟨p14, 2, none⟩) hlt14).trans d2; go_simp; done) ?_
              simp only [Act.put, List.setIfInBounds_toArray, List.set_cons_zero, List.set_cons_succ]
              refine Seq.call rfl rfl rfl rfl (by kernel_rfl) (fun w h => HFX.out w) ?_
              simp only [Act.put, List.setIfInBounds_toArray, List.set_cons_zero, List.set_cons_succ]
              refine Seq.pure rfl rfl (by intro w; go_simp; try first | with_reducible rfl | rfl) ?_
              simp only [Act.put, List.setIfInBounds_toArray, List.set_cons_zero, List.set_cons_succ]
              refine Seq.pure rfl rfl (by intro w; go_simp; try first | with_reducible rfl | rfl) ?_
              simp only [Act.put, List.setIfInBounds_toArray, List.set_cons_zero, List.set_cons_succ]
              refine Seq.pure rfl rfl (by intro w; go_simp; try first | with_reducible rfl | rfl) ?_
              simp only [Act.put, List.setIfInBounds_toArray, List.set_cons_zero, List.set_cons_succ]
              refine Seq.pure rfl rfl (by intro w; go_simp; try first | with_reducible rfl | rfl) ?_
              simp only [Act.put, List.setIfInBounds_toArray, List.set_cons_zero, List.set_cons_succ]
              refine Seq.pure rfl rfl (by intro w; go_simp; try first | with_reducible rfl | rfl) ?_
              simp only [Act.put, List.setIfInBounds_toArray, List.set_cons_zero, List.set_cons_succ]
              refine Seq.pure rfl rfl (by intro w; go_simp; try first | with_reducible rfl | rfl) ?_
              simp only [Act.put, List.setIfInBounds_toArray, List.set_cons_zero, List.set_cons_succ]
              refine Seq.pure rfl rfl (by intro w; go_simp; try first | with_reducible rfl | rfl) ?_
              simp only [Act.put, List.setIfInBounds_toArray, List.set_cons_zero, List.set_cons_succ]
              refine Seq.pure rfl rfl (by intro w; go_simp; try first | with_reducible rfl | rfl) ?_
              simp only [Act.put, List.setIfInBounds_toArray, List.set_cons_zero, List.set_cons_succ]
              refine Seq.pure rfl rfl (by intro w; go_simp; try first | with_reducible rfl | rfl) ?_
              simp only [Act.put, List.setIfInBounds_toArray, List.set_cons_zero, List.set_cons_succ]
              refine Seq.look (v := .agg #[.int .i64 ek, .int .i64 ea, .int .i64 eb]) rfl rfl (by intro w hs; have q0 := (hs.below.cell (p := ⟨b, off + q*3, none⟩) hltb).trans e0; have q1 := (hs.below.cell (p := ⟨b, off + q*3+1, none⟩) hltb).trans e1; have q2 := (hs.below.cell (p := ⟨b, off + q*3+2, none⟩) hltb).trans e2; go_simp; done) ?_
              simp only [Act.put, List.setIfInBounds_toArray, List.set_cons_zero, List.set_cons_succ]
              refine Seq.look (v := .agg #[.int .i64 xk, .int .i64 xa, .int .i64 xb]) rfl rfl (by intro w hs; have q0 := (hs.below.cell (p := ⟨p14, 0, none⟩) hlt14).trans d0; have q1 := (hs.below.cell (p := ⟨p14, 1, none⟩) hlt14).trans d1; have q2 := (hs.below.cell (p := ⟨p14, 2, none⟩) hlt14).trans d2; go_simp; done) ?_
              simp only [Act.put, List.setIfInBounds_toArray, List.set_cons_zero, List.set_cons_succ]
              refine Seq.call rfl rfl rfl rfl (by kernel_rfl) (fun w h => HLX.out w) ?_
              simp only [Act.put, List.setIfInBounds_toArray, List.set_cons_zero, List.set_cons_succ]
              refine Seq.pure rfl rfl (by intro w; go_simp; try first | with_reducible rfl | rfl) ?_
              simp only [Act.put, List.setIfInBounds_toArray, List.set_cons_zero, List.set_cons_succ]
              refine Seq.pure rfl rfl (by intro w; go_simp; try first | with_reducible rfl | rfl) ?_
              simp only [Act.put, List.setIfInBounds_toArray, List.set_cons_zero, List.set_cons_succ]
              refine Seq.pure rfl rfl (by intro w; go_simp; try first | with_reducible rfl | rfl) ?_
              simp only [Act.put, List.setIfInBounds_toArray, List.set_cons_zero, List.set_cons_succ]
              refine Seq.done fun wz hws => ?_
              have HBZ := Lib.hid hws.st.below
              clear hws
              go_wp2_with fail
              go_roundg (n - (q + 1 + 1))
              case measure => rw [HGK.out]; omega
              case rel => exact ⟨q+1+1, _, _, rfl, hlt, by go_num, HTW.out, ⟨rfl, rfl⟩, HRQ.out.next HBZ.out, HZZ.out⟩
    · obtain rfl : j = n := by omega
      have HZE : Hid (isSetB la = z) := Lib.hid (by
        cases z with
        | true => exact isSet_yes (fun i hi => hz.out.1 rfl i (by rw [HN.out]; exact hi))
        | false =>
          cases h9 : isSetB la with
          | false => rfl
          | true =>
            have h8 := hz.out.2 (fun i hi => by
              have h7 := List.all_eq_true.1 h9 i (by simpa using (by rw [← HN.out]; exact hi))
              exact h7)
            cases h8)
      have htk : la.take j = la := by rw [HN.out, List.take_length]
      rw [htk] at HF9 HF10 hl9 hl10 HWI hrow hc9 hc10
      rw [htk]
      clear htk
      have HBO : Hid (la.filter pb = la.filter fun x => decide (x ∈ lb)) := Lib.hid (by rw [HPB0.out])
      have HLE : Hid (la.filter nb = la.filter fun x => !decide (x ∈ lb)) := Lib.hid (by rw [HNB0.out])
      have HWL : Hid ((la.all fun x => decide (x ∈ lb)) = wi) := Lib.hid (by rw [HWI.out, HPB0.out])
      have HX4 : Hid (Blk wr w.heap.size 45 #[.int .i64 fk, .int .i64 fa, .int .i64 fb]) := Lib.hid (HX1.out.belowB hrow.out.bel)
      clear hrow hz HWI
      generalize la.filter pb = bo at *
      generalize la.filter nb = le at *
      generalize hq9 : bo.length = n9 at *
      generalize hq10 : le.length = n10 at *
      have HB9 := Lib.hid hq9.symm; clear hq9
      have HL10 := Lib.hid hq10.symm; clear hq10
      have HCP := Lib.hid (fun W (g : Ft) => cmpF_any ⟨fk, fa, fb⟩ g W)
      have HL1 := Lib.hid (fun W (g : Ft) => fless_any ⟨fk, fa, fb⟩ g W)
      have HL2 := Lib.hid (fun W (g : Ft) => fless_any g ⟨fk, fa, fb⟩ W)
      unfold valF at HCP HL1 HL2
      dsimp only at HCP HL1 HL2
      obtain ⟨r, hr0, hmin⟩ : ∃ r : Nat, ((r = 0 ∧ j = 0) ∨ (r = 1 ∧ 0 < j)) ∧ min (j : Int) 1 = (r : Int) := by
        rcases Nat.eq_zero_or_pos j with h | h
        · exact ⟨0, .inl ⟨rfl, h⟩, by omega⟩
        · exact ⟨1, .inr ⟨rfl, h⟩, by omega⟩
      have HR := Lib.hid hr0
      have hr1 : (0 : Int) ≤ (r : Int) := by omega
      have hr2 : (r : Int) ≤ (ca : Int) := by omega
      clear hr0
      go_wp2_with fail
      go_loopg [15, 61] r (fun kx s15 i wi' => ∃ q : Nat, kx = r - q ∧ q ≤ r ∧ i = .int .i64 q ∧ Hid (Below wr.heap.size wr wi') ∧ Hid (q = 0 → s15 = .int .i64 0))
      case atStart => exact ⟨0, by omega, Nat.zero_le _, rfl, Below.refl _ _, Lib.hid (fun _ => rfl)⟩
      case round =>
        obtain ⟨q, hgk2, hq, rfl, hbe, h15⟩ := hrel
        have HGK2 := Lib.hid hgk2; clear hgk2
        by_cases hlt : q < r
        · obtain ⟨hq0, hr9⟩ : q = 0 ∧ r = 1 := by rcases HR.out with h | h <;> omega
          have h15' := h15.out hq0
          subst h15'
          subst hq0 hr9
          clear h15
          obtain ⟨⟨ek, ea, eb⟩, he⟩ := get_of_lt (k := 0) HN.out (by rcases HR.out with h | h <;> omega)
          obtain ⟨b, off, rfl, hb, h0, h1, h2⟩ := HA.out.three he
          have g0 := (hbe.out.cell (p := ⟨b, off + 0*3, none⟩) (Nat.lt_of_lt_of_le hb HB0.out.size)).trans ((HB0.out.cell (p := ⟨b, off + 0*3, none⟩) hb).trans h0)
          have g1 := (hbe.out.cell (p := ⟨b, off + 0*3+1, none⟩) (Nat.lt_of_lt_of_le hb HB0.out.size)).trans ((HB0.out.cell (p := ⟨b, off + 0*3+1, none⟩) hb).trans h1)
          have g2 := (hbe.out.cell (p := ⟨b, off + 0*3+2, none⟩) (Nat.lt_of_lt_of_le hb HB0.out.size)).trans ((HB0.out.cell (p := ⟨b, off + 0*3+2, none⟩) hb).trans h2)
          dsimp only at g0 g1 g2
          simp at g0 g1 g2
          clear h0 h1 h2 he
          have HC0 := Lib.hid (fun W => HCP.out W ⟨ek, ea, eb⟩)
          have HC1 := Lib.hid (fun W => HL1.out W ⟨ek, ea, eb⟩)
          have HC2 := Lib.hid (fun W => HL2.out W ⟨ek, ea, eb⟩)
          dsimp only at HC0 HC1 HC2
          go_upto_region 15 with (fail)
          clear g0 g1 g2
          have HBX := Lib.hid (two_more HX4.out hbe.out #[.int .i64 ek, .int .i64 ea, .int .i64 eb])
          have HCC : Hid ((FLt ⟨fk, fa, fb⟩ ⟨ek, ea, eb⟩ ∧ cmpF ⟨fk, fa, fb⟩ ⟨ek, ea, eb⟩ = -1) ∨ ((⟨fk, fa, fb⟩ : Ft) = ⟨ek, ea, eb⟩ ∧ cmpF ⟨fk, fa, fb⟩ ⟨ek, ea, eb⟩ = 0) ∨ (FLt ⟨ek, ea, eb⟩ ⟨fk, fa, fb⟩ ∧ cmpF ⟨fk, fa, fb⟩ ⟨ek, ea, eb⟩ = 1)) := Lib.hid (cmpF_cases _ _)
          rcases HCC.out with ⟨h, e⟩ | ⟨h, e⟩ | ⟨h, e⟩
          · have hn2 : ¬ FLt ⟨ek, ea, eb⟩ ⟨fk, fa, fb⟩ := fun h2 => flt_irrefl _ (flt_trans h h2)
            rw [decide_eq_true h] at HC1
            rw [decide_eq_false hn2] at HC2
            rw [e] at HC0
            clear h e hn2
            have k0 := HBX.out.1.cell 0
            have k1 := HBX.out.1.cell 1
            have k2 := HBX.out.1.cell 2
            have l0 := HBX.out.2.1.cell 0
            have l1 := HBX.out.2.1.cell 1
            have l2 := HBX.out.2.1.cell 2
            simp at k0 k1 k2 l0 l1 l2
            go_wp2_with fail
            clear k0 k1 k2 l0 l1 l2
            refine (HC1.out _).mono ?_
            rintro e w0 ⟨rfl, hb0⟩
            have HBX0 := Lib.hid (two_next HBX.out hb0)
            clear hb0
            have k0 := HBX0.out.1.cell 0
            have k1 := HBX0.out.1.cell 1
            have k2 := HBX0.out.1.cell 2
            have l0 := HBX0.out.2.1.cell 0
            have l1 := HBX0.out.2.1.cell 1
            have l2 := HBX0.out.2.1.cell 2
            simp at k0 k1 k2 l0 l1 l2
            go_wp2_with fail
            clear k0 k1 k2 l0 l1 l2
            refine (HC2.out _).mono ?_
            rintro e w1 ⟨rfl, hb1⟩
            have HBX1 := Lib.hid (two_next HBX0.out hb1)
            clear hb1
            have k0 := HBX1.out.1.cell 0
            have k1 := HBX1.out.1.cell 1
            have k2 := HBX1.out.1.cell 2
            have l0 := HBX1.out.2.1.cell 0
            have l1 := HBX1.out.2.1.cell 1
            have l2 := HBX1.out.2.1.cell 2
            simp at k0 k1 k2 l0 l1 l2
            go_wp2_with fail
            clear k0 k1 k2 l0 l1 l2
            refine (HC0.out _).mono ?_
            rintro e w2 ⟨rfl, hb2⟩
            have HBX2 := Lib.hid (two_next HBX1.out hb2)
            clear hb2
            go_wp2_with fail
            go_roundg 0
            case measure => rw [HGK2.out]; decide
            case rel => exact ⟨1, rfl, Nat.le_refl _, by go_num, HBX2.out.2.2, Lib.hid (fun h => (by cases h))⟩
          · have hn1 : ¬ FLt ⟨fk, fa, fb⟩ ⟨ek, ea, eb⟩ := fun h2 => by rw [h] at h2; exact flt_irrefl _ h2
            have hn2 : ¬ FLt ⟨ek, ea, eb⟩ ⟨fk, fa, fb⟩ := fun h2 => by rw [h] at h2; exact flt_irrefl _ h2
            rw [decide_eq_false hn1] at HC1
            rw [decide_eq_false hn2] at HC2
            rw [e] at HC0
            clear h e hn1 hn2
            have k0 := HBX.out.1.cell 0
            have k1 := HBX.out.1.cell 1
            have k2 := HBX.out.1.cell 2
            have l0 := HBX.out.2.1.cell 0
            have l1 := HBX.out.2.1.cell 1
            have l2 := HBX.out.2.1.cell 2
            simp at k0 k1 k2 l0 l1 l2
            go_wp2_with fail
            clear k0 k1 k2 l0 l1 l2
            refine (HC1.out _).mono ?_
            rintro e w0 ⟨rfl, hb0⟩
            have HBX0 := Lib.hid (two_next HBX.out hb0)
            clear hb0
            have k0 := HBX0.out.1.cell 0
            have k1 := HBX0.out.1.cell 1
            have k2 := HBX0.out.1.cell 2
            have l0 := HBX0.out.2.1.cell 0
            have l1 := HBX0.out.2.1.cell 1
            have l2 := HBX0.out.2.1.cell 2
            simp at k0 k1 k2 l0 l1 l2
            go_wp2_with fail
            clear k0 k1 k2 l0 l1 l2
            refine (HC2.out _).mono ?_
            rintro e w1 ⟨rfl, hb1⟩
            have HBX1 := Lib.hid (two_next HBX0.out hb1)
            clear hb1
            have k0 := HBX1.out.1.cell 0
            have k1 := HBX1.out.1.cell 1
            have k2 := HBX1.out.1.cell 2
            have l0 := HBX1.out.2.1.cell 0
            have l1 := HBX1.out.2.1.cell 1
            have l2 := HBX1.out.2.1.cell 2
            simp at k0 k1 k2 l0 l1 l2
            go_wp2_with fail
            clear k0 k1 k2 l0 l1 l2
            refine (HC0.out _).mono ?_
            rintro e w2 ⟨rfl, hb2⟩
            have HBX2 := Lib.hid (two_next HBX1.out hb2)
            clear hb2
            go_wp2_with fail
            go_roundg 0
            case measure => rw [HGK2.out]; decide
            case rel => exact ⟨1, rfl, Nat.le_refl _, by go_num, HBX2.out.2.2, Lib.hid (fun h => (by cases h))⟩
          · have hn1 : ¬ FLt ⟨fk, fa, fb⟩ ⟨ek, ea, eb⟩ := fun h2 => flt_irrefl _ (flt_trans h h2)
            rw [decide_eq_false hn1] at HC1
            rw [decide_eq_true h] at HC2
            rw [e] at HC0
            clear h e hn1
            have k0 := HBX.out.1.cell 0
            have k1 := HBX.out.1.cell 1
            have k2 := HBX.out.1.cell 2
            have l0 := HBX.out.2.1.cell 0
            have l1 := HBX.out.2.1.cell 1
            have l2 := HBX.out.2.1.cell 2
            simp at k0 k1 k2 l0 l1 l2
            go_wp2_with fail
            clear k0 k1 k2 l0 l1 l2
            refine (HC1.out _).mono ?_
            rintro e w0 ⟨rfl, hb0⟩
            have HBX0 := Lib.hid (two_next HBX.out hb0)
            clear hb0
            have k0 := HBX0.out.1.cell 0
            have k1 := HBX0.out.1.cell 1
            have k2 := HBX0.out.1.cell 2
            have l0 := HBX0.out.2.1.cell 0
            have l1 := HBX0.out.2.1.cell 1
            have l2 := HBX0.out.2.1.cell 2
            simp at k0 k1 k2 l0 l1 l2
            go_wp2_with fail
            clear k0 k1 k2 l0 l1 l2
            refine (HC2.out _).mono ?_
            rintro e w1 ⟨rfl, hb1⟩
            have HBX1 := Lib.hid (two_next HBX0.out hb1)
            clear hb1
            have k0 := HBX1.out.1.cell 0
            have k1 := HBX1.out.1.cell 1
            have k2 := HBX1.out.1.cell 2
            have l0 := HBX1.out.2.1.cell 0
            have l1 := HBX1.out.2.1.cell 1
            have l2 := HBX1.out.2.1.cell 2
            simp at k0 k1 k2 l0 l1 l2
            go_wp2_with fail
            clear k0 k1 k2 l0 l1 l2
            refine (HC0.out _).mono ?_
            rintro e w2 ⟨rfl, hb2⟩
            have HBX2 := Lib.hid (two_next HBX1.out hb2)
            clear hb2
            go_wp2_with fail
            go_roundg 0
            case measure => rw [HGK2.out]; decide
            case rel => exact ⟨1, rfl, Nat.le_refl _, by go_num, HBX2.out.2.2, Lib.hid (fun h => (by cases h))⟩
        · go_wp2_with fail
          have HBW := Lib.hid (HB0.out.trans (hbe.out.mono HB0.out.size))
          have HBX := Lib.hid (HX4.out.belowB hbe.out)
          have HBWS := Lib.hid HBW.out.size
          have HAq := Lib.hid (HA.out.next HBW.out)
          have HBq := Lib.hid (HB.out.next HBW.out)
          have HCq := Lib.hid (HC.out.next HBW.out)
          have HF9q := Lib.hid (HF9.out.next hbe.out)
          have HF10q := Lib.hid (HF10.out.next hbe.out)
          clear HA HB HC HF9 HF10 HX1 HX4 HW1 HCN
          have HA := HAq
          have HB := HBq
          have HC := HCq
          have HF9 := HF9q
          have HF10 := HF10q
          clear HAq HBq HCq HF9q HF10q
          have HVA := Lib.hid (fun W => validF_any ⟨fk, fa, fb⟩ W)
          have HFI := Lib.hid (fun W => factis_any ⟨fk, fa, fb⟩ W)
          have HIS := Lib.hid (fun W (hb : Below wr.heap.size wr W) => isSetF_any la A j ca W HN.out (by omega) (HA.out.next hb))
          have HHA := Lib.hid (fun W (hb : Below wr.heap.size wr W) => hasF_any la A j ca ⟨fk, fa, fb⟩ W HN.out (by omega) (HA.out.next hb))
          have HCO := Lib.hid (fun W (hb : Below wr.heap.size wr W) => containsF_any la A j ca ⟨fk, fa, fb⟩ W HN.out (by omega) (HA.out.next hb))
          have HME := Lib.hid (fun W (hb : Below wr.heap.size wr W) => meetF_any la lb A B j m ca cb W HN.out HM.out hn1 hm1 (HA.out.next hb) (HB.out.next hb))
          have HMI := Lib.hid (fun W (hb : Below wr.heap.size wr W) => minusF_any la lb A B j m ca cb W HN.out HM.out hn1 hm1 (HA.out.next hb) (HB.out.next hb))
          have HWI := Lib.hid (fun W (hb : Below wr.heap.size wr W) => withinF_any la lb A B j m ca cb W HN.out HM.out hn1 hm1 (HA.out.next hb) (HB.out.next hb))
          have HAP := Lib.hid (fun W (hb : Below wr.heap.size wr W) => applyF_any la lb lc A B C j m k ca cb cc W HN.out HM.out HK.out hn1 hm1 hk1 (HA.out.next hb) (HB.out.next hb) (HC.out.next hb))
          unfold valF at HVA HFI HHA HCO
          dsimp only at HVA HFI HHA HCO
          rw [HZE.out] at HIS
          rw [← HBO.out] at HME
          rw [← HLE.out] at HMI HAP
          rw [HWL.out] at HWI
          generalize okF ⟨fk, fa, fb⟩ = ok at *
          generalize decide ((⟨fk, fa, fb⟩ : Ft) ∈ la) = has at *
          clear HCP HL1 HL2 hmin HBO HLE HWL HPB HNB HPB0 HNB0 hbe h15 HB0 HR HGK2
          have HP7 : Hid (∃ p, p = w.heap.size) := Lib.hid ⟨_, rfl⟩
          obtain ⟨p7, hp7⟩ := HP7.out
          rw [← hp7] at HBX ⊢
          have HP7E := Lib.hid hp7
          clear hp7 HP7
          refine wp_inv (S := fun wx => Below wr.heap.size wr wx) [isV (.bool true), isV (.bool true), isV (.agg #[.int .i64 fk, .int .i64 fa, .int .i64 fb]), isV (.bool ok), isV (.agg #[.int .i64 fk, .int .i64 fa, .int .i64 fb]), isV (.bool ok), isV (.bool true), isV (.bool true), isV (.bool true), isV (.slice A j ca), isFs (ofL la), isV (.slice A j ca), isFs (ofL la), isV (.bool true), isV (.bool true), isV (.bool true), isV (.slice A j ca), isV (.bool z), isV (.bool z), isV (.bool true), isV (.bool true), isV (.bool true), isV (.slice A j ca), isV (.agg #[.int .i64 fk, .int .i64 fa, .int .i64 fb]), isV (.bool has), isV (.slice A j ca), isV (.agg #[.int .i64 fk, .int .i64 fa, .int .i64 fb]), isV (.bool has), isV (.bool true), isV (.bool true), isV (.bool true), isV (.slice A j ca), isV (.slice B m cb), isFs (ofL (la ++ lb)), isV (.slice A j ca), isV (.slice B m cb), isPr (.slice A j ca) (.slice B m cb), isFs (la ++ lb), isFs (ofL (la ++ lb)), isV (.bool true), isV (.bool true), isV (.bool true), isV (.slice A j ca), isV (.slice B m cb), isFs (ofL bo), isV (.slice A9 n9 c9), isFs (ofL bo), isV (.bool true), isV (.bool true), isV (.bool true), isV (.slice A j ca), isV (.slice B m cb), isFs (ofL le), isV (.slice A10 n10 c10), isFs (ofL le), isV (.bool true), isV (.bool true), isV (.bool true), isV (.slice A j ca), isV (.slice B m cb), isV (.bool wi), isV (.bool wi), isV (.bool true), isV (.bool true), isV (.bool true), isV (.slice A j ca), isV (.slice B m cb), isV (.slice C k cc), isFs (ofL (le ++ lc)), isV (.slice A10 n10 c10), isV (.slice C k cc), isPr (.slice A10 n10 c10) (.slice C k cc), isFs (le ++ lc), isFs (ofL (le ++ lc)), isV (.bool true), isV (.bool true), isV (.bool true)] (by kernel_rfl) (by kernel_rfl) (fun _ _ h hb => h.trans (hb.mono h.size)) (Below.refl _ _) ?plan ?fin
          case plan =>
            refine PlanI.cons (OpI.mkV fun a wx hs hf hp => ?_) ?_
            · exact StepI.callV rfl (wants_none rfl) rfl (by kernel_rfl) (facted_any wx)
            refine PlanI.cons (OpI.mkV fun a wx hs hf hp => ?_) ?_
            · exact StepI.mov rfl (wants_none rfl) (hp 0 77 (by kernel_rfl) rfl)
            refine PlanI.cons (OpI.mkV fun a wx hs hf hp => ?_) ?_
            · exact StepI.load rfl (wants_at rfl rfl (hp 1 78 (by kernel_rfl) rfl) (r := true) rfl) (hf.keep 7 (by kernel_rfl)) (run_load_blk (HBX.out.belowB hs) (n := 3) rfl (by kernel_rfl)) rfl
            refine PlanI.cons (OpI.mkV fun a wx hs hf hp => ?_) ?_
            · exact StepI.callV rfl (wants_at rfl rfl (hp 1 78 (by kernel_rfl) rfl) (r := true) rfl) (args1 (hp 2 79 (by kernel_rfl) rfl)) (by kernel_rfl) (HVA.out wx)
            refine PlanI.cons (OpI.mkV fun a wx hs hf hp => ?_) ?_
            · exact StepI.load rfl (wants_at rfl rfl (hp 1 78 (by kernel_rfl) rfl) (r := true) rfl) (hf.keep 7 (by kernel_rfl)) (run_load_blk (HBX.out.belowB hs) (n := 3) rfl (by kernel_rfl)) rfl
            refine PlanI.cons (OpI.mkV fun a wx hs hf hp => ?_) ?_
            · exact StepI.callV rfl (wants_at rfl rfl (hp 1 78 (by kernel_rfl) rfl) (r := true) rfl) (args1 (hp 4 81 (by kernel_rfl) rfl)) (by kernel_rfl) (HFI.out wx)
            refine PlanI.cons (OpI.mkV fun a wx hs hf hp => ?_) ?_
            · exact StepI.bin rfl (wants_at rfl rfl (hp 1 78 (by kernel_rfl) rfl) (r := true) rfl) (hp 3 80 (by kernel_rfl) rfl) (hp 5 82 (by kernel_rfl) rfl) (eqB_same _ _ _ wx) rfl
            refine PlanI.cons (OpI.mkV fun a wx hs hf hp => ?_) ?_
            · exact StepI.pick (b := true) rfl (wants_none rfl) (hp 1 78 (by kernel_rfl) rfl) (hp 6 83 (by kernel_rfl) rfl)
            refine PlanI.cons (OpI.mkV fun a wx hs hf hp => ?_) ?_
            · exact StepI.mov rfl (wants_none rfl) (hp 7 84 (by kernel_rfl) rfl)
            refine PlanI.cons (OpI.mkV fun a wx hs hf hp => ?_) ?_
            · exact StepI.mov rfl (wants_at rfl rfl (hp 8 85 (by kernel_rfl) rfl) (r := true) rfl) (hf.keep 0 (by kernel_rfl))
            refine PlanI.cons (OpI.mk isFs_st fun a wx hs hf hp => ?_) ?_
            · exact StepI.call rfl (wants_at rfl rfl (hp 8 85 (by kernel_rfl) rfl) (r := true) rfl) (args1 (hp 9 86 (by kernel_rfl) rfl)) (by kernel_rfl) (of_told (of_any la A j ca wx HN.out (by omega) (HA.out.next hs)))
            refine PlanI.cons (OpI.mkV fun a wx hs hf hp => ?_) ?_
            · exact StepI.mov rfl (wants_at rfl rfl (hp 8 85 (by kernel_rfl) rfl) (r := true) rfl) (hf.keep 0 (by kernel_rfl))
            refine PlanI.cons (OpI.mk isFs_st fun a wx hs hf hp => ?_) ?_
            · exact StepI.call rfl (wants_at rfl rfl (hp 8 85 (by kernel_rfl) rfl) (r := true) rfl) (args1 (hp 11 88 (by kernel_rfl) rfl)) (by kernel_rfl) (of_told (factsof_any la A j ca wx HN.out (by omega) (HA.out.next hs)))
            refine PlanI.cons (OpI.mkV fun a wx hs hf hp => ?_) ?_
            · obtain ⟨A1, c1, e1, l1, m1, f1⟩ := (show isFs (ofL la) (a.eval (.tmp 87)) wx from (hp 10 87 (by kernel_rfl) rfl))
              obtain ⟨A2, c2, e2, l2, m2, f2⟩ := (show isFs (ofL la) (a.eval (.tmp 89)) wx from (hp 12 89 (by kernel_rfl) rfl))
              exact StepI.callV rfl (wants_at rfl rfl (hp 8 85 (by kernel_rfl) rfl) (r := true) rfl) (args2 e1 e2) (by kernel_rfl) (equalG_any (ofL la) A1 A2 _ c1 c2 wx rfl (by unfold maxLen at m1; omega) f1 f2)
            refine PlanI.cons (OpI.mkV fun a wx hs hf hp => ?_) ?_
            · exact StepI.pick (b := true) rfl (wants_none rfl) (hp 8 85 (by kernel_rfl) rfl) (hp 13 90 (by kernel_rfl) rfl)
            refine PlanI.cons (OpI.mkV fun a wx hs hf hp => ?_) ?_
            · exact StepI.mov rfl (wants_none rfl) (hp 14 91 (by kernel_rfl) rfl)
            refine PlanI.cons (OpI.mkV fun a wx hs hf hp => ?_) ?_
            · exact StepI.mov rfl (wants_at rfl rfl (hp 15 92 (by kernel_rfl) rfl) (r := true) rfl) (hf.keep 0 (by kernel_rfl))
            refine PlanI.cons (OpI.mkV fun a wx hs hf hp => ?_) ?_
            · exact StepI.callV rfl (wants_at rfl rfl (hp 15 92 (by kernel_rfl) rfl) (r := true) rfl) (args1 (hp 16 93 (by kernel_rfl) rfl)) (by kernel_rfl) (HIS.out wx hs)
            refine PlanI.cons (OpI.mkV fun a wx hs hf hp => ?_) ?_
            · exact StepI.mov rfl (wants_at rfl rfl (hp 15 92 (by kernel_rfl) rfl) (r := true) rfl) (hf.keep 12 (by kernel_rfl))
            refine PlanI.cons (OpI.mkV fun a wx hs hf hp => ?_) ?_
            · exact StepI.bin rfl (wants_at rfl rfl (hp 15 92 (by kernel_rfl) rfl) (r := true) rfl) (hp 17 94 (by kernel_rfl) rfl) (hp 18 95 (by kernel_rfl) rfl) (eqB_same _ _ _ wx) rfl
            refine PlanI.cons (OpI.mkV fun a wx hs hf hp => ?_) ?_
            · exact StepI.pick (b := true) rfl (wants_none rfl) (hp 15 92 (by kernel_rfl) rfl) (hp 19 96 (by kernel_rfl) rfl)
            refine PlanI.cons (OpI.mkV fun a wx hs hf hp => ?_) ?_
            · exact StepI.mov rfl (wants_none rfl) (hp 20 97 (by kernel_rfl) rfl)
            refine PlanI.cons (OpI.mkV fun a wx hs hf hp => ?_) ?_
            · exact StepI.mov rfl (wants_at rfl rfl (hp 21 98 (by kernel_rfl) rfl) (r := true) rfl) (hf.keep 0 (by kernel_rfl))
            refine PlanI.cons (OpI.mkV fun a wx hs hf hp => ?_) ?_
            · exact StepI.load rfl (wants_at rfl rfl (hp 21 98 (by kernel_rfl) rfl) (r := true) rfl) (hf.keep 7 (by kernel_rfl)) (run_load_blk (HBX.out.belowB hs) (n := 3) rfl (by kernel_rfl)) rfl
            refine PlanI.cons (OpI.mkV fun a wx hs hf hp => ?_) ?_
            · exact StepI.callV rfl (wants_at rfl rfl (hp 21 98 (by kernel_rfl) rfl) (r := true) rfl) (args2 (hp 22 99 (by kernel_rfl) rfl) (hp 23 100 (by kernel_rfl) rfl)) (by kernel_rfl) (HHA.out wx hs)
            refine PlanI.cons (OpI.mkV fun a wx hs hf hp => ?_) ?_
            · exact StepI.mov rfl (wants_at rfl rfl (hp 21 98 (by kernel_rfl) rfl) (r := true) rfl) (hf.keep 0 (by kernel_rfl))
            refine PlanI.cons (OpI.mkV fun a wx hs hf hp => ?_) ?_
            · exact StepI.load rfl (wants_at rfl rfl (hp 21 98 (by kernel_rfl) rfl) (r := true) rfl) (hf.keep 7 (by kernel_rfl)) (run_load_blk (HBX.out.belowB hs) (n := 3) rfl (by kernel_rfl)) rfl
            refine PlanI.cons (OpI.mkV fun a wx hs hf hp => ?_) ?_
            · exact StepI.callV rfl (wants_at rfl rfl (hp 21 98 (by kernel_rfl) rfl) (r := true) rfl) (args2 (hp 25 102 (by kernel_rfl) rfl) (hp 26 103 (by kernel_rfl) rfl)) (by kernel_rfl) (HCO.out wx hs)
            refine PlanI.cons (OpI.mkV fun a wx hs hf hp => ?_) ?_
            · exact StepI.bin rfl (wants_at rfl rfl (hp 21 98 (by kernel_rfl) rfl) (r := true) rfl) (hp 24 101 (by kernel_rfl) rfl) (hp 27 104 (by kernel_rfl) rfl) (eqB_same _ _ _ wx) rfl
            refine PlanI.cons (OpI.mkV fun a wx hs hf hp => ?_) ?_
            · exact StepI.pick (b := true) rfl (wants_none rfl) (hp 21 98 (by kernel_rfl) rfl) (hp 28 105 (by kernel_rfl) rfl)
            refine PlanI.cons (OpI.mkV fun a wx hs hf hp => ?_) ?_
            · exact StepI.mov rfl (wants_none rfl) (hp 29 106 (by kernel_rfl) rfl)
            refine PlanI.cons (OpI.mkV fun a wx hs hf hp => ?_) ?_
            · exact StepI.mov rfl (wants_at rfl rfl (hp 30 107 (by kernel_rfl) rfl) (r := true) rfl) (hf.keep 0 (by kernel_rfl))
            refine PlanI.cons (OpI.mkV fun a wx hs hf hp => ?_) ?_
            · exact StepI.mov rfl (wants_at rfl rfl (hp 30 107 (by kernel_rfl) rfl) (r := true) rfl) (hf.keep 1 (by kernel_rfl))
            refine PlanI.cons (OpI.mk isFs_st fun a wx hs hf hp => ?_) ?_
            · exact StepI.call rfl (wants_at rfl rfl (hp 30 107 (by kernel_rfl) rfl) (r := true) rfl) (args2 (hp 31 108 (by kernel_rfl) rfl) (hp 32 109 (by kernel_rfl) rfl)) (by kernel_rfl) (of_told (joinF_any la lb A B j m ca cb wx HN.out HM.out hn1 hm1 (HA.out.next hs) (HB.out.next hs)))
            refine PlanI.cons (OpI.mkV fun a wx hs hf hp => ?_) ?_
            · exact StepI.mov rfl (wants_at rfl rfl (hp 30 107 (by kernel_rfl) rfl) (r := true) rfl) (hf.keep 0 (by kernel_rfl))
            refine PlanI.cons (OpI.mkV fun a wx hs hf hp => ?_) ?_
            · exact StepI.mov rfl (wants_at rfl rfl (hp 30 107 (by kernel_rfl) rfl) (r := true) rfl) (hf.keep 1 (by kernel_rfl))
            refine PlanI.cons (OpI.mk isPr_st fun a wx hs hf hp => ?_) ?_
            · have E1 := (hp 34 111 (by kernel_rfl) rfl)
              have E2 := (hp 35 112 (by kernel_rfl) rfl)
              change a.eval (.tmp 111) = .slice A j ca at E1
              change a.eval (.tmp 112) = .slice B m cb at E2
              exact StepI.new (wants_at rfl rfl (hp 30 107 (by kernel_rfl) rfl) (r := true) rfl) (by unfold execOp; simp only [List.map_toArray, List.map_cons, List.map_nil, E1, E2]; exact run_pair _ _ _ _ _ _ wx) ((Below.refl _ _).alloc (Nat.le_refl _) _) ⟨_, rfl, Blk.new _ _ _⟩
            refine PlanI.cons (OpI.mk isFs_st fun a wx hs hf hp => ?_) ?_
            · obtain ⟨g, e1, hg⟩ := (show isPr (.slice A j ca) (.slice B m cb) (a.eval (.tmp 113)) wx from (hp 36 113 (by kernel_rfl) rfl))
              exact StepI.call rfl (wants_at rfl rfl (hp 30 107 (by kernel_rfl) rfl) (r := true) rfl) (args1 e1) (by kernel_rfl) (row_told (concatF_any la lb A B j m ca cb g wx HN.out HM.out hn1 hm1 (HA.out.next hs) (HB.out.next hs) hg))
            refine PlanI.cons (OpI.mk isFs_st fun a wx hs hf hp => ?_) ?_
            · obtain ⟨A1, c1, e1, l1, m1, f1⟩ := (show isFs (la ++ lb) (a.eval (.tmp 114)) wx from (hp 37 114 (by kernel_rfl) rfl))
              exact StepI.call rfl (wants_at rfl rfl (hp 30 107 (by kernel_rfl) rfl) (r := true) rfl) (args1 e1) (by kernel_rfl) (of_told (factsof_any (la ++ lb) A1 _ c1 wx rfl (by rw [List.length_append, ← HN.out, ← HM.out]; omega) f1))
            refine PlanI.cons (OpI.mkV fun a wx hs hf hp => ?_) ?_
            · obtain ⟨A1, c1, e1, l1, m1, f1⟩ := (show isFs (ofL (la ++ lb)) (a.eval (.tmp 110)) wx from (hp 33 110 (by kernel_rfl) rfl))
              obtain ⟨A2, c2, e2, l2, m2, f2⟩ := (show isFs (ofL (la ++ lb)) (a.eval (.tmp 115)) wx from (hp 38 115 (by kernel_rfl) rfl))
              exact StepI.callV rfl (wants_at rfl rfl (hp 30 107 (by kernel_rfl) rfl) (r := true) rfl) (args2 e1 e2) (by kernel_rfl) (equalG_any (ofL (la ++ lb)) A1 A2 _ c1 c2 wx rfl (by unfold maxLen at m1; omega) f1 f2)
            refine PlanI.cons (OpI.mkV fun a wx hs hf hp => ?_) ?_
            · exact StepI.pick (b := true) rfl (wants_none rfl) (hp 30 107 (by kernel_rfl) rfl) (hp 39 116 (by kernel_rfl) rfl)
            refine PlanI.cons (OpI.mkV fun a wx hs hf hp => ?_) ?_
            · exact StepI.mov rfl (wants_none rfl) (hp 40 117 (by kernel_rfl) rfl)
            refine PlanI.cons (OpI.mkV fun a wx hs hf hp => ?_) ?_
            · exact StepI.mov rfl (wants_at rfl rfl (hp 41 118 (by kernel_rfl) rfl) (r := true) rfl) (hf.keep 0 (by kernel_rfl))
            refine PlanI.cons (OpI.mkV fun a wx hs hf hp => ?_) ?_
            · exact StepI.mov rfl (wants_at rfl rfl (hp 41 118 (by kernel_rfl) rfl) (r := true) rfl) (hf.keep 1 (by kernel_rfl))
            refine PlanI.cons (OpI.mk isFs_st fun a wx hs hf hp => ?_) ?_
            · exact StepI.call rfl (wants_at rfl rfl (hp 41 118 (by kernel_rfl) rfl) (r := true) rfl) (args2 (hp 42 119 (by kernel_rfl) rfl) (hp 43 120 (by kernel_rfl) rfl)) (by kernel_rfl) (of_told (HME.out wx hs))
            refine PlanI.cons (OpI.mkV fun a wx hs hf hp => ?_) ?_
            · exact StepI.mov rfl (wants_at rfl rfl (hp 41 118 (by kernel_rfl) rfl) (r := true) rfl) (hf.keep 9 (by kernel_rfl))
            refine PlanI.cons (OpI.mk isFs_st fun a wx hs hf hp => ?_) ?_
            · exact StepI.call rfl (wants_at rfl rfl (hp 41 118 (by kernel_rfl) rfl) (r := true) rfl) (args1 (hp 45 122 (by kernel_rfl) rfl)) (by kernel_rfl) (of_told (factsof_any bo A9 n9 c9 wx HB9.out (by omega) (HF9.out.next hs)))
            refine PlanI.cons (OpI.mkV fun a wx hs hf hp => ?_) ?_
            · obtain ⟨A1, c1, e1, l1, m1, f1⟩ := (show isFs (ofL bo) (a.eval (.tmp 121)) wx from (hp 44 121 (by kernel_rfl) rfl))
              obtain ⟨A2, c2, e2, l2, m2, f2⟩ := (show isFs (ofL bo) (a.eval (.tmp 123)) wx from (hp 46 123 (by kernel_rfl) rfl))
              exact StepI.callV rfl (wants_at rfl rfl (hp 41 118 (by kernel_rfl) rfl) (r := true) rfl) (args2 e1 e2) (by kernel_rfl) (equalG_any (ofL bo) A1 A2 _ c1 c2 wx rfl (by unfold maxLen at m1; omega) f1 f2)
            refine PlanI.cons (OpI.mkV fun a wx hs hf hp => ?_) ?_
            · exact StepI.pick (b := true) rfl (wants_none rfl) (hp 41 118 (by kernel_rfl) rfl) (hp 47 124 (by kernel_rfl) rfl)
            refine PlanI.cons (OpI.mkV fun a wx hs hf hp => ?_) ?_
            · exact StepI.mov rfl (wants_none rfl) (hp 48 125 (by kernel_rfl) rfl)
            refine PlanI.cons (OpI.mkV fun a wx hs hf hp => ?_) ?_
            · exact StepI.mov rfl (wants_at rfl rfl (hp 49 126 (by kernel_rfl) rfl) (r := true) rfl) (hf.keep 0 (by kernel_rfl))
            refine PlanI.cons (OpI.mkV fun a wx hs hf hp => ?_) ?_
            · exact StepI.mov rfl (wants_at rfl rfl (hp 49 126 (by kernel_rfl) rfl) (r := true) rfl) (hf.keep 1 (by kernel_rfl))
            refine PlanI.cons (OpI.mk isFs_st fun a wx hs hf hp => ?_) ?_
            · exact StepI.call rfl (wants_at rfl rfl (hp 49 126 (by kernel_rfl) rfl) (r := true) rfl) (args2 (hp 50 127 (by kernel_rfl) rfl) (hp 51 128 (by kernel_rfl) rfl)) (by kernel_rfl) (of_told (HMI.out wx hs))
            refine PlanI.cons (OpI.mkV fun a wx hs hf hp => ?_) ?_
            · exact StepI.mov rfl (wants_at rfl rfl (hp 49 126 (by kernel_rfl) rfl) (r := true) rfl) (hf.keep 10 (by kernel_rfl))
            refine PlanI.cons (OpI.mk isFs_st fun a wx hs hf hp => ?_) ?_
            · exact StepI.call rfl (wants_at rfl rfl (hp 49 126 (by kernel_rfl) rfl) (r := true) rfl) (args1 (hp 53 130 (by kernel_rfl) rfl)) (by kernel_rfl) (of_told (factsof_any le A10 n10 c10 wx HL10.out (by omega) (HF10.out.next hs)))
            refine PlanI.cons (OpI.mkV fun a wx hs hf hp => ?_) ?_
            · obtain ⟨A1, c1, e1, l1, m1, f1⟩ := (show isFs (ofL le) (a.eval (.tmp 129)) wx from (hp 52 129 (by kernel_rfl) rfl))
              obtain ⟨A2, c2, e2, l2, m2, f2⟩ := (show isFs (ofL le) (a.eval (.tmp 131)) wx from (hp 54 131 (by kernel_rfl) rfl))
              exact StepI.callV rfl (wants_at rfl rfl (hp 49 126 (by kernel_rfl) rfl) (r := true) rfl) (args2 e1 e2) (by kernel_rfl) (equalG_any (ofL le) A1 A2 _ c1 c2 wx rfl (by unfold maxLen at m1; omega) f1 f2)
            refine PlanI.cons (OpI.mkV fun a wx hs hf hp => ?_) ?_
            · exact StepI.pick (b := true) rfl (wants_none rfl) (hp 49 126 (by kernel_rfl) rfl) (hp 55 132 (by kernel_rfl) rfl)
            refine PlanI.cons (OpI.mkV fun a wx hs hf hp => ?_) ?_
            · exact StepI.mov rfl (wants_none rfl) (hp 56 133 (by kernel_rfl) rfl)
            refine PlanI.cons (OpI.mkV fun a wx hs hf hp => ?_) ?_
            · exact StepI.mov rfl (wants_at rfl rfl (hp 57 134 (by kernel_rfl) rfl) (r := true) rfl) (hf.keep 0 (by kernel_rfl))
            refine PlanI.cons (OpI.mkV fun a wx hs hf hp => ?_) ?_
            · exact StepI.mov rfl (wants_at rfl rfl (hp 57 134 (by kernel_rfl) rfl) (r := true) rfl) (hf.keep 1 (by kernel_rfl))
            refine PlanI.cons (OpI.mkV fun a wx hs hf hp => ?_) ?_
            · exact StepI.callV rfl (wants_at rfl rfl (hp 57 134 (by kernel_rfl) rfl) (r := true) rfl) (args2 (hp 58 135 (by kernel_rfl) rfl) (hp 59 136 (by kernel_rfl) rfl)) (by kernel_rfl) (HWI.out wx hs)
            refine PlanI.cons (OpI.mkV fun a wx hs hf hp => ?_) ?_
            · exact StepI.mov rfl (wants_at rfl rfl (hp 57 134 (by kernel_rfl) rfl) (r := true) rfl) (hf.keep 11 (by kernel_rfl))
            refine PlanI.cons (OpI.mkV fun a wx hs hf hp => ?_) ?_
            · exact StepI.bin rfl (wants_at rfl rfl (hp 57 134 (by kernel_rfl) rfl) (r := true) rfl) (hp 60 137 (by kernel_rfl) rfl) (hp 61 138 (by kernel_rfl) rfl) (eqB_same _ _ _ wx) rfl
            refine PlanI.cons (OpI.mkV fun a wx hs hf hp => ?_) ?_
            · exact StepI.pick (b := true) rfl (wants_none rfl) (hp 57 134 (by kernel_rfl) rfl) (hp 62 139 (by kernel_rfl) rfl)
            refine PlanI.cons (OpI.mkV fun a wx hs hf hp => ?_) ?_
            · exact StepI.mov rfl (wants_none rfl) (hp 63 140 (by kernel_rfl) rfl)
            refine PlanI.cons (OpI.mkV fun a wx hs hf hp => ?_) ?_
            · exact StepI.mov rfl (wants_at rfl rfl (hp 64 141 (by kernel_rfl) rfl) (r := true) rfl) (hf.keep 0 (by kernel_rfl))
            refine PlanI.cons (OpI.mkV fun a wx hs hf hp => ?_) ?_
            · exact StepI.mov rfl (wants_at rfl rfl (hp 64 141 (by kernel_rfl) rfl) (r := true) rfl) (hf.keep 1 (by kernel_rfl))
            refine PlanI.cons (OpI.mkV fun a wx hs hf hp => ?_) ?_
            · exact StepI.mov rfl (wants_at rfl rfl (hp 64 141 (by kernel_rfl) rfl) (r := true) rfl) (hf.keep 2 (by kernel_rfl))
            refine PlanI.cons (OpI.mk isFs_st fun a wx hs hf hp => ?_) ?_
            · exact StepI.call rfl (wants_at rfl rfl (hp 64 141 (by kernel_rfl) rfl) (r := true) rfl) (args3 (hp 65 142 (by kernel_rfl) rfl) (hp 66 143 (by kernel_rfl) rfl) (hp 67 144 (by kernel_rfl) rfl)) (by kernel_rfl) (of_told (HAP.out wx hs))
            refine PlanI.cons (OpI.mkV fun a wx hs hf hp => ?_) ?_
            · exact StepI.mov rfl (wants_at rfl rfl (hp 64 141 (by kernel_rfl) rfl) (r := true) rfl) (hf.keep 10 (by kernel_rfl))
            refine PlanI.cons (OpI.mkV fun a wx hs hf hp => ?_) ?_
            · exact StepI.mov rfl (wants_at rfl rfl (hp 64 141 (by kernel_rfl) rfl) (r := true) rfl) (hf.keep 2 (by kernel_rfl))
            refine PlanI.cons (OpI.mk isPr_st fun a wx hs hf hp => ?_) ?_
            · have E1 := (hp 69 146 (by kernel_rfl) rfl)
              have E2 := (hp 70 147 (by kernel_rfl) rfl)
              change a.eval (.tmp 146) = .slice A10 n10 c10 at E1
              change a.eval (.tmp 147) = .slice C k cc at E2
              exact StepI.new (wants_at rfl rfl (hp 64 141 (by kernel_rfl) rfl) (r := true) rfl) (by unfold execOp; simp only [List.map_toArray, List.map_cons, List.map_nil, E1, E2]; exact run_pair _ _ _ _ _ _ wx) ((Below.refl _ _).alloc (Nat.le_refl _) _) ⟨_, rfl, Blk.new _ _ _⟩
            refine PlanI.cons (OpI.mk isFs_st fun a wx hs hf hp => ?_) ?_
            · obtain ⟨g, e1, hg⟩ := (show isPr (.slice A10 n10 c10) (.slice C k cc) (a.eval (.tmp 148)) wx from (hp 71 148 (by kernel_rfl) rfl))
              exact StepI.call rfl (wants_at rfl rfl (hp 64 141 (by kernel_rfl) rfl) (r := true) rfl) (args1 e1) (by kernel_rfl) (row_told (concatF_any le lc A10 C n10 k c10 cc g wx HL10.out HK.out (by omega) hk1 (HF10.out.next hs) (HC.out.next hs) hg))
            refine PlanI.cons (OpI.mk isFs_st fun a wx hs hf hp => ?_) ?_
            · obtain ⟨A1, c1, e1, l1, m1, f1⟩ := (show isFs (le ++ lc) (a.eval (.tmp 149)) wx from (hp 72 149 (by kernel_rfl) rfl))
              exact StepI.call rfl (wants_at rfl rfl (hp 64 141 (by kernel_rfl) rfl) (r := true) rfl) (args1 e1) (by kernel_rfl) (of_told (factsof_any (le ++ lc) A1 _ c1 wx rfl (by rw [List.length_append, ← HL10.out, ← HK.out]; omega) f1))
            refine PlanI.cons (OpI.mkV fun a wx hs hf hp => ?_) ?_
            · obtain ⟨A1, c1, e1, l1, m1, f1⟩ := (show isFs (ofL (le ++ lc)) (a.eval (.tmp 145)) wx from (hp 68 145 (by kernel_rfl) rfl))
              obtain ⟨A2, c2, e2, l2, m2, f2⟩ := (show isFs (ofL (le ++ lc)) (a.eval (.tmp 150)) wx from (hp 73 150 (by kernel_rfl) rfl))
              exact StepI.callV rfl (wants_at rfl rfl (hp 64 141 (by kernel_rfl) rfl) (r := true) rfl) (args2 e1 e2) (by kernel_rfl) (equalG_any (ofL (le ++ lc)) A1 A2 _ c1 c2 wx rfl (by unfold maxLen at m1; omega) f1 f2)
            refine PlanI.cons (OpI.mkV fun a wx hs hf hp => ?_) ?_
            · exact StepI.pick (b := true) rfl (wants_none rfl) (hp 64 141 (by kernel_rfl) rfl) (hp 74 151 (by kernel_rfl) rfl)
            refine PlanI.cons (OpI.mkV fun a wx hs hf hp => ?_) ?_
            · exact StepI.asg rfl (wants_none rfl) (hp 75 152 (by kernel_rfl) rfl)
            exact PlanI.nil
          case fin =>
            intro a wx hs hf hv
            have e8 := hv 76 8 rfl
            change a.tmps.getD 8 undef = .bool true at e8
            go_wp2_with fail
            exact ret_slot rfl (hf.defers.trans rfl) e8 ⟨rfl, HBW.out.trans (hs.mono HBWS.out)⟩
set_option maxRecDepth 20000 in
theorem factSets_walk {H : Type} {enc : TypeId × Value → H} (W : World) (v0 v1 v2 v3 : Value) {d0 d1 d2 d3 : DataW H} {p0 p1 p2 p3 : List MemPlace} {base : Nat}
    (h0 : DataW.Trod enc Try.prog W 0 (fun _ => true) true 43 v0 d0 p0) (h1 : DataW.Trod enc Try.prog W 0 (fun _ => true) true 43 v1 d1 p1) (h2 : DataW.Trod enc Try.prog W 0 (fun _ => true) true 43 v2 d2 p2) (h3 : DataW.Trod enc Try.prog W 0 (fun _ => true) true 45 v3 d3 p3)
    (o0 : Value.okWide Try.prog W .any base 43 v0) (o1 : Value.okWide Try.prog W .any base 43 v1) (o2 : Value.okWide Try.prog W .any base 43 v2) (o3 : Value.okWide Try.prog W .any base 45 v3)
    (w0 : Light Try.prog 43 d0) (w1 : Light Try.prog 43 d1) (w2 : Light Try.prog 43 d2) (w3 : Light Try.prog 45 d3) (hk : Rows.uptoBulkAll [d0, d1, d2, d3] ≤ 1048576) :
    Calls Try.prog 5 #[v0, v1, v2, v3] W fun e W' => e = .returned (.bool true) ∧ Below W.heap.size W W' := by
  obtain ⟨A, ca, la, rfl, q1, q2, q3, q4⟩ := open_facts h0 o0 w0
  obtain ⟨B, cb, lb, rfl, r1, r2, r3, r4⟩ := open_facts h1 o1 w1
  obtain ⟨C, cc, lc, rfl, s1, s2, s3, s4⟩ := open_facts h2 o2 w2
  obtain ⟨f, rfl, _⟩ := open_fact h3 o3
  have b0 := bulk_open Try.underlying43 h0
  have b1 := bulk_open Try.underlying43 h1
  have b2 := bulk_open Try.underlying43 h2
  have c0 := bulk_mem (ds := [d0, d1, d2, d3]) (d := d0) (by simp)
  have c1 := bulk_mem (ds := [d0, d1, d2, d3]) (d := d1) (by simp)
  have c2 := bulk_mem (ds := [d0, d1, d2, d3]) (d := d2) (by simp)
  exact factSets_core la lb lc f A B C _ _ _ ca cb cc W rfl rfl rfl (by omega) (by omega) (by omega) q1 q4 r4 s4
end Go.Proofs.Ytnaiflokmihmeaa
