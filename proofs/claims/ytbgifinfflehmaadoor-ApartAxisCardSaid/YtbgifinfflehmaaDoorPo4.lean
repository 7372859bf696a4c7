/- Joined texts. -/
import Derived.Test.YtbgifinfflehmaaDoorPo3
import Derived.Test.YtbgifinfflehmaaDoorSp4
import Derived.Deep.LoopGhost

/- gantmake.Poly, frame.List (printed by lawvec.py). -/
namespace Go.Proofs.YtbgifinfflehmaaDoor
open Go.RowKit
set_option linter.unusedVariables false
set_option linter.unusedSimpArgs false

section
variable {P : Program} {ops : Array Oper} {W : World} {l : List Own} {Q : Exit → Act → World → Prop} {gs : List Nat} {k : Nat} {o : Oper} {rest : List Oper} {a : Act} {R : Reg}
/-- a call whose result is known only afterwards -/
theorem Seq.callE {f : FuncId} {xs : List Operand} {ts : Array TypeId} {vs : Array Value} (ho : o.op = .call { callee := .value (.func f), args := xs.toArray, argTypes := ts }) (hg : gs.contains 3000000 = true) (hw : wants ops o a = true)
    (hx : xs.map a.eval = vs.toList) (hf : goesIn P f = true)
    (hc : ∀ w, StR W l R w → Calls P f vs w (fun e w' => ∃ v R', e = .returned v ∧ StR W l R' w' ∧ Seq P ops Q W l gs (k + 1) rest (a.put o.dst v) R')) : Seq P ops Q W l gs k (o :: rest) a R := by
  refine Seq.gen hg hw fun w hs => ?_
  have hr : (execOp a.eval o).run P w = .ok (.enter f vs) w := by
    unfold goesIn at hf
    cases hp : P.funcs[f]? with
    | none => simp [hp] at hf
    | some fn =>
      simp only [hp, Bool.and_eq_true, bne_iff_ne, ne_eq] at hf
      have hb : fn.body.isNone = false := by cases hq : fn.body <;> simp_all
      have hv : (xs.map a.eval).toArray = vs := by rw [hx]
      simp [execOp, ho, resolve, invoke, callFunc, Deferred.ofValue, Act.eval, hp, hf.1, hb, hv, go_sem]
      intro hq; rw [hq] at hb; cases hb
  unfold Oper.wp
  rw [hr]
  simp only [Oper.upon]
  refine Calls.mono (hc w hs) fun e w' he => ?_
  obtain ⟨v, R', rfl, h2, h3⟩ := he
  exact ⟨R', h2, h3⟩
end
theorem Ints.next {W w : World} {A : Option Addr} {n c : Nat} {xs : List Int} (h : Ints W A n c xs) (hb : Below W.heap.size W w) : Ints w A n c xs := ⟨(h.1.below hb).more hb.size, h.2⟩
set_option maxHeartbeats 2000000 in
set_option maxRecDepth 20000 in
theorem poly_F {W : World} {l : List Own} {n c : Nat} {A : Option Addr} {xs : List Int} (hi : Ints W A n c xs) (w : World) (h : St W l w) :
    Calls Tryd.prog 9 #[.slice A n c] w fun e w' => ∃ p, w.heap.size ≤ p ∧ e = .returned (mk (some (polyQ xs).length) p) ∧ Below w.heap.size w w' ∧ Blk w' p 30 (PC (polyQ xs)) := by
  have HI := Lib.hid (hi.next h.below); clear hi h
  go_enter Tryd.func9, Tryd.ntmps9
  have HS : St w [] w := St.start
  go_upto_region 0 with (fail)
  refine wp_seq_text [] (StR.no HS) ?_
  refine Seq.pure rfl rfl (by intro w; go_simp; try first | with_reducible rfl | rfl) ?_
  simp only [Act.put, List.setIfInBounds_toArray, List.set_cons_zero, List.set_cons_succ]
  refine Seq.done fun ws1 hws => ?_
  have HS1 := hws.st
  clear HS hws
  go_upto_region 1 with (fail)
  refine wp_seq_text [3000000] (StR.no HS1) ?_
  refine Seq.pure rfl rfl (by intro w; go_simp; try first | with_reducible rfl | rfl) ?_
  simp only [Act.put, List.setIfInBounds_toArray, List.set_cons_zero, List.set_cons_succ]
  refine Seq.pure (v := .agg #[.slice A n c]) rfl rfl (by intro w; go_simp; try first | with_reducible rfl | rfl) ?_
  simp only [Act.put, List.setIfInBounds_toArray, List.set_cons_zero, List.set_cons_succ]
  refine Seq.box rfl rfl rfl (v := .agg #[.slice A n c]) (cs := #[.slice A n c]) rfl rfl ?_
  intro bk5 _ _ hbk5_r
  simp only [Act.put, List.setIfInBounds_toArray, List.set_cons_zero, List.set_cons_succ]
  refine Seq.callE rfl rfl rfl rfl (by kernel_rfl) (fun w2 h2 => (poly_S HI.out w2 h2.only).mono ?_)
  rintro e w3 ⟨p, sl, rfl, hp, h3⟩
  refine ⟨_, _, rfl, StR.move (StR.move (StR.no h3)), ?_⟩
  have hne : p ≠ bk5 := (List.pairwise_cons.1 h3.apart).1 _ List.mem_cons_self
  clear h3
  simp only [Act.put, List.setIfInBounds_toArray, List.set_cons_zero, List.set_cons_succ]
  refine Seq.pure rfl rfl (by intro w; go_simp; try first | with_reducible rfl | rfl) ?_
  simp only [Act.put, List.setIfInBounds_toArray, List.set_cons_zero, List.set_cons_succ]
  refine Seq.done fun ws3 hws => ?_
  go_wp2_with fail
  go_ret
  exact ⟨p, hp, rfl, hws.st.below, (hws.reg p _ _ (rN hne rS)).2.2⟩
def z6 : List Value := [.bool false, .string ⟨#[]⟩, .string ⟨#[]⟩, .bool false, .string ⟨#[]⟩, .string ⟨#[]⟩]
theorem flat_take {α : Type} {ls : List (List α)} (h : ∀ x ∈ ls, x.length = 6) (i : Nat) : ls.flatten.take (6 * i) = (ls.take i).flatten := by
  induction i generalizing ls with
  | zero => simp
  | succ i ih =>
    cases ls with
    | nil => simp
    | cons x ls =>
      have hx := h x List.mem_cons_self
      rw [List.flatten_cons, List.take_append, hx, show 6 * (i + 1) - 6 = 6 * i by omega, ih (fun y hy => h y (List.mem_cons_of_mem _ hy)), List.take_of_length_le (by omega), List.take_succ_cons, List.flatten_cons]
theorem flat_drop {α : Type} {ls : List (List α)} (h : ∀ x ∈ ls, x.length = 6) (i : Nat) : ls.flatten.drop (6 * i) = (ls.drop i).flatten := by
  induction i generalizing ls with
  | zero => simp
  | succ i ih =>
    cases ls with
    | nil => simp
    | cons x ls =>
      have hx := h x List.mem_cons_self
      rw [List.flatten_cons, List.drop_append, hx, show 6 * (i + 1) - 6 = 6 * i by omega, ih (fun y hy => h y (List.mem_cons_of_mem _ hy)), List.drop_of_length_le (by omega), List.nil_append, List.drop_succ_cons]
/-- the first i points stand, the others are still zero -/
def MxL (qs : Pts) (i n : Nat) : List (List Value) := (List.range n).map fun j => if j < i then (VC (px qs j) (py qs j)).toList else z6
def Mx (qs : Pts) (i n : Nat) : Array Value := (MxL qs i n).flatten.toArray
theorem MxL_6 (qs : Pts) (i n : Nat) : ∀ x ∈ MxL qs i n, x.length = 6 := by
  intro x hx
  obtain ⟨j, -, rfl⟩ := List.mem_map.1 hx
  split <;> rfl
theorem Mx_size (qs : Pts) (i n : Nat) : (Mx qs i n).size = 6 * n := by
  show (MxL qs i n).flatten.length = _
  have h : ∀ ls : List (List Value), (∀ x ∈ ls, x.length = 6) → ls.flatten.length = 6 * ls.length := by
    intro ls
    induction ls with
    | nil => intro _; rfl
    | cons x ls ih =>
      intro h
      rw [List.flatten_cons, List.length_append, ih (fun y hy => h y (List.mem_cons_of_mem _ hy)), h x List.mem_cons_self, List.length_cons]; omega
  rw [h _ (MxL_6 _ _ _)]
  simp [MxL]
theorem MxL_set (qs : Pts) {i n : Nat} (h : i < n) : (MxL qs i n).take i ++ ((VC (px qs i) (py qs i)).toList :: (MxL qs i n).drop (i + 1)) = MxL qs (i + 1) n := by
  apply List.ext_getElem
  · simp [MxL]; omega
  · intro j h1 h2
    have hj : j < n := by simpa [MxL] using h2
    rw [List.getElem_append]
    split
    · rename_i h3
      have hji : j < i := by simp [MxL] at h3; omega
      simp [MxL, hji]; intro; omega
    · rename_i h3
      have hji : i ≤ j := by simp [MxL] at h3; omega
      rcases Nat.lt_or_ge i j with h4 | h4
      · have e : j - ((MxL qs i n).take i).length = (j - i - 1) + 1 := by simp [MxL]; omega
        simp only [e, List.getElem_cons_succ]
        simp [MxL, show i + 1 + (j - i - 1) = j by omega, show ¬ j < i by omega, show ¬ j < i + 1 by omega]
      · have e : i = j := by omega
        subst e
        have e2 : i - ((MxL qs i n).take i).length = 0 := by simp [MxL]; omega
        simp only [e2, List.getElem_cons_zero]
        simp [MxL]
theorem Mx_put (qs : Pts) {i n : Nat} (h : i < n) : ((Mx qs i n).toList.take (6 * i) ++ (Value.agg (VC (px qs i) (py qs i))).cells.toList ++ (Mx qs i n).toList.drop (6 * i + (Value.agg (VC (px qs i) (py qs i))).cells.size)).toArray = Mx qs (i + 1) n := by
  have hs : (Value.agg (VC (px qs i) (py qs i))).cells.size = 6 := rfl
  have hc : (Value.agg (VC (px qs i) (py qs i))).cells.toList = (VC (px qs i) (py qs i)).toList := rfl
  rw [hs, hc, show 6 * i + 6 = 6 * (i + 1) by omega]
  show (List.take (6 * i) (MxL qs i n).flatten ++ _ ++ List.drop (6 * (i + 1)) (MxL qs i n).flatten).toArray = _
  rw [flat_take (MxL_6 _ _ _), flat_drop (MxL_6 _ _ _)]
  unfold Mx
  rw [← MxL_set qs h, List.flatten_append, List.flatten_cons, List.append_assoc]
theorem Mx_all {qs : Pts} {n : Nat} (h : qs.length = n) : Mx qs n n = PC qs := by
  subst h
  unfold Mx PC MxL
  congr 1
  rw [List.flatMap_def]
  congr 1
  apply List.ext_getElem
  · simp
  · intro j h1 h2
    have hj : j < qs.length := by simpa using h2
    have := getD_pt hj
    simp [hj, this]
theorem made6 (n : Nat) : madeCells z6.toArray (n * 6) = (List.replicate n z6).flatten.toArray := by
  apply Array.toList_inj.1
  unfold madeCells
  rw [Array.toList_map]
  show List.map _ (Array.range (n * 6)).toList = _
  rw [Array.toList_range]
  induction n with
  | zero => rfl
  | succ n ih =>
    rw [show (n + 1) * 6 = n * 6 + 6 by omega, List.range_add, List.map_append, ih, List.replicate_succ', List.flatten_append]
    congr 1
    have e : ∀ j, (n * 6 + j) % z6.toArray.size = j % 6 := fun j => by
      show (n * 6 + j) % 6 = _
      omega
    simp only [List.map_map, Function.comp_def, e]
    rfl
theorem Mx_zero (qs : Pts) (n : Nat) : Mx qs 0 n = madeCells z6.toArray (n * 6) := by
  rw [made6]
  unfold Mx MxL
  congr 2
  apply List.ext_getElem
  · simp
  · intro j h1 h2; simp
theorem infoVec : (Tryd.prog.info? 30).map (fun i => (i.zero, i.size, i.bytes)) = some (some (.agg z6.toArray), 6, 80) := by kernel_rfl
theorem mkV_n {o : Oper} {a : Act} {X Y : Operand} (qs : Pts) (n : Nat) (hn : n ≤ 1000000) (ho : o.op = .makeSlice 24 X Y) (hX : a.eval X = .int .i64 (n : Int)) (hY : a.eval Y = .int .i64 (n : Int)) (w : World) :
    (execOp a.eval o).run Tryd.prog w = .ok (.value (.slice (some ⟨w.heap.size, 0, none⟩) n n)) (w.alloc (.cells (Mx qs 0 n) 30)) := by
  obtain ⟨i0, hi0, hz0, hz1, hz2⟩ := info_parts infoVec
  have hr := run_make (P := Tryd.prog) w 24 30 _ _ Tryd.underlying24 hi0 hz0 .i64 .i64 n n (by omega) (by omega) (by rw [hz2]; omega) (by omega)
  simp only [Int.toNat_natCast] at hr
  rw [hz1, show (Value.agg z6.toArray).cells = z6.toArray from rfl, ← Mx_zero qs] at hr
  unfold execOp
  simp only [ho, hX, hY, Sem.run_bind, hr, Result.andThen_ok, Sem.run_pure]
theorem mvP_z {k : Nat} {a1 a2 aw : Rat} {ha : Bool} {ps : Pts} (Za1 : Rz k a1) (Za2 : Rz k a2) (Zaw : Rz k aw) (hz : Pz k ps) : Pz (74 * k + 83) (mvP (cosT ha aw) (sinT aw) a1 a2 ps) := by
  intro p hp
  obtain ⟨⟨x, y⟩, hq, rfl⟩ := List.mem_map.1 hp
  obtain ⟨Zx, Zy⟩ := hz _ hq
  refine ⟨?_, ?_⟩
  · show Rz _ (a1 + (x * cosT ha aw - y * sinT aw))
    exact (Za1.add ((Zx.mul (Rz.cosT ha Zaw)).sub (Zy.mul (Rz.sinT Zaw)))).more (by omega)
  · show Rz _ (a2 + (x * sinT aw + y * cosT ha aw))
    exact (Za2.add ((Zx.mul (Rz.sinT Zaw)).add (Zy.mul (Rz.cosT ha Zaw)))).more (by omega)
set_option maxHeartbeats 4000000 in
set_option maxRecDepth 20000 in
theorem flist_q {k n : Nat} {a1 a2 aw : Rat} {ha : Bool} {ps qs : Pts} {W : World} {l : List Own} (hT : Tab W) (Za1 : Rz k a1) (Za2 : Rz k a2) (Zaw : Rz k aw) (hga : GoodT ha aw) (hz : Pz k ps) (hl : ps.length = n) (hn : n ≤ 1000000) (hq : mvP (cosT ha aw) (sinT aw) a1 a2 ps = qs) (hk : k ≤ 10000000) (g : Nat) (w : World) (h : St W l w) (hg : Blk w g 30 (PC ps)) :
    Calls Tryd.prog 10 #[.agg (FC a1 a2 ha aw), .slice (some ⟨g, 0, none⟩) n n] w fun e w' => ∃ p, w.heap.size ≤ p ∧ e = .returned (mk (some qs.length) p) ∧ Below w.heap.size w w' ∧ Blk w' p 30 (PC qs) := by
  have HT := Lib.hid (tabS hT h); clear hT h
  have HG := Lib.hid hg; clear hg
  have HGA := Lib.hid hga; clear hga
  have HZP := Lib.hid (show Pz (1 * k + 0) ps by rw [Nat.one_mul]; exact hz); clear hz
  have HQL := Lib.hid (show qs.length = n by rw [← hq, mvP_len]; exact hl)
  have HL := Lib.hid hl; clear hl
  have HQ := Lib.hid hq; clear hq
  have HN := Lib.hid hn; clear hn
  have Z_a1 := Lib.hid Za1; clear Za1
  have Z_a2 := Lib.hid Za2; clear Za2
  have Z_aw := Lib.hid Zaw; clear Zaw
  go_enter Tryd.func10, Tryd.ntmps10
  have HS : St w [] w := St.start
  go_upto_region 0 with (fail)
  refine wp_seq_text [] (StR.no HS) ?_
  refine Seq.box rfl rfl rfl (v := .agg (FC a1 a2 ha aw)) (cs := FC a1 a2 ha aw) rfl rfl ?_
  intro bk2 _ _ hbk2_r
  simp only [Act.put, List.setIfInBounds_toArray, List.set_cons_zero, List.set_cons_succ]
  refine Seq.pure rfl rfl (by intro w; go_simp; try first | with_reducible rfl | rfl) ?_
  simp only [Act.put, List.setIfInBounds_toArray, List.set_cons_zero, List.set_cons_succ]
  refine Seq.done fun ws1 hws => ?_
  have HS1 : St w [(bk2, 34, FC a1 a2 ha aw)] ws1 := hws.list1 (by first | exact rS | exact rN (by assumption) (rS) | exact rN (by assumption) (rN (by assumption) (rS)) | exact rN (by assumption) (rN (by assumption) (rN (by assumption) (rS))) | exact rN (by assumption) (rN (by assumption) (rN (by assumption) (rN (by assumption) (rS)))))
  clear HS hws
  go_upto_region 1 with (fail)
  refine wp_seq_text [] (StR.no HS1) ?_
  refine Seq.pure rfl rfl (by intro w; go_simp; try first | with_reducible rfl | rfl) ?_
  simp only [Act.put, List.setIfInBounds_toArray, List.set_cons_zero, List.set_cons_succ]
  refine Seq.pure (v := .int .i64 (n : Int)) rfl rfl (by intro w; go_simp; try first | with_reducible rfl | rfl) ?_
  simp only [Act.put, List.setIfInBounds_toArray, List.set_cons_zero, List.set_cons_succ]
  refine Seq.slice (n := n) (e := 30) (cs := Mx qs 0 n) rfl rfl (fun w => mkV_n qs n HN.out rfl rfl rfl w) ?_
  intro bk10 _ _ hbk10_r
  simp only [Act.put, List.setIfInBounds_toArray, List.set_cons_zero, List.set_cons_succ]
  refine Seq.pure rfl rfl (by intro w; go_simp; try first | with_reducible rfl | rfl) ?_
  simp only [Act.put, List.setIfInBounds_toArray, List.set_cons_zero, List.set_cons_succ]
  refine Seq.done fun ws2 hws => ?_
  have HS2 : St w [(bk10, 30, Mx qs 0 n), (bk2, 34, FC a1 a2 ha aw)] ws2 := hws.list1 (by first | exact rS | exact rN (by assumption) (rS) | exact rN (by assumption) (rN (by assumption) (rS)) | exact rN (by assumption) (rN (by assumption) (rN (by assumption) (rS))) | exact rN (by assumption) (rN (by assumption) (rN (by assumption) (rN (by assumption) (rS)))))
  clear HS1 hws
  go_upto_region 2 with (fail)
  refine wp_seq_text [] (StR.no HS2) ?_
  refine Seq.pure rfl rfl (by intro w; go_simp; try first | with_reducible rfl | rfl) ?_
  simp only [Act.put, List.setIfInBounds_toArray, List.set_cons_zero, List.set_cons_succ]
  refine Seq.pure (v := .int .i64 (n : Int)) rfl rfl (by intro w; go_simp; try first | with_reducible rfl | rfl) ?_
  simp only [Act.put, List.setIfInBounds_toArray, List.set_cons_zero, List.set_cons_succ]
  refine Seq.pure rfl rfl (by intro w; go_simp; try first | with_reducible rfl | rfl) ?_
  simp only [Act.put, List.setIfInBounds_toArray, List.set_cons_zero, List.set_cons_succ]
  refine Seq.done fun ws3 hws => ?_
  have HS3 := hws.st
  clear HS2 hws
  go_wp2_with fail
  go_loopg [13] n (fun kk s13 wr => ∃ i : Nat, kk = n - i ∧ s13 = .int .i64 (i : Int) ∧ i ≤ n ∧ Hid (St w [(bk10, 30, Mx qs i n), (bk2, 34, FC a1 a2 ha aw)] wr))
  case atStart => exact ⟨0, rfl, rfl, by omega, Lib.hid HS3⟩
  case round =>
    obtain ⟨i, hgk, rfl, hin, hS⟩ := hrel
    have HGK := Lib.hid hgk; clear hgk
    have HR := hS.out; clear hS
    by_cases hc : i < n
    · obtain ⟨i1, hi1⟩ : ∃ i1 : Nat, i1 = i + 1 := ⟨_, rfl⟩
      have HI1 := Lib.hid (show IntKind.i64.wrap ((i : Int) + 1) = (i1 : Int) ∧ n - i1 < n - i ∧ i1 ≤ n ∧ i1 = i + 1 from ⟨by have := HN.out; rw [i64_s _ (by omega) (by omega)]; omega, by omega, by omega, hi1⟩)
      have HC := Lib.hid hc
      have HPX := Lib.hid (show a1 + (px ps i * cosT ha aw - py ps i * sinT aw) = px qs i ∧ a2 + (px ps i * sinT aw + py ps i * cosT ha aw) = py qs i from
        ⟨by rw [← HQ.out, px_mv (lt_of_pts HL.out hc)]; rfl, by rw [← HQ.out, py_mv (lt_of_pts HL.out hc)]; rfl⟩)
      clear hc hin hi1
      go_upto_region 3 with (fail)
      refine wp_seq_text [] (StR.no HR) ?_
      refine Seq.pure (v := .bool true) rfl rfl (by intro w; go_simp <;> (first | (rw [HC.out]; done) | exact HC.out | (simp [HC.out]; done) | (trace_state; done))) ?_
      simp only [Act.put, List.setIfInBounds_toArray, List.set_cons_zero, List.set_cons_succ]
      refine Seq.done fun ws4 hws => ?_
      have HS4 := hws.st
      clear HR hws
      go_upto_region 4 with (fail)
      refine wp_seq_text [] (StR.no HS4) ?_
      refine Seq.pure rfl rfl (by intro w; go_simp; try first | with_reducible rfl | rfl) ?_
      simp only [Act.put, List.setIfInBounds_toArray, List.set_cons_zero, List.set_cons_succ]
      refine Seq.index (m := 6) i rfl rfl rfl rfl rfl (by kernel_rfl) rfl HC.out ?_
      simp only [Act.put, List.setIfInBounds_toArray, List.set_cons_zero, List.set_cons_succ]
      refine Seq.loadAtF rfl rfl rfl rfl HG.out (n := 6) (cs' := VC (px ps i) (py ps i)) (PC_room (lt_of_pts HL.out HC.out)) (by kernel_rfl) (PC_at (lt_of_pts HL.out HC.out)) ?_
      simp only [Act.put, List.setIfInBounds_toArray, List.set_cons_zero, List.set_cons_succ]
      refine Seq.alloc rfl rfl rfl (z := .agg #[.bool false, .string ⟨#[]⟩, .string ⟨#[]⟩, .bool false, .string ⟨#[]⟩, .string ⟨#[]⟩]) (by kernel_rfl) rfl ?_
      intro bk7 _ _ hbk7_r
      simp only [Act.put, List.setIfInBounds_toArray, List.set_cons_zero, List.set_cons_succ]
      refine Seq.pure rfl rfl (by intro w; go_simp; try first | with_reducible rfl | rfl) ?_
      simp only [Act.put, List.setIfInBounds_toArray, List.set_cons_zero, List.set_cons_succ]
      refine Seq.store rfl rfl rfl rfl rfl (by first | exact rS | exact rN (by assumption) (rS) | exact rN (by assumption) (rN (by assumption) (rS)) | exact rN (by assumption) (rN (by assumption) (rN (by assumption) (rS))) | exact rN (by assumption) (rN (by assumption) (rN (by assumption) (rN (by assumption) (rS))))) (n := 6) rfl rfl (by kernel_rfl) (VC_one _ _) ?_
      simp only [Act.put, List.setIfInBounds_toArray, List.set_cons_zero, List.set_cons_succ]
      refine Seq.done fun ws5 hws => ?_
      have HS5 : St w [(bk7, 30, VC (px ps i) (py ps i)), (bk10, 30, Mx qs i n), (bk2, 34, FC a1 a2 ha aw)] ws5 := hws.list1 (by first | exact rS | exact rN (by assumption) (rS) | exact rN (by assumption) (rN (by assumption) (rS)) | exact rN (by assumption) (rN (by assumption) (rN (by assumption) (rS))) | exact rN (by assumption) (rN (by assumption) (rN (by assumption) (rN (by assumption) (rS)))))
      clear HS4 hws
      go_upto_region 5 with (fail)
      have HPbk10 : St w [(bk10, 30, Mx qs i n), (bk7, 30, VC (px ps i) (py ps i)), (bk2, 34, FC a1 a2 ha aw)] _ := St.perm HS5 (List.perm_middle (l₁ := ([(bk7, 30, VC (px ps i) (py ps i))] : List Own)))
      refine wp_seq_text [3000000] (StR.move (StR.no HPbk10)) ?_
      refine Seq.pure rfl rfl (by intro w; go_simp; try first | with_reducible rfl | rfl) ?_
      simp only [Act.put, List.setIfInBounds_toArray, List.set_cons_zero, List.set_cons_succ]
      refine Seq.pure rfl rfl (by intro w; go_simp; try first | with_reducible rfl | rfl) ?_
      simp only [Act.put, List.setIfInBounds_toArray, List.set_cons_zero, List.set_cons_succ]
      refine Seq.load rfl rfl rfl rfl (by repeat (first | exact mC | apply mT)) (n := 10) rfl (by kernel_rfl) ?_
      simp only [Act.put, List.setIfInBounds_toArray, List.set_cons_zero, List.set_cons_succ]
      refine Seq.load rfl rfl rfl rfl (by repeat (first | exact mC | apply mT)) (n := 6) rfl (by kernel_rfl) ?_
      simp only [Act.put, List.setIfInBounds_toArray, List.set_cons_zero, List.set_cons_succ]
      refine Seq.call rfl rfl rfl rfl (by kernel_rfl) (fput_q (k := (1 * k + 0)) HT.out (Z_a1.out.more (by omega)) (Z_a2.out.more (by omega)) (Z_aw.out.more (by omega)) ((HZP.out.x (lt_of_pts HL.out HC.out)).more (by omega)) ((HZP.out.y (lt_of_pts HL.out HC.out)).more (by omega)) HGA.out HPX.out.1 HPX.out.2 (by omega)) ?_
      simp only [Act.put, List.setIfInBounds_toArray, List.set_cons_zero, List.set_cons_succ]
      refine Seq.index (m := 6) i rfl rfl rfl rfl rfl (by kernel_rfl) rfl HC.out ?_
      simp only [Act.put, List.setIfInBounds_toArray, List.set_cons_zero, List.set_cons_succ]
      refine Seq.storeAt (v := .agg (VC (px qs i) (py qs i))) rfl rfl rfl rfl rfl (by first | exact rS | exact rN (by assumption) (rS) | exact rN (by assumption) (rN (by assumption) (rS)) | exact rN (by assumption) (rN (by assumption) (rN (by assumption) (rS))) | exact rN (by assumption) (rN (by assumption) (rN (by assumption) (rN (by assumption) (rS))))) (by have := HC.out; rw [Mx_size]; show 6 * i + 6 ≤ 6 * n; omega) (by show _ = some 6; kernel_rfl) (VC_one _ _) (Mx_put qs HC.out) ?_
      simp only [Act.put, List.setIfInBounds_toArray, List.set_cons_zero, List.set_cons_succ]
      refine Seq.done fun ws6 hws => ?_
      have HS6 : St w [(bk10, 30, Mx qs (i + 1) n), (bk7, 30, VC (px ps i) (py ps i)), (bk2, 34, FC a1 a2 ha aw)] ws6 := hws.list1 (by first | exact rS | exact rN (by assumption) (rS) | exact rN (by assumption) (rN (by assumption) (rS)) | exact rN (by assumption) (rN (by assumption) (rN (by assumption) (rS))) | exact rN (by assumption) (rN (by assumption) (rN (by assumption) (rN (by assumption) (rS)))))
      clear HS5 hws HPbk10
      go_upto_region 6 with (fail)
      refine wp_seq_text [] (StR.no HS6) ?_
      refine Seq.pure (v := .int .i64 (i1 : Int)) rfl rfl (by intro w; go_simp <;> (first | (rw [HI1.out.1]; done) | exact HI1.out.1 | (simp [HI1.out.1]; done) | (trace_state; done))) ?_
      simp only [Act.put, List.setIfInBounds_toArray, List.set_cons_zero, List.set_cons_succ]
      refine Seq.pure rfl rfl (by intro w; go_simp; try first | with_reducible rfl | rfl) ?_
      simp only [Act.put, List.setIfInBounds_toArray, List.set_cons_zero, List.set_cons_succ]
      refine Seq.done fun ws7 hws => ?_
      have HS7 := hws.st
      clear HS6 hws
      rw [← HI1.out.2.2.2] at HS7
      go_wp2_with fail
      go_roundg (n - i1)
      case measure => rw [HGK.out]; exact HI1.out.2.1
      case rel => exact ⟨i1, rfl, rfl, HI1.out.2.2.1, Lib.hid (HS7.sub (.cons_cons _ (.cons _ (.refl _))))⟩
    · have HIN := Lib.hid (show i = n by omega)
      have HC := Lib.hid (show n ≤ i by omega)
      clear hc hin
      go_upto_region 3 with (fail)
      refine wp_seq_text [] (StR.no HR) ?_
      refine Seq.pure (v := .bool false) rfl rfl (by intro w; go_simp <;> (first | (rw [HC.out]; done) | exact HC.out | (simp [HC.out]; done) | (trace_state; done))) ?_
      simp only [Act.put, List.setIfInBounds_toArray, List.set_cons_zero, List.set_cons_succ]
      refine Seq.done fun ws4 hws => ?_
      have HS4 := hws.st
      clear HR hws
      go_upto_region 7 with (fail)
      refine wp_seq_text [] (StR.no HS4) ?_
      refine Seq.pure rfl rfl (by intro w; go_simp; try first | with_reducible rfl | rfl) ?_
      simp only [Act.put, List.setIfInBounds_toArray, List.set_cons_zero, List.set_cons_succ]
      refine Seq.pure rfl rfl (by intro w; go_simp; try first | with_reducible rfl | rfl) ?_
      simp only [Act.put, List.setIfInBounds_toArray, List.set_cons_zero, List.set_cons_succ]
      refine Seq.done fun ws5 hws => ?_
      have HS5 := hws.st
      clear HS4 hws
      go_wp2_with fail
      go_ret
      have hb := (HS5.blk (bk10, _, _) (by repeat (first | exact mC | apply mT)))
      exact ⟨_, hb.1, by rw [HQL.out]; rfl, HS5.below, by have := hb.2; rw [HIN.out, Mx_all HQL.out] at this; exact this⟩
end Go.Proofs.YtbgifinfflehmaaDoor
