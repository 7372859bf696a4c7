/- Joined texts: Po4 Po5 Po6. -/
import Derived.Test.YtmchjmflkaiakaaGreatDoorPo3
import Derived.Test.YtmchjmflkaiakaaGreatDoorSp3
import Derived.Deep.LoopGhost
/- gantmake.Poly, frame.List (printed by lawvec.py). -/
namespace Go.Proofs.YtmchjmflkaiakaaGreatDoor
open Go.RowKit
set_option linter.unusedVariables false
set_option linter.unusedSimpArgs false

section
variable {P : Program} {ops : Array Oper} {W : World} {l : List Own} {Q : Exit → Act → World → Prop} {gs : List Nat} {k : Nat} {o : Oper} {rest : List Oper} {a : Act} {R : Reg}
theorem Seq.callE {f : FuncId} {xs : List Operand} {ts : Array TypeId} {vs : Array Value} (ho : o.op = .call { callee := .value (.func f), args := xs.toArray, argTypes := ts }) (hg : gs.contains 3000000 = true) (hw : wants ops o a = true)
  (hx : xs.map a.eval = vs.toList) (hf : goesIn P f = true)
  (hc : ∀ w, StR W l R w → Calls P f vs w (fun e w' => ∃ v R', e = .returned v ∧ StR W l R' w' ∧ Seq P ops Q W l gs (k + 1) rest (a.put o.dst v) R')) : Seq P ops Q W l gs k (o :: rest) a R := by
 refine Seq.gen hg hw fun w hs => ?_
 have hr : (execOp a.eval o).run P w = .ok (.enter f vs) w := by
  unfold goesIn at hf
  cases hp : P.funcs[f]? with
  | none => simp [hp] at hf
  | some fn =>
    simp only [hp, Bool.and_eq_true, bne_iff_ne, ne_eq] at hf
    have hb : fn.body.isNone = false := by cases hq : fn.body <;> simp_all
    have hv : (xs.map a.eval).toArray = vs := by rw [hx]
    simp [execOp, ho, resolve, invoke, callFunc, Deferred.ofValue, Act.eval, hp, hf.1, hb, hv, go_sem]
    intro hq; rw [hq] at hb; cases hb
 unfold Oper.wp
 rw [hr]
 simp only [Oper.upon]
 refine Calls.mono (hc w hs) fun e w' he => ?_
 obtain ⟨v, R', rfl, h2, h3⟩ := he
 exact ⟨R', h2, h3⟩
end
theorem Ints.next {W w : World} {A : Option Addr} {n c : Nat} {xs : List Int} (h : Ints W A n c xs) (hb : Below W.heap.size W w) : Ints w A n c xs := ⟨(h.1.below hb).more hb.size, h.2⟩
set_option maxHeartbeats 2000000 in
set_option maxRecDepth 20000 in
theorem poly_F {W : World} {l : List Own} {n c : Nat} {A : Option Addr} {xs : List Int} (hi : Ints W A n c xs) (w : World) (h : St W l w) :
  Calls Tryz.prog 11 #[.slice A n c] w fun e w' => ∃ p, w.heap.size ≤ p ∧ e = .returned (mk (some (polyQ xs).length) p) ∧ Below w.heap.size w w' ∧ Blk w' p 29 (PC (polyQ xs)) := by
 have HI := Lib.hid (hi.next h.below); clear hi h
 go_enter Tryz.func11, Tryz.ntmps11
 have HS : St w [] w := St.start
 go_upto_region 0 with (fail)
 refine rgT [] HS ?_
 refine pW ?_
 refine Seq.done fun ws1 hws => ?_
 have HS1 := hws.st
 clear HS hws
 go_upto_region 1 with (fail)
 refine rgT [3000000] HS1 ?_
 refine pW ?_
 refine pV (.agg #[.slice A n c]) (by intro w; go_simp; try first | with_reducible rfl | rfl) ?_
 refine bX (#[.slice A n c]) ?_
 intro bk5 _ _ hbk5_r
 refine nZ ?_
 refine Seq.callE rfl rfl rfl rfl (by kernel_rfl) (fun w2 h2 => (poly_S HI.out w2 h2.only).mono ?_)
 rintro e w3 ⟨p, sl, rfl, hp, h3⟩
 refine ⟨_, _, rfl, StR.move (StR.move (StR.no h3)), ?_⟩
 have hne : p ≠ bk5 := (List.pairwise_cons.1 h3.apart).1 _ List.mem_cons_self
 clear h3
 simp only [Act.put, List.setIfInBounds_toArray, List.set_cons_zero, List.set_cons_succ]
 refine pW ?_
 refine Seq.done fun ws3 hws => ?_
 go_wp2_with fail
 go_ret
 exact ⟨p, hp, rfl, hws.st.below, (hws.reg p _ _ (rN hne rS)).2.2⟩
def z6 : List Value := [.bool false, .string ⟨#[]⟩, .string ⟨#[]⟩, .bool false, .string ⟨#[]⟩, .string ⟨#[]⟩]
theorem flat_take {α : Type} {ls : List (List α)} (h : ∀ x ∈ ls, x.length = 6) (i : Nat) : ls.flatten.take (6 * i) = (ls.take i).flatten := by
 induction i generalizing ls with
 | zero => simp
 | succ i ih =>
   cases ls with
   | nil => simp
   | cons x ls =>
     have hx := h x List.mem_cons_self
     rw [List.flatten_cons, List.take_append, hx, show 6 * (i + 1) - 6 = 6 * i by omega, ih (fun y hy => h y (List.mem_cons_of_mem _ hy)), List.take_of_length_le (by omega), List.take_succ_cons, List.flatten_cons]
theorem flat_drop {α : Type} {ls : List (List α)} (h : ∀ x ∈ ls, x.length = 6) (i : Nat) : ls.flatten.drop (6 * i) = (ls.drop i).flatten := by
 induction i generalizing ls with
 | zero => simp
 | succ i ih =>
   cases ls with
   | nil => simp
   | cons x ls =>
     have hx := h x List.mem_cons_self
     rw [List.flatten_cons, List.drop_append, hx, show 6 * (i + 1) - 6 = 6 * i by omega, ih (fun y hy => h y (List.mem_cons_of_mem _ hy)), List.drop_of_length_le (by omega), List.nil_append, List.drop_succ_cons]
def MxL (qs : Pts) (i n : Nat) : List (List Value) := (List.range n).map fun j => if j < i then (VC (px qs j) (py qs j)).toList else z6
def Mx (qs : Pts) (i n : Nat) : Array Value := (MxL qs i n).flatten.toArray
theorem MxL_6 (qs : Pts) (i n : Nat) : ∀ x ∈ MxL qs i n, x.length = 6 := by
 intro x hx
 obtain ⟨j, -, rfl⟩ := List.mem_map.1 hx
 split <;> rfl
theorem Mx_size (qs : Pts) (i n : Nat) : (Mx qs i n).size = 6 * n := by
 show (MxL qs i n).flatten.length = _
 have h : ∀ ls : List (List Value), (∀ x ∈ ls, x.length = 6) → ls.flatten.length = 6 * ls.length := by
  intro ls
  induction ls with
  | nil => intro _; rfl
  | cons x ls ih =>
    intro h
    rw [List.flatten_cons, List.length_append, ih (fun y hy => h y (List.mem_cons_of_mem _ hy)), h x List.mem_cons_self, List.length_cons]; omega
 rw [h _ (MxL_6 _ _ _)]
 simp [MxL]
theorem MxL_set (qs : Pts) {i n : Nat} (h : i < n) : (MxL qs i n).take i ++ ((VC (px qs i) (py qs i)).toList :: (MxL qs i n).drop (i + 1)) = MxL qs (i + 1) n := by
 apply List.ext_getElem
 ·simp [MxL]; omega
 ·intro j h1 h2
  have hj : j < n := by simpa [MxL] using h2
  rw [List.getElem_append]
  split
  ·rename_i h3
   have hji : j < i := by simp [MxL] at h3; omega
   simp [MxL, hji]; intro; omega
  ·rename_i h3
   have hji : i ≤ j := by simp [MxL] at h3; omega
   rcases Nat.lt_or_ge i j with h4 | h4
   ·have e : j - ((MxL qs i n).take i).length = (j - i - 1) + 1 := by simp [MxL]; omega
    simp only [e, List.getElem_cons_succ]
    simp [MxL, show i + 1 + (j - i - 1) = j by omega, show ¬ j < i by omega, show ¬ j < i + 1 by omega]
   ·have e : i = j := by omega
    subst e
    have e2 : i - ((MxL qs i n).take i).length = 0 := by simp [MxL]; omega
    simp only [e2, List.getElem_cons_zero]
    simp [MxL]
theorem Mx_put (qs : Pts) {i n : Nat} (h : i < n) : ((Mx qs i n).toList.take (6 * i) ++ (Value.agg (VC (px qs i) (py qs i))).cells.toList ++ (Mx qs i n).toList.drop (6 * i + (Value.agg (VC (px qs i) (py qs i))).cells.size)).toArray = Mx qs (i + 1) n := by
 have hs : (Value.agg (VC (px qs i) (py qs i))).cells.size = 6 := rfl
 have hc : (Value.agg (VC (px qs i) (py qs i))).cells.toList = (VC (px qs i) (py qs i)).toList := rfl
 rw [hs, hc, show 6 * i + 6 = 6 * (i + 1) by omega]
 show (List.take (6 * i) (MxL qs i n).flatten ++ _ ++ List.drop (6 * (i + 1)) (MxL qs i n).flatten).toArray = _
 rw [flat_take (MxL_6 _ _ _), flat_drop (MxL_6 _ _ _)]
 unfold Mx
 rw [← MxL_set qs h, List.flatten_append, List.flatten_cons, List.append_assoc]
theorem Mx_all {qs : Pts} {n : Nat} (h : qs.length = n) : Mx qs n n = PC qs := by
 subst h
 unfold Mx PC MxL
 congr 1
 rw [List.flatMap_def]
 congr 1
 apply List.ext_getElem
 ·simp
 ·intro j h1 h2
  have hj : j < qs.length := by simpa using h2
  have := getD_pt hj
  simp [hj, this]
theorem made6 (n : Nat) : madeCells z6.toArray (n * 6) = (List.replicate n z6).flatten.toArray := by
 apply Array.toList_inj.1
 unfold madeCells
 rw [Array.toList_map]
 show List.map _ (Array.range (n * 6)).toList = _
 rw [Array.toList_range]
 induction n with
 | zero => rfl
 | succ n ih =>
   rw [show (n + 1) * 6 = n * 6 + 6 by omega, List.range_add, List.map_append, ih, List.replicate_succ', List.flatten_append]
   congr 1
   have e : ∀ j, (n * 6 + j) % z6.toArray.size = j % 6 := fun j => by
    show (n * 6 + j) % 6 = _
    omega
   simp only [List.map_map, Function.comp_def, e]
   rfl
theorem Mx_zero (qs : Pts) (n : Nat) : Mx qs 0 n = madeCells z6.toArray (n * 6) := by
 rw [made6]
 unfold Mx MxL
 congr 2
 apply List.ext_getElem
 ·simp
 ·intro j h1 h2; simp
theorem infoVec : (Tryz.prog.info? 29).map (fun i => (i.zero, i.size, i.bytes)) = some (some (.agg z6.toArray), 6, 80) := by kernel_rfl
theorem mkV_n {o : Oper} {a : Act} {X Y : Operand} (qs : Pts) (n : Nat) (hn : n ≤ 1000000) (ho : o.op = .makeSlice 24 X Y) (hX : a.eval X = .int .i64 (n : Int)) (hY : a.eval Y = .int .i64 (n : Int)) (w : World) :
  (execOp a.eval o).run Tryz.prog w = .ok (.value (.slice (some ⟨w.heap.size, 0, none⟩) n n)) (w.alloc (.cells (Mx qs 0 n) 29)) := by
 obtain ⟨i0, hi0, hz0, hz1, hz2⟩ := info_parts infoVec
 have hr := run_make (P := Tryz.prog) w 24 29 _ _ Tryz.underlying24 hi0 hz0 .i64 .i64 n n (by omega) (by omega) (by rw [hz2]; omega) (by omega)
 simp only [Int.toNat_natCast] at hr
 rw [hz1, show (Value.agg z6.toArray).cells = z6.toArray from rfl, ← Mx_zero qs] at hr
 unfold execOp
 simp only [ho, hX, hY, Sem.run_bind, hr, Result.andThen_ok, Sem.run_pure]
theorem mvP_z {k : Nat} {a1 a2 aw : Rat} {ha : Bool} {ps : Pts} (Za1 : Rz k a1) (Za2 : Rz k a2) (Zaw : Rz k aw) (hz : Pz k ps) : Pz (74 * k + 83) (mvP (cosT ha aw) (sinT aw) a1 a2 ps) := by
 intro p hp
 obtain ⟨⟨x, y⟩, hq, rfl⟩ := List.mem_map.1 hp
 obtain ⟨Zx, Zy⟩ := hz _ hq
 refine ⟨?_, ?_⟩
 ·show Rz _ (a1 + (x * cosT ha aw - y * sinT aw))
  exact (Za1.add ((Zx.mul (Rz.cosT ha Zaw)).sub (Zy.mul (Rz.sinT Zaw)))).more (by omega)
 ·show Rz _ (a2 + (x * sinT aw + y * cosT ha aw))
  exact (Za2.add ((Zx.mul (Rz.sinT Zaw)).add (Zy.mul (Rz.cosT ha Zaw)))).more (by omega)
theorem area_G {k n : Nat} {ps : Pts} {z0 : Rat} {W : World} {l : List Own} (hT : Tab W) (hz : Pz k ps) (hl : ps.length = n) (hcv : 3 ≤ n ∧ n ≤ 16 ∧ Cvx ps) (hz0 : areaQ ps = z0) (hk : k ≤ 100000) (g : Nat) (w : World) (h : St W l w) (hg : Blk w g 29 (PC ps)) :
  Calls Tryz.prog 57 #[.slice (some ⟨g, 0, none⟩) n n] w fun e w' => e = .returned (.agg (RC z0)) ∧ Below w.heap.size w w' := by
 rw [← hz0]; exact area_q hT hz hl hcv hk g w h hg
theorem poly_G {W : World} {l : List Own} {n c m : Nat} {A : Option Addr} {xs : List Int} {ps : Pts} (hi : Ints W A n c xs) (hp : polyQ xs = ps) (hl : ps.length = m) (w : World) (h : St W l w) :
  Calls Tryz.prog 11 #[.slice A n c] w fun e w' => ∃ p, w.heap.size ≤ p ∧ e = .returned (mk (some m) p) ∧ Below w.heap.size w w' ∧ Blk w' p 29 (PC ps) := by
 subst hp; subst hl; exact poly_F hi w h
theorem q4_rz {z : Int} (h0 : -32 ≤ z) (h1 : z ≤ 32) : Rz 2 (q4 z) := (SmallQ.rz ⟨z, 4, rfl, by omega, by omega, by omega, by omega⟩).more (by omega)
theorem polyQ_z (xs : List Int) : Pz 2 (polyQ xs) := by
 have b0 := nxV_lt xs (show 0 < 6 by omega)
 have b1 := nxV_lt xs.tail (show 0 < 6 by omega)
 have b3 := nxV_lt xs.tail.tail.tail (show 0 < 2 * (1 + nxV xs 6) + 1 by omega)
 unfold polyQ shape
 split
 ·intro p hp
  simp only [List.mem_cons, List.not_mem_nil, or_false] at hp
  rcases hp with rfl | rfl | rfl | rfl <;> exact ⟨q4_rz (by omega) (by omega), q4_rz (by omega) (by omega)⟩
 ·split
  ·intro p hp
   simp only [List.mem_cons, List.not_mem_nil, or_false] at hp
   rcases hp with rfl | rfl | rfl <;> exact ⟨q4_rz (by omega) (by omega), q4_rz (by omega) (by omega)⟩
  ·split
   ·intro p hp
    simp only [List.mem_cons, List.not_mem_nil, or_false] at hp
    rcases hp with rfl | rfl | rfl | rfl | rfl <;> exact ⟨q4_rz (by omega) (by omega), q4_rz (by omega) (by omega)⟩
   ·intro p hp
    simp only [List.mem_cons, List.not_mem_nil, or_false] at hp
    rcases hp with rfl | rfl | rfl | rfl <;> exact ⟨q4_rz (by omega) (by omega), q4_rz (by omega) (by omega)⟩
theorem polyQ_len (xs : List Int) : 3 ≤ (polyQ xs).length ∧ (polyQ xs).length ≤ 5 := shape_len _ _ _ _
set_option maxRecDepth 20000 in
theorem pat_q {x y : Int} {z0 z1 : Rat} {W : World} {l : List Own} (hT : Tab W) (hx : (-9223372036854775808 ≤ x ∧ x ≤ 9223372036854775807)) (hy : (-9223372036854775808 ≤ y ∧ y ≤ 9223372036854775807)) (hz0 : (x : Rat) = z0) (hz1 : (y : Rat) = z1) (w : World) (h : St W l w) :
  Calls Tryz.prog 102 #[.int .i64 x, .int .i64 y] w fun e w' => e = .returned (.agg (VC z0 z1)) ∧ Below w.heap.size w w' := by
 subst hz0 hz1
 have HT := Lib.hid (tabS hT h); clear hT h
 have HI := Lib.hid (And.intro hx hy); clear hx hy
 go_enter Tryz.func102, Tryz.ntmps102
 have HS : St w [] w := St.start
 go_upto_region 0 with (fail)
 refine rgT [] HS ?_
 refine aL6 ?_
 intro bk4 _ _ hbk4_r
 refine nZ ?_
 refine Seq.done fun ws1 hws => ?_
 have HS1 := hws.q1 (p := bk4)
 clear HS hws
 go_upto_region 1 with (fail)
 refine wp_seq_text [] (StR.move (StR.no HS1)) ?_
 refine pW ?_
 refine cL (of_q HT.out HI.out.1.1 HI.out.1.2 rfl) ?_
 refine pW ?_
 refine cL (of_q HT.out HI.out.2.1 HI.out.2.2 rfl) ?_
 refine pV (.agg (VC ((x : Int) : Rat) ((y : Int) : Rat))) (fun w => bld_Vec rfl rfl rfl w) ?_
 refine Seq.store rfl rfl rfl rfl rfl (by repeat first|exact rS|refine rN ‹_› ?_) (n := 6) rfl rfl (by kernel_rfl) (VC_one _ _) (nZ ?_)
 refine Seq.done fun ws2 hws => ?_
 have HS2 := hws.q1 (p := bk4)
 clear HS1 hws
 go_wp2_with fail
 exact rO HS2 ⟨rfl, HS2.below⟩
theorem sq_z : Pz 2 [((0 : Rat), (0 : Rat)), ((2 : Rat), (0 : Rat)), ((2 : Rat), (2 : Rat)), ((0 : Rat), (2 : Rat))] := by
 have h2 : Rz 2 (2 : Rat) := Rz.lit (z := 2) rfl (by decide)
 intro p hp
 simp only [List.mem_cons, List.not_mem_nil, or_false] at hp
 rcases hp with rfl | rfl | rfl | rfl
 ·exact ⟨Rz.zero2, Rz.zero2⟩
 ·exact ⟨h2, Rz.zero2⟩
 ·exact ⟨h2, h2⟩
 ·exact ⟨Rz.zero2, h2⟩
theorem sq_cvx : Cvx [((0 : Rat), (0 : Rat)), ((2 : Rat), (0 : Rat)), ((2 : Rat), (2 : Rat)), ((0 : Rat), (2 : Rat))] := cvx_of (by decide +kernel)
theorem sq_area : areaQ [((0 : Rat), (0 : Rat)), ((2 : Rat), (0 : Rat)), ((2 : Rat), (2 : Rat)), ((0 : Rat), (2 : Rat))] = 4 := by decide +kernel
set_option maxHeartbeats 2000000 in
set_option maxRecDepth 20000 in
theorem pbegun_q {W : World} {l : List Own} (hT : Tab W) (w : World) (h : St W l w) :
  Calls Tryz.prog 60 #[] w fun e w' => e = .returned (.bool true) ∧ Below w.heap.size w w' := by
 have HT := Lib.hid (tabS hT h); clear hT h
 go_enter Tryz.func60, Tryz.ntmps60
 have HS : St w [] w := St.start
 go_upto_region 0 with (fail)
 refine rgT [] HS ?_
 refine pW ?_
 refine Seq.done fun ws1 hws => ?_
 have HS1 := hws.st
 clear HS hws
 go_upto_region 1 with (fail)
 refine rgT [] HS1 ?_
 refine pW ?_
 refine Seq.done fun ws2 hws => ?_
 have HS2 := hws.st
 clear HS1 hws
 go_upto_region 2 with (fail)
 refine rgT [23] HS2 ?_
 refine cL (vbegun_q HT.out) ?_
 refine pW ?_
 refine pW ?_
 refine Seq.callV rfl rfl rfl rfl rfl (by kernel_rfl) (pat_q (x := 0) (y := 0) HT.out (by omega) (by omega) rfl rfl) (nZ ?_)
 refine pW ?_
 refine Seq.callV rfl rfl rfl rfl rfl (by kernel_rfl) (pat_q (x := 2) (y := 0) HT.out (by omega) (by omega) rfl rfl) (nZ ?_)
 refine pW ?_
 refine Seq.callV rfl rfl rfl rfl rfl (by kernel_rfl) (pat_q (x := 2) (y := 2) HT.out (by omega) (by omega) rfl rfl) (nZ ?_)
 refine pW ?_
 refine Seq.callV rfl rfl rfl rfl rfl (by kernel_rfl) (pat_q (x := 0) (y := 2) HT.out (by omega) (by omega) rfl rfl) (nZ ?_)
 refine Seq.slice (n := 4) (e := 29) (cs := PC [((0 : Rat), (0 : Rat)), ((2 : Rat), (0 : Rat)), ((2 : Rat), (2 : Rat)), ((0 : Rat), (2 : Rat))]) rfl rfl (fun w => slcP_4 rfl rfl rfl rfl rfl w) ?_
 intro bk12 _ _ hbk12_r
 refine nZ ?_
 refine Seq.callAny rfl rfl rfl rfl (by kernel_rfl) (fun w h => area_G (k := 2) (n := 4) HT.out sq_z rfl ⟨by omega, by omega, sq_cvx⟩ sq_area (by omega) _ w h.st (h.reg _ _ _ (by repeat first|exact rS|refine rN ‹_› ?_)).2.2) (nZ ?_)
 refine cX rfl rfl (of_q HT.out (by omega) (by omega) rfl) ?_
 refine Seq.eqR rfl rfl rfl rfl rfl (b := true) (decide_eq_true rfl) (nZ ?_)
 refine pW ?_
 refine pW ?_
 refine Seq.done fun ws3 hws => ?_
 have HS3 := hws.q1 (p := bk12)
 clear HS2 hws
 go_wp2_with fail
 go_ret
 exact ⟨rfl, HS3.below⟩
set_option maxHeartbeats 2000000 in
set_option maxRecDepth 20000 in
theorem goodraw_q {W : World} {l : List Own} (w : World) (h : St W l w) :
  Calls Tryz.prog 125 #[.agg #[.bool false, .string ⟨#[]⟩, .string ⟨#[]⟩]] w fun e w' => e = .returned (.bool false) ∧ Below w.heap.size w w' := by
 clear h
 go_enter Tryz.func125, Tryz.ntmps125
 have HS : St w [] w := St.start
 go_upto_region 0 with (fail)
 refine rgT [] HS ?_
 refine bX (#[.bool false, .string ⟨#[]⟩, .string ⟨#[]⟩]) ?_
 intro bk1 _ _ hbk1_r
 refine nZ ?_
 refine pU ?_
 refine Seq.done fun ws1 hws => ?_
 have HS1 := hws.q1 (p := bk1)
 clear HS hws
 go_upto_region 1 with (fail)
 refine rgT [] HS1 ?_
 refine pU ?_
 refine Seq.loadCell rfl rfl rfl rfl (by repeat first|exact mC|apply mT) (v := .string ⟨#[]⟩) rfl (by kernel_rfl) rfl (nZ ?_)
 iterate 2 refine pU ?_
 iterate 4 refine nW ?_
 iterate 2 refine pU ?_
 iterate 12 refine nW ?_
 iterate 2 refine pU ?_
 iterate 9 refine nW ?_
 refine pU ?_
 refine Seq.done fun ws2 hws => ?_
 have HS2 := hws.st
 clear HS1 hws
 go_upto_region 2 with (fail)
 refine rgT [] HS2 ?_
 refine pU ?_
 refine Seq.done fun ws3 hws => ?_
 have HS3 := hws.st
 clear HS2 hws
 go_wp2_with fail
 go_ret
 exact ⟨rfl, HS3.below⟩
set_option maxHeartbeats 2000000 in
set_option maxRecDepth 20000 in
theorem fitraw_q {W : World} {l : List Own} (w : World) (h : St W l w) :
  Calls Tryz.prog 77 #[.agg #[.bool false, .string ⟨#[]⟩, .string ⟨#[]⟩]] w fun e w' => e = .returned (.agg (RC 0)) ∧ Below w.heap.size w w' := by
 clear h
 go_enter Tryz.func77, Tryz.ntmps77
 have HS : St w [] w := St.start
 go_upto_region 0 with (fail)
 refine rgT [] HS ?_
 refine bX (#[.bool false, .string ⟨#[]⟩, .string ⟨#[]⟩]) ?_
 intro bk1 _ _ hbk1_r
 refine nZ ?_
 refine aL3 ?_
 intro bk2 _ _ hbk2_r
 obtain ⟨_, _, hbk2_r⟩ := Reg.ne2 hbk2_r
 refine nZ ?_
 refine Seq.done fun ws1 hws => ?_
 have HS1 := hws.q2 (p := bk1) (q := bk2)
 clear HS hws
 go_upto_region 1 with (fail)
 refine rgT [] HS1 ?_
 refine lV ?_
 refine cL goodraw_q ?_
 refine pU ?_
 refine Seq.done fun ws2 hws => ?_
 have HS2 := hws.st
 clear HS1 hws
 go_upto_region 2 with (fail)
 have HPbk2 := HS2.p1
 refine wp_seq_text [] (StR.move (StR.no HPbk2)) ?_
 refine cL (fun w h => zero_R w) ?_
 refine sV (RC_one _) ?_
 refine Seq.done fun ws3 hws => ?_
 have HS3 := hws.q1 (p := bk2)
 clear HS2 hws HPbk2
 go_wp2_with fail
 exact rO HS3 ⟨rfl, HS3.below⟩
theorem sg_zero_n {u : Bool} {n : Nat} (h : sg u n = sg (decide (Rat.num 0 < 0)) (Rat.num 0).natAbs + sg (decide (Rat.num 0 < 0)) (Rat.num 0).natAbs) : Sz 2 n ∧ mkRat (sg u n) (Rat.den 0) = 0 := by
 have e : sg (decide (Rat.num 0 < 0)) (Rat.num 0).natAbs + sg (decide (Rat.num 0 < 0)) (Rat.num 0).natAbs = 0 := by decide
 rw [e] at h
 have hn : n = 0 := by unfold sg at h; split at h <;> omega
 subst hn
 rw [h]
 exact ⟨by unfold Sz; decide, by decide +kernel⟩
set_option maxHeartbeats 2000000 in
set_option maxRecDepth 20000 in
theorem addraw_q {W : World} {l : List Own} (hT : Tab W) (w : World) (h : St W l w) :
  Calls Tryz.prog 49 #[.agg #[.bool false, .string ⟨#[]⟩, .string ⟨#[]⟩], .agg #[.bool false, .string ⟨#[]⟩, .string ⟨#[]⟩]] w fun e w' => e = .returned (.agg (RC 0)) ∧ Below w.heap.size w w' := by
 have HT := Lib.hid (tabS hT h); clear hT h
 have HZ := Lib.hid (show Sz 2 (Rat.num 0).natAbs from by unfold Sz; decide)
 have HZ1 := Lib.hid (show Sz 2 (Rat.den 0) from by unfold Sz; decide)
 go_enter Tryz.func49, Tryz.ntmps49
 have HS : St w [] w := St.start
 go_upto_region 0 with (fail)
 refine rgT [] HS ?_
 refine bX (#[.bool false, .string ⟨#[]⟩, .string ⟨#[]⟩]) ?_
 intro bk2 _ _ hbk2_r
 refine nZ ?_
 refine bX (#[.bool false, .string ⟨#[]⟩, .string ⟨#[]⟩]) ?_
 intro bk3 _ _ hbk3_r
 obtain ⟨_, _, hbk3_r⟩ := Reg.ne2 hbk3_r
 refine nZ ?_
 refine aL3 ?_
 intro bk4 _ _ hbk4_r
 obtain ⟨_, _, hbk4_r⟩ := Reg.ne2 hbk4_r
 obtain ⟨_, _, hbk4_r⟩ := Reg.ne2 hbk4_r
 refine nZ ?_
 refine Seq.done fun ws1 hws => ?_
 have HS1 := hws.q3 (p := bk2) (q := bk3) (r := bk4)
 clear HS hws
 go_upto_region 1 with (fail)
 have HPbk3 := HS1.p1
 have HPbk2 := HPbk3.p1
 refine wS [0, 4] (Reg.fin.put (Reg.fin.put Reg.fin_no _ _) _ _) (StR.move (StR.move (StR.no HPbk2))) ?_
 refine gV ?_
 refine cL fitraw_q ?_
 refine gV ?_
 refine cL fitraw_q ?_
 refine sV (RC_one _) ?_
 refine sV (RC_one _) ?_
 refine Seq.done fun ws2 hws => ?_
 have HS2 := hws.q2 (p := bk2) (q := bk3)
 clear HS1 hws HPbk3 HPbk2
 go_upto_region 2 with (fail)
 refine rgT [] HS2 ?_
 refine pU ?_
 refine Seq.loadCell rfl rfl rfl rfl (by repeat first|exact mC|apply mT) (v := .string (S (Rat.den (0 : Rat)))) rfl (by kernel_rfl) rfl (nZ ?_)
 refine pU ?_
 refine Seq.loadCell rfl rfl rfl rfl (by repeat first|exact mC|apply mT) (v := .string (S (Rat.den (0 : Rat)))) rfl (by kernel_rfl) rfl (nZ ?_)
 refine pU ?_
 refine Seq.done fun ws3 hws => ?_
 have HS3 := hws.st
 clear HS2 hws
 go_upto_region 3 with (fail)
 refine rgT [3000000] HS3 ?_
 refine pU ?_
 refine Seq.loadCell rfl rfl rfl rfl (by repeat first|exact mC|apply mT) (v := .bool (decide (Rat.num (0 : Rat) < 0))) rfl (by kernel_rfl) rfl (nZ ?_)
 refine pU ?_
 refine Seq.loadCell rfl rfl rfl rfl (by repeat first|exact mC|apply mT) (v := .string (S (Rat.num (0 : Rat)).natAbs)) rfl (by kernel_rfl) rfl (nZ ?_)
 refine pU ?_
 refine Seq.loadCell rfl rfl rfl rfl (by repeat first|exact mC|apply mT) (v := .bool (decide (Rat.num (0 : Rat) < 0))) rfl (by kernel_rfl) rfl (nZ ?_)
 refine pU ?_
 refine Seq.loadCell rfl rfl rfl rfl (by repeat first|exact mC|apply mT) (v := .string (S (Rat.num (0 : Rat)).natAbs)) rfl (by kernel_rfl) rfl (nZ ?_)
 refine Seq.callE rfl rfl rfl rfl (by kernel_rfl) (fun w2 h2 => (signed_R _ _ _ _ 2 2 w2 HZ.out HZ.out (by omega) (by omega)).mono ?_)
 rintro e w3 ⟨⟨u_, n_, rfl, hsg⟩, hb_⟩
 refine ⟨_, _, rfl, h2.next hb_, ?_⟩
 have HSG := Lib.hid (sg_zero_n hsg); clear hsg hb_ h2
 simp only[Act.put,nA,nB,nC]
 refine pU ?_
 refine pV (.bool u_) (fun w => rfl) ?_
 refine pV (.string (S n_)) (fun w => rfl) ?_
 iterate 2 refine pU ?_
 refine Seq.done fun ws4 hws => ?_
 have HS4 := hws.st
 clear HS3 hws
 go_upto_region 4 with (fail)
 have HPbk4 := HS4.p2
 refine wp_seq_text [] (StR.move (StR.no HPbk4)) ?_
 iterate 3 refine pU ?_
 refine Seq.loadCell rfl rfl rfl rfl (by repeat first|exact mC|apply mT) (v := .string (S (Rat.den (0 : Rat)))) rfl (by kernel_rfl) rfl (nZ ?_)
 refine cX rfl rfl (made_q (k := 2) u_ n_ (Rat.den 0) HT.out (by decide) HSG.out.1 HZ1.out (by omega) HSG.out.2) ?_
 refine sV (RC_one _) ?_
 refine Seq.done fun ws5 hws => ?_
 have HS5 := hws.q1 (p := bk4)
 clear HS4 hws HPbk4
 go_wp2_with fail
 exact rO HS5 ⟨rfl, HS5.below⟩
set_option maxHeartbeats 2000000 in
set_option maxRecDepth 20000 in
theorem vaddraw_q {W : World} {l : List Own} (hT : Tab W) (w : World) (h : St W l w) :
  Calls Tryz.prog 24 #[.agg (#[.bool false, .string ⟨#[]⟩, .string ⟨#[]⟩, .bool false, .string ⟨#[]⟩, .string ⟨#[]⟩]), .agg (#[.bool false, .string ⟨#[]⟩, .string ⟨#[]⟩, .bool false, .string ⟨#[]⟩, .string ⟨#[]⟩])] w fun e w' => e = .returned (.agg (VC 0 0)) ∧ Below w.heap.size w w' := by
 have HT := Lib.hid (tabS hT h); clear hT h
 go_enter Tryz.func24, Tryz.ntmps24
 have HS : St w [] w := St.start
 go_upto_region 0 with (fail)
 refine rgT [] HS ?_
 refine bX (#[.bool false, .string ⟨#[]⟩, .string ⟨#[]⟩, .bool false, .string ⟨#[]⟩, .string ⟨#[]⟩]) ?_
 intro bk2 _ _ hbk2_r
 refine nZ ?_
 refine bX (#[.bool false, .string ⟨#[]⟩, .string ⟨#[]⟩, .bool false, .string ⟨#[]⟩, .string ⟨#[]⟩]) ?_
 intro bk3 _ _ hbk3_r
 obtain ⟨_, _, hbk3_r⟩ := Reg.ne2 hbk3_r
 refine nZ ?_
 refine aL6 ?_
 intro bk4 _ _ hbk4_r
 obtain ⟨_, _, hbk4_r⟩ := Reg.ne2 hbk4_r
 obtain ⟨_, _, hbk4_r⟩ := Reg.ne2 hbk4_r
 refine nZ ?_
 refine Seq.done fun ws1 hws => ?_
 have HS1 := hws.q3 (p := bk2) (q := bk3) (r := bk4)
 clear HS hws
 go_upto_region 1 with (fail)
 have HPbk4 := HS1.p2
 refine wS [] (Reg.fin.put Reg.fin_no _ _) (StR.move (StR.no HPbk4)) ?_
 refine pU ?_
 refine lA (#[.bool false, .string ⟨#[]⟩, .string ⟨#[]⟩]) ?_
 refine pU ?_
 refine lA (#[.bool false, .string ⟨#[]⟩, .string ⟨#[]⟩]) ?_
 refine cL (addraw_q HT.out) ?_
 refine pU ?_
 refine lA (#[.bool false, .string ⟨#[]⟩, .string ⟨#[]⟩]) ?_
 refine pU ?_
 refine lA (#[.bool false, .string ⟨#[]⟩, .string ⟨#[]⟩]) ?_
 refine cL (addraw_q HT.out) ?_
 refine pV (.agg (VC (0 : Rat) (0 : Rat))) (fun w => bld_Vec rfl rfl rfl w) ?_
 refine sV (VC_one _ _) ?_
 refine Seq.done fun ws2 hws => ?_
 have HS2 := hws.q1 (p := bk4)
 clear HS1 hws HPbk4
 go_wp2_with fail
 exact rO HS2 ⟨rfl, HS2.below⟩
theorem bld_Box {o : Oper} {a : Act} {X Y : Operand} {x y z u : Rat} (ho : o.op = .build 38 #[(0, X), (1, Y)]) (hX : a.eval X = .agg (VC x y)) (hY : a.eval Y = .agg (VC z u)) (w : World) : (execOp a.eval o).run Tryz.prog w = .ok (.value (.agg (BC x y z u))) w := by
 unfold VC at hX hY
 unfold execOp BC
 simp only [ho, List.map_toArray, List.map_cons, List.map_nil, hX, hY]
 go_simp
theorem mnF_rz {k n : Nat} {f : Nat → Rat} (h : ∀ i, i < n → Rz k (f i)) : ∀ i, i < n → Rz k (mnF f i) := by
 intro i
 induction i with
 | zero => intro h0; exact h 0 h0
 | succ i ih => intro h0; simp only [mnF]; exact (ih (by omega)).min (h _ h0)
theorem mxF_rz {k n : Nat} {f : Nat → Rat} (h : ∀ i, i < n → Rz k (f i)) : ∀ i, i < n → Rz k (mxF f i) := by
 intro i
 induction i with
 | zero => intro h0; exact h 0 h0
 | succ i ih => intro h0; simp only [mxF]; exact (ih (by omega)).max (h _ h0)
section
variable {P : Program} {ops : Array Oper} {W : World} {l : List Own} {Q : Exit → Act → World → Prop} {gs : List Nat} {k : Nat} {o : Oper} {rest : List Oper} {a : Act} {R : Reg}
theorem Addr.add_at (g f0 n : Nat) : (⟨g, f0, none⟩ : Addr).add n = ⟨g, f0 + n, none⟩ := by unfold Addr.add; split <;> simp_all
theorem run_indexO {t : TypeId} {m g f0 n c : Nat} {z : Int} {i : Nat} (ht : sliceOf P t m = true) (hz : z = (i : Int)) (hi : i < n) (w : World) :
  (Instr.indexAt t (.slice (some ⟨g, f0, none⟩) n c) (.int .i64 z)).run P w = .ok (.pointer (some ⟨g, f0 + m * i, none⟩)) w := by
 unfold sliceOf at ht
 cases hu : P.underlying t with
 | none => simp [hu] at ht
 | some d =>
   rw [hu] at ht
   cases d with
   | slice e =>
     simp only [beq_iff_eq] at ht
     cases hq : P.info? e with
     | none => simp [hq] at ht
     | some inf =>
       have hs : inf.size = m := by rw [hq] at ht; simpa using ht
       subst hz
       simp [Instr.indexAt, run_underlying hu, asIntOf, sizeOf, typeInfo, hq, hs, hi, Addr.add_at, Nat.mul_comm]
   | _ => simp at ht
theorem Seq.indexO {t : TypeId} {x y : Operand} {m g f0 n c : Nat} {z : Int} (i : Nat) (ho : o.op = .indexAddr t x y) (hk : kd gs k o = .val) (hw : wants ops o a = true) (hx : a.eval x = .slice (some ⟨g, f0, none⟩) n c) (hy : a.eval y = .int .i64 z)
  (ht : sliceOf P t m = true) (hz : z = (i : Int)) (hi : i < n) {q : Nat} (hq : f0 + m * i = q) (h : Seq P ops Q W l gs (k + 1) rest (a.put o.dst (.pointer (some ⟨g, q, none⟩))) R) : Seq P ops Q W l gs k (o :: rest) a R :=
 Seq.pure hk hw (fun w => by
  unfold execOp
  simp only [ho, hx, hy, Sem.run_bind, run_indexO ht hz hi, Result.andThen_ok, Sem.run_pure, hq]) h
end
theorem below_G {x : Int} {n j : Nat} {W : World} {l : List Own} (h0 : -9223372036854775808 ≤ x ∧ x ≤ 9223372036854775807) (hn : 0 < n ∧ n ≤ 1048576) (hj : belowN x n = j) (w : World) (h : St W l w) :
  Calls Tryz.prog 18 #[.int .i64 x, .int .i64 (n : Int)] w fun e w' => e = .returned (.int .i64 (j : Int)) ∧ Below w.heap.size w w' := by
 rw [← hj]; exact below_q h0.1 h0.2 hn.1 hn.2 w h
end Go.Proofs.YtmchjmflkaiakaaGreatDoor
