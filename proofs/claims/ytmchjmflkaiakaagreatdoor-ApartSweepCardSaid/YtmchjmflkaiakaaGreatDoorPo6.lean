/- Joined texts: Po4 Po5 Po6. -/
import Derived.Test.YtmchjmflkaiakaaGreatDoorPo3
import Derived.Test.YtmchjmflkaiakaaGreatDoorSp3
import Derived.Deep.LoopGhost
import Derived.Test.YtmchjmflkaiakaaGreatDoorRwC
/- gantmake.Poly, frame.List (printed by lawvec.py). -/
set_option maxHeartbeats 4000000
set_option maxRecDepth 20000
namespace Go.Proofs.YtmchjmflkaiakaaGreatDoor
open Go.RowKit
set_option linter.unusedVariables false
set_option linter.unusedSimpArgs false
section
variable {P : Program} {ops : Array Oper} {W : World} {l : List Own} {Q : Exit → Act → World → Prop} {gs : List Nat} {k : Nat} {o : Oper} {rest : List Oper} {a : Act} {R : Reg}
theorem Seq.callE {f : FuncId} {xs : List Operand} {ts : Array TypeId} {vs : Array Value} (ho : o.op = .call { callee := .value (.func f), args := xs.toArray, argTypes := ts }) (hg : gs.contains 3000000 = true) (hw : wants ops o a = true)
  (hx : xs.map a.eval = vs.toList) (hf : goesIn P f = true)
  (hc : ∀ w, StR W l R w → Calls P f vs w (fun e w' => ∃ v R', e = .returned v ∧ StR W l R' w' ∧ Seq P ops Q W l gs (k + 1) rest (a.put o.dst v) R')) : Seq P ops Q W l gs k (o :: rest) a R := by
 refine Seq.gen hg hw fun w hs => ?_
 have hr : (execOp a.eval o).run P w = .ok (.enter f vs) w := by
  unfold goesIn at hf
  cases hp : P.funcs[f]? with
  | none => simp [hp] at hf
  | some fn =>
    simp only [hp, Bool.and_eq_true, bne_iff_ne, ne_eq] at hf
    have hb : fn.body.isNone = false := by cases hq : fn.body <;> simp_all
    have hv : (xs.map a.eval).toArray = vs := by rw [hx]
    simp [execOp, ho, resolve, invoke, callFunc, Deferred.ofValue, Act.eval, hp, hf.1, hb, hv, go_sem]
    intro hq; rw [hq] at hb; cases hb
 unfold Oper.wp
 rw [hr]
 simp only [Oper.upon]
 refine Calls.mono (hc w hs) fun e w' he => ?_
 obtain ⟨v, R', rfl, h2, h3⟩ := he
 exact ⟨R', h2, h3⟩
end
theorem Ints.next {W w : World} {A : Option Addr} {n c : Nat} {xs : List Int} (h : Ints W A n c xs) (hb : Below W.heap.size W w) : Ints w A n c xs := ⟨(h.1.below hb).more hb.size, h.2⟩
theorem poly_F {W : World} {l : List Own} {n c : Nat} {A : Option Addr} {xs : List Int} (hi : Ints W A n c xs) (w : World) (h : St W l w) :
  Calls Tryz.prog 11 #[.slice A n c] w fun e w' => ∃ p, w.heap.size ≤ p ∧ e = .returned (mk (some (polyQ xs).length) p) ∧ Below w.heap.size w w' ∧ Blk w' p 29 (PC (polyQ xs)) := by
 have HI := yh (hi.next h.below); clear hi h
 go_enter Tryz.func11, Tryz.ntmps11
 have HS : St w [] w := St.start
 go_upto_region 0 with fail
 refine rgT [] HS ?_
 refine pW ?_
 refine dnS fun _ HS1=>?_
 clear HS
 go_upto_region 1 with fail
 refine rgT [3000000] HS1 ?_
 refine pW ?_
 refine pV (.agg #[.slice A n c]) (by intro w; go_simp; try first | with_reducible rfl | rfl) ?_
 refine bX (#[.slice A n c]) ?_
 intro bk5 _ _ y5
 refine nZ ?_
 refine Seq.callE rfl rfl rfl rfl (by kernel_rfl) (fun w2 h2 => (poly_S HI.out w2 h2.only).mono ?_)
 rintro e w3 ⟨p, sl, rfl, hp, h3⟩
 refine ⟨_, _, rfl, StR.move (StR.move (StR.no h3)), ?_⟩
 have hne : p ≠ bk5 := (List.pairwise_cons.1 h3.apart).1 _ List.mem_cons_self
 clear h3
 simp only [Act.put, List.setIfInBounds_toArray, List.set_cons_zero, List.set_cons_succ]
 refine pW ?_
 refine Seq.done fun ws3 hws => ?_
 go_wp2_with fail
 go_ret
 exact ⟨p, hp, rfl, hws.st.below, (hws.reg p _ _ (rN hne rS)).2.2⟩
def z6 : List Value := [.bool false, .string ⟨#[]⟩, .string ⟨#[]⟩, .bool false, .string ⟨#[]⟩, .string ⟨#[]⟩]
theorem flat_take {α : Type} {ls : List (List α)} (h : ∀ x ∈ ls, x.length = 6) (i : Nat) : ls.flatten.take (6 * i) = (ls.take i).flatten := by
 induction i generalizing ls with
 | zero => simp
 | succ i ih =>
   cases ls with
   | nil => simp
   | cons x ls =>
     have hx := h x List.mem_cons_self
     rw [List.flatten_cons, List.take_append, hx, show 6 * (i + 1) - 6 = 6 * i by omega, ih (fun y hy => h y (List.mem_cons_of_mem _ hy)), List.take_of_length_le (by omega), List.take_succ_cons, List.flatten_cons]
theorem flat_drop {α : Type} {ls : List (List α)} (h : ∀ x ∈ ls, x.length = 6) (i : Nat) : ls.flatten.drop (6 * i) = (ls.drop i).flatten := by
 induction i generalizing ls with
 | zero => simp
 | succ i ih =>
   cases ls with
   | nil => simp
   | cons x ls =>
     have hx := h x List.mem_cons_self
     rw [List.flatten_cons, List.drop_append, hx, show 6 * (i + 1) - 6 = 6 * i by omega, ih (fun y hy => h y (List.mem_cons_of_mem _ hy)), List.drop_of_length_le (by omega), List.nil_append, List.drop_succ_cons]
def MxL (qs : Pts) (i n : Nat) : List (List Value) := (List.range n).map fun j => if j < i then (VC (px qs j) (py qs j)).toList else z6
def Mx (qs : Pts) (i n : Nat) : Array Value := (MxL qs i n).flatten.toArray
theorem MxL_6 (qs : Pts) (i n : Nat) : ∀ x ∈ MxL qs i n, x.length = 6 := by
 intro x hx
 obtain ⟨j, -, rfl⟩ := List.mem_map.1 hx
 split <;> rfl
theorem Mx_size (qs : Pts) (i n : Nat) : (Mx qs i n).size = 6 * n := by
 show (MxL qs i n).flatten.length = _
 have h : ∀ ls : List (List Value), (∀ x ∈ ls, x.length = 6) → ls.flatten.length = 6 * ls.length := by
  intro ls
  induction ls with
  | nil => intro _; rfl
  | cons x ls ih =>
    intro h
    rw [List.flatten_cons, List.length_append, ih (fun y hy => h y (List.mem_cons_of_mem _ hy)), h x List.mem_cons_self, List.length_cons]; omega
 rw [h _ (MxL_6 _ _ _)]
 simp [MxL]
theorem MxL_set (qs : Pts) {i n : Nat} (h : i < n) : (MxL qs i n).take i ++ ((VC (px qs i) (py qs i)).toList :: (MxL qs i n).drop (i + 1)) = MxL qs (i + 1) n := by
 apply List.ext_getElem
 ·simp [MxL]; omega
 ·intro j h1 h2
  have hj : j < n := by simpa [MxL] using h2
  rw [List.getElem_append]
  split
  ·rename_i h3
   have hji : j < i := by simp [MxL] at h3; omega
   simp [MxL, hji]; intro; omega
  ·rename_i h3
   have hji : i ≤ j := by simp [MxL] at h3; omega
   rcases Nat.lt_or_ge i j with h4 | h4
   ·have e : j - ((MxL qs i n).take i).length = (j - i - 1) + 1 := by simp [MxL]; omega
    simp only [e, List.getElem_cons_succ]
    simp [MxL, show i + 1 + (j - i - 1) = j by omega, show ¬ j < i by omega, show ¬ j < i + 1 by omega]
   ·have e : i = j := by omega
    subst e
    have e2 : i - ((MxL qs i n).take i).length = 0 := by simp [MxL]; omega
    simp only [e2, List.getElem_cons_zero]
    simp [MxL]
theorem Mx_put (qs : Pts) {i n : Nat} (h : i < n) : ((Mx qs i n).toList.take (6 * i) ++ (Value.agg (VC (px qs i) (py qs i))).cells.toList ++ (Mx qs i n).toList.drop (6 * i + (Value.agg (VC (px qs i) (py qs i))).cells.size)).toArray = Mx qs (i + 1) n := by
 have hs : (Value.agg (VC (px qs i) (py qs i))).cells.size = 6 := rfl
 have hc : (Value.agg (VC (px qs i) (py qs i))).cells.toList = (VC (px qs i) (py qs i)).toList := rfl
 rw [hs, hc, show 6 * i + 6 = 6 * (i + 1) by omega]
 show (List.take (6 * i) (MxL qs i n).flatten ++ _ ++ List.drop (6 * (i + 1)) (MxL qs i n).flatten).toArray = _
 rw [flat_take (MxL_6 _ _ _), flat_drop (MxL_6 _ _ _)]
 unfold Mx
 rw [← MxL_set qs h, List.flatten_append, List.flatten_cons, List.append_assoc]
theorem Mx_all {qs : Pts} {n : Nat} (h : qs.length = n) : Mx qs n n = PC qs := by
 subst h
 unfold Mx PC MxL
 congr 1
 rw [List.flatMap_def]
 congr 1
 apply List.ext_getElem
 ·simp
 ·intro j h1 h2
  have hj : j < qs.length := by simpa using h2
  have := getD_pt hj
  simp [hj, this]
theorem made6 (n : Nat) : madeCells z6.toArray (n * 6) = (List.replicate n z6).flatten.toArray := by
 apply Array.toList_inj.1
 unfold madeCells
 rw [Array.toList_map]
 show List.map _ (Array.range (n * 6)).toList = _
 rw [Array.toList_range]
 induction n with
 | zero => rfl
 | succ n ih =>
   rw [show (n + 1) * 6 = n * 6 + 6 by omega, List.range_add, List.map_append, ih, List.replicate_succ', List.flatten_append]
   congr 1
   have e : ∀ j, (n * 6 + j) % z6.toArray.size = j % 6 := fun j => by
    show (n * 6 + j) % 6 = _
    omega
   simp only [List.map_map, Function.comp_def, e]
   rfl
theorem Mx_zero (qs : Pts) (n : Nat) : Mx qs 0 n = madeCells z6.toArray (n * 6) := by
 rw [made6]
 unfold Mx MxL
 congr 2
 apply List.ext_getElem
 ·simp
 ·intro j h1 h2; simp
theorem infoVec : (Tryz.prog.info? 29).map (fun i => (i.zero, i.size, i.bytes)) = some (some (.agg z6.toArray), 6, 80) := by kernel_rfl
theorem mkV_n {o : Oper} {a : Act} {X Y : Operand} (qs : Pts) (n : Nat) (hn : n ≤ 1000000) (ho : o.op = .makeSlice 24 X Y) (hX : a.eval X = .int .i64 (n : Int)) (hY : a.eval Y = .int .i64 (n : Int)) (w : World) :
  (execOp a.eval o).run Tryz.prog w = .ok (.value (.slice (some ⟨w.heap.size, 0, none⟩) n n)) (w.alloc (.cells (Mx qs 0 n) 29)) := by
 obtain ⟨i0, hi0, hz0, hz1, hz2⟩ := info_parts infoVec
 have hr := run_make (P := Tryz.prog) w 24 29 _ _ Tryz.underlying24 hi0 hz0 .i64 .i64 n n (by omega) (by omega) (by rw [hz2]; omega) (by omega)
 simp only [Int.toNat_natCast] at hr
 rw [hz1, show (Value.agg z6.toArray).cells = z6.toArray from rfl, ← Mx_zero qs] at hr
 unfold execOp
 simp only [ho, hX, hY, Sem.run_bind, hr, Result.andThen_ok, Sem.run_pure]
theorem mvP_z {k : Nat} {a1 a2 aw : Rat} {ha : Bool} {ps : Pts} (Za1 : Rz k a1) (Za2 : Rz k a2) (Zaw : Rz k aw) (hz : Pz k ps) : Pz (74 * k + 83) (mvP (cosT ha aw) (sinT aw) a1 a2 ps) := by
 intro p hp
 obtain ⟨⟨x, y⟩, hq, rfl⟩ := List.mem_map.1 hp
 obtain ⟨Zx, Zy⟩ := hz _ hq
 refine ⟨?_, ?_⟩
 ·show Rz _ (a1 + (x * cosT ha aw - y * sinT aw))
  exact (Za1.add ((Zx.mul (Rz.cosT ha Zaw)).sub (Zy.mul (Rz.sinT Zaw)))).more (by omega)
 ·show Rz _ (a2 + (x * sinT aw + y * cosT ha aw))
  exact (Za2.add ((Zx.mul (Rz.sinT Zaw)).add (Zy.mul (Rz.cosT ha Zaw)))).more (by omega)
theorem poly_G {W : World} {l : List Own} {n c m : Nat} {A : Option Addr} {xs : List Int} {ps : Pts} (hi : Ints W A n c xs) (hp : polyQ xs = ps) (hl : ps.length = m) (w : World) (h : St W l w) :
  Calls Tryz.prog 11 #[.slice A n c] w fun e w' => ∃ p, w.heap.size ≤ p ∧ e = .returned (mk (some m) p) ∧ Below w.heap.size w w' ∧ Blk w' p 29 (PC ps) := by
 subst hp; subst hl; exact poly_F hi w h
theorem q4_rz {z : Int} (h0 : -32 ≤ z) (h1 : z ≤ 32) : Rz 2 (q4 z) := (SmallQ.rz ⟨z, 4, rfl, by omega, by omega, by omega, by omega⟩).more (by omega)
theorem polyQ_z (xs : List Int) : Pz 2 (polyQ xs) := by
 have b0 := nxV_lt xs (show 0 < 6 by omega)
 have b1 := nxV_lt xs.tail (show 0 < 6 by omega)
 have b3 := nxV_lt xs.tail.tail.tail (show 0 < 2 * (1 + nxV xs 6) + 1 by omega)
 unfold polyQ shape
 split
 ·intro p hp
  simp only [List.mem_cons, List.not_mem_nil, or_false] at hp
  rcases hp with rfl | rfl | rfl | rfl <;> exact ⟨q4_rz (by omega) (by omega), q4_rz (by omega) (by omega)⟩
 ·split
  ·intro p hp
   simp only [List.mem_cons, List.not_mem_nil, or_false] at hp
   rcases hp with rfl | rfl | rfl <;> exact ⟨q4_rz (by omega) (by omega), q4_rz (by omega) (by omega)⟩
  ·split
   ·intro p hp
    simp only [List.mem_cons, List.not_mem_nil, or_false] at hp
    rcases hp with rfl | rfl | rfl | rfl | rfl <;> exact ⟨q4_rz (by omega) (by omega), q4_rz (by omega) (by omega)⟩
   ·intro p hp
    simp only [List.mem_cons, List.not_mem_nil, or_false] at hp
    rcases hp with rfl | rfl | rfl | rfl <;> exact ⟨q4_rz (by omega) (by omega), q4_rz (by omega) (by omega)⟩
theorem polyQ_len (xs : List Int) : 3 ≤ (polyQ xs).length ∧ (polyQ xs).length ≤ 5 := shape_len _ _ _ _
theorem areaS_rz {k : Nat} {ps : Pts} (hz : Pz k ps) : ∀ i, i ≤ ps.length → Rz (fz k i) (areaS ps i) := by
 intro i
 induction i with
 | zero => intro _; exact Rz.zero2
 | succ i ih =>
   intro hi
   have hj : (i + 1) % ps.length < ps.length := Nat.mod_lt _ (by omega)
   simp only [fz, areaS]
   exact ((ih (by omega)).add (((hz.x (show i < ps.length by omega)).mul (hz.y hj)).sub ((hz.y (show i < ps.length by omega)).mul (hz.x hj)))).more (by omega)
theorem areaQ_rz {k m : Nat} {ps : Pts} (hz : Pz k ps) (hk : k ≤ 1000) (hl : ps.length = m) (hm : m ≤ 8) : Rz 1000000000000 (areaQ ps) := by
 have h := areaS_rz hz _ (Nat.le_refl _)
 have e : fz k ps.length ≤ fz k 8 := fz_mono k (by omega)
 have e2 : fz k 8 ≤ 100000000 := by simp only [fz]; omega
 exact ((num_s 1 2 (by decide) (by decide) (by decide)).mul h).more (by omega)
theorem sq_z : Pz 2 [((0 : Rat), (0 : Rat)), ((2 : Rat), (0 : Rat)), ((2 : Rat), (2 : Rat)), ((0 : Rat), (2 : Rat))] := by
 have h2 : Rz 2 (2 : Rat) := Rz.lit (z := 2) rfl (by decide)
 intro p hp
 simp only [List.mem_cons, List.not_mem_nil, or_false] at hp
 rcases hp with rfl | rfl | rfl | rfl
 ·exact ⟨Rz.zero2, Rz.zero2⟩
 ·exact ⟨h2, Rz.zero2⟩
 ·exact ⟨h2, h2⟩
 ·exact ⟨Rz.zero2, h2⟩
theorem sq_cvx : Cvx [((0 : Rat), (0 : Rat)), ((2 : Rat), (0 : Rat)), ((2 : Rat), (2 : Rat)), ((0 : Rat), (2 : Rat))] := cvx_of (by decide +kernel)
theorem sq_area : areaQ [((0 : Rat), (0 : Rat)), ((2 : Rat), (0 : Rat)), ((2 : Rat), (2 : Rat)), ((0 : Rat), (2 : Rat))] = 4 := by decide +kernel
variable {W : World} {l : List Own}
theorem goodraw_q (w : World) (h : St W l w) : Rt 125 #[.agg #[.bool false, .string ⟨#[]⟩, .string ⟨#[]⟩]] w (.bool false) := by
 clear h
 go_enter Tryz.func125, Tryz.ntmps125
 have HS : St w [] w := St.start
 go_upto_region 0 with fail
 refine rgT [] HS ?_
 refine bX (#[.bool false, .string ⟨#[]⟩, .string ⟨#[]⟩]) ?_
 intro bk1 _ _ e1
 refine nZ ?_
 refine pU ?_
 refine dn1 bk1 fun _ HS1=>?_
 clear HS
 go_upto_region 1 with fail
 refine rgT [] HS1 ?_
 refine pU ?_
 refine lC (.string ⟨#[]⟩) ?_
 iterate 2 refine pU ?_
 iterate 4 refine nW ?_
 iterate 2 refine pU ?_
 iterate 12 refine nW ?_
 iterate 2 refine pU ?_
 iterate 9 refine nW ?_
 refine pU ?_
 refine dnS fun _ HS2=>?_
 clear HS1
 go_upto_region 2 with fail
 refine rgT [] HS2 ?_
 refine pU ?_
 refine dnS fun _ HS3=>?_
 clear HS2
 go_wp2_with fail
 go_ret
 exact ⟨rfl, HS3.below⟩
theorem fitraw_q (w : World) (h : St W l w) : Rt 77 #[.agg #[.bool false, .string ⟨#[]⟩, .string ⟨#[]⟩]] w (.agg (RC 0)) := by
 clear h
 go_enter Tryz.func77, Tryz.ntmps77
 have HS : St w [] w := St.start
 go_upto_region 0 with fail
 refine rgT [] HS ?_
 refine bX (#[.bool false, .string ⟨#[]⟩, .string ⟨#[]⟩]) ?_
 intro bk1 _ _ e1
 refine nZ ?_
 refine aL3 ?_
 intro bk2 _ _ e2
 obtain ⟨_, _, e2⟩ := Reg.ne2 e2
 refine nZ ?_
 refine dn2 bk1 bk2 fun _ HS1=>?_
 clear HS
 go_upto_region 1 with fail
 refine rgT [] HS1 ?_
 refine lV ?_
 refine cL goodraw_q ?_
 refine pU ?_
 refine dnS fun _ HS2=>?_
 clear HS1
 go_upto_region 2 with fail
 have HPbk2 := HS2.p1
 refine wp_seq_text [] (StR.move (StR.no HPbk2)) ?_
 refine cL (fun w h => zero_R w) ?_
 refine sV (RC_one _) ?_
 refine dn1 bk2 fun _ HS3=>?_
 clear HS2 HPbk2
 go_wp2_with fail
 exact rO HS3 ⟨rfl, HS3.below⟩
theorem rawZ0 : RawT 2 0 false ⟨false, ⟨#[]⟩, ⟨#[]⟩⟩ := ⟨.inr ⟨rfl, rfl, .inl rfl⟩, Rz.zero2, Nat.zero_le _, Nat.zero_le _⟩
theorem addraw_q (hT : Tab W) (w : World) (h : St W l w) : Rt 49 #[.agg #[.bool false, .string ⟨#[]⟩, .string ⟨#[]⟩], .agg #[.bool false, .string ⟨#[]⟩, .string ⟨#[]⟩]] w (.agg (RC 0)) := add_w (k := 2) (t1 := ⟨false, ⟨#[]⟩, ⟨#[]⟩⟩) (t2 := ⟨false, ⟨#[]⟩, ⟨#[]⟩⟩) hT rawZ0 rawZ0 (Rat.add_zero 0) (by omega) w h
theorem vaddraw_q (hT : Tab W) (w : World) (h : St W l w) : Rt 24 #[.agg (#[.bool false, .string ⟨#[]⟩, .string ⟨#[]⟩, .bool false, .string ⟨#[]⟩, .string ⟨#[]⟩]), .agg (#[.bool false, .string ⟨#[]⟩, .string ⟨#[]⟩, .bool false, .string ⟨#[]⟩, .string ⟨#[]⟩])] w (.agg (VC 0 0)) := by
 have HT := yh (tabS hT h); clear hT h
 go_enter Tryz.func24, Tryz.ntmps24
 have HS : St w [] w := St.start
 go_upto_region 0 with fail
 refine rgT [] HS ?_
 refine bX (#[.bool false, .string ⟨#[]⟩, .string ⟨#[]⟩, .bool false, .string ⟨#[]⟩, .string ⟨#[]⟩]) ?_
 intro bk2 _ _ e2
 refine nZ ?_
 refine bX (#[.bool false, .string ⟨#[]⟩, .string ⟨#[]⟩, .bool false, .string ⟨#[]⟩, .string ⟨#[]⟩]) ?_
 intro bk3 _ _ e3
 obtain ⟨_, _, e3⟩ := Reg.ne2 e3
 refine nZ ?_
 refine aL6 ?_
 intro bk4 _ _ e4
 obtain ⟨_, _, e4⟩ := Reg.ne2 e4
 obtain ⟨_, _, e4⟩ := Reg.ne2 e4
 refine nZ ?_
 refine dn3 bk2 bk3 bk4 fun _ HS1=>?_
 clear HS
 go_upto_region 1 with fail
 have HPbk4 := HS1.p2
 refine wS [] (Reg.fin.put Reg.fin_no _ _) (StR.move (StR.no HPbk4)) ?_
 refine pU ?_
 refine lA (#[.bool false, .string ⟨#[]⟩, .string ⟨#[]⟩]) ?_
 refine pU ?_
 refine lA (#[.bool false, .string ⟨#[]⟩, .string ⟨#[]⟩]) ?_
 refine cL (addraw_q HT.out) ?_
 refine pU ?_
 refine lA (#[.bool false, .string ⟨#[]⟩, .string ⟨#[]⟩]) ?_
 refine pU ?_
 refine lA (#[.bool false, .string ⟨#[]⟩, .string ⟨#[]⟩]) ?_
 refine cL (addraw_q HT.out) ?_
 refine pV (.agg (VC (0 : Rat) (0 : Rat))) (fun w => bld_Vec rfl rfl rfl w) ?_
 refine sV (VC_one _ _) ?_
 refine dn1 bk4 fun _ HS2=>?_
 clear HS1 HPbk4
 go_wp2_with fail
 exact rO HS2 ⟨rfl, HS2.below⟩
theorem bld_Box {o : Oper} {a : Act} {X Y : Operand} {x y z u : Rat} (ho : o.op = .build 38 #[(0, X), (1, Y)]) (hX : a.eval X = .agg (VC x y)) (hY : a.eval Y = .agg (VC z u)) (w : World) : (execOp a.eval o).run Tryz.prog w = .ok (.value (.agg (BC x y z u))) w := by
 unfold VC at hX hY
 unfold execOp BC
 simp only [ho, List.map_toArray, List.map_cons, List.map_nil, hX, hY]
 go_simp
theorem mnF_rz {k n : Nat} {f : Nat → Rat} (h : ∀ i, i < n → Rz k (f i)) : ∀ i, i < n → Rz k (mnF f i) := by
 intro i
 induction i with
 | zero => intro h0; exact h 0 h0
 | succ i ih => intro h0; simp only [mnF]; exact (ih (by omega)).min (h _ h0)
theorem mxF_rz {k n : Nat} {f : Nat → Rat} (h : ∀ i, i < n → Rz k (f i)) : ∀ i, i < n → Rz k (mxF f i) := by
 intro i
 induction i with
 | zero => intro h0; exact h 0 h0
 | succ i ih => intro h0; simp only [mxF]; exact (ih (by omega)).max (h _ h0)
section
variable {P : Program} {ops : Array Oper} {W : World} {l : List Own} {Q : Exit → Act → World → Prop} {gs : List Nat} {k : Nat} {o : Oper} {rest : List Oper} {a : Act} {R : Reg}
theorem Addr.add_at (g f0 n : Nat) : (⟨g, f0, none⟩ : Addr).add n = ⟨g, f0 + n, none⟩ := by unfold Addr.add; split <;> simp_all
theorem run_indexO {t : TypeId} {m g f0 n c : Nat} {z : Int} {i : Nat} (ht : sliceOf P t m = true) (hz : z = (i : Int)) (hi : i < n) (w : World) :
  (Instr.indexAt t (.slice (some ⟨g, f0, none⟩) n c) (.int .i64 z)).run P w = .ok (.pointer (some ⟨g, f0 + m * i, none⟩)) w := by
 unfold sliceOf at ht
 cases hu : P.underlying t with
 | none => simp [hu] at ht
 | some d =>
   rw [hu] at ht
   cases d with
   | slice e =>
     simp only [beq_iff_eq] at ht
     cases hq : P.info? e with
     | none => simp [hq] at ht
     | some inf =>
       have hs : inf.size = m := by rw [hq] at ht; simpa using ht
       subst hz
       simp [Instr.indexAt, run_underlying hu, asIntOf, sizeOf, typeInfo, hq, hs, hi, Addr.add_at, Nat.mul_comm]
   | _ => simp at ht
theorem Seq.indexO {t : TypeId} {x y : Operand} {m g f0 n c : Nat} {z : Int} (i : Nat) (ho : o.op = .indexAddr t x y) (hk : kd gs k o = .val) (hw : wants ops o a = true) (hx : a.eval x = .slice (some ⟨g, f0, none⟩) n c) (hy : a.eval y = .int .i64 z)
  (ht : sliceOf P t m = true) (hz : z = (i : Int)) (hi : i < n) {q : Nat} (hq : f0 + m * i = q) (h : Seq P ops Q W l gs (k + 1) rest (a.put o.dst (.pointer (some ⟨g, q, none⟩))) R) : Seq P ops Q W l gs k (o :: rest) a R :=
 Seq.pure hk hw (fun w => by
  unfold execOp
  simp only [ho, hx, hy, Sem.run_bind, run_indexO ht hz hi, Result.andThen_ok, Sem.run_pure, hq]) h
end
theorem box_q {k n : Nat} {ps : Pts} (hT : Tab W) (hz : Pz k ps) (hl : ps.length = n) (hcv : 3 ≤ n ∧ n ≤ 64 ∧ Cvx ps) (hk : k ≤ 100000000000) (g : Nat) (w : World) (h : St W l w) (hg : Blk w g 29 (PC ps)) : Rt 22 #[.slice (some ⟨g, 0, none⟩) n n] w (.agg (BC (mnF (px ps) (ps.length - 1)) (mnF (py ps) (ps.length - 1)) (mxF (px ps) (ps.length - 1)) (mxF (py ps) (ps.length - 1)))) := by
 have HT := yh (tabS hT h); clear hT h
 have HG := yh hg; clear hg
 have HL := yh hl; clear hl
 have HNZ := yh (show ¬ n = 0 by have := hcv.1; omega)
 have HZP := yh (show Pz (1 * k + 0) ps by rw [Nat.one_mul]; exact hz); clear hz
 have HCV := yh (show 3 ≤ n ∧ n ≤ 64 ∧ True from ⟨hcv.1, hcv.2.1, trivial⟩)
 have HPOS := yh (show 0 < n by have := hcv.1; omega)
 obtain ⟨n1, hn1⟩ : ∃ n1, n - 1 = n1 := ⟨_, rfl⟩
 have HSL := yh (show n - 1 = n1 ∧ ¬ n = 1 ∧ ¬ (n : Int) < 1 from ⟨hn1, by have := hcv.1; omega, by have := hcv.1; omega⟩)
 clear hn1 hcv
 go_enter Tryz.func22, Tryz.ntmps22
 have HS : St w [] w := St.start
 go_upto_region 0 with fail
 refine rgT [] HS ?_
 refine Seq.alloc rfl rfl rfl (z := .agg #[.bool false, .string ⟨#[]⟩, .string ⟨#[]⟩, .bool false, .string ⟨#[]⟩, .string ⟨#[]⟩, .bool false, .string ⟨#[]⟩, .string ⟨#[]⟩, .bool false, .string ⟨#[]⟩, .string ⟨#[]⟩]) (by kernel_rfl) rfl ?_
 intro bk2 _ _ e2
 refine nZ ?_
 refine dn1 bk2 fun _ HS1=>?_
 clear HS
 go_upto_region 1 with fail
 refine rgT [] HS1 ?_
 refine pV (.agg (#[.bool false, .string ⟨#[]⟩, .string ⟨#[]⟩, .bool false, .string ⟨#[]⟩, .string ⟨#[]⟩])) (by intro w; go_simp; try rfl) ?_
 refine pV (.agg (#[.bool false, .string ⟨#[]⟩, .string ⟨#[]⟩, .bool false, .string ⟨#[]⟩, .string ⟨#[]⟩])) (by intro w; go_simp; try rfl) ?_
 refine cL (vaddraw_q HT.out) ?_
 refine aL6 ?_
 intro bk3 _ _ e3
 refine nZ ?_
 refine sV (VC_one _ _) ?_
 refine dn1 bk3 fun _ HS2=>?_
 clear HS1
 go_upto_region 2 with fail
 refine rgT [] HS2 ?_
 refine pU ?_
 refine pV (.int .i64 (n : Int)) (by intro w; go_simp; try rfl) ?_
 refine pV (.bool false) (by intro w; go_simp <;> (first | (rw [HNZ.out]; done) | exact HNZ.out | (simp [HNZ.out]; done))) ?_
 refine dnS fun _ HS3=>?_
 clear HS2
 go_upto_region 4 with fail
 refine rgW [] HS3 ?_
 refine pU ?_
 refine iX 6 0 HPOS.out ?_
 refine lF HG.out (VC (px ps 0) (py ps 0)) (PC_room (lt_of_pts HL.out HPOS.out)) (PC_at (lt_of_pts HL.out HPOS.out)) ?_
 refine lV ?_
 refine cX rfl rfl (vadd_q (k := (1 * k + 2)) HT.out ((HZP.out.x (lt_of_pts HL.out HPOS.out)).more (by omega)) ((HZP.out.y (lt_of_pts HL.out HPOS.out)).more (by omega)) (Rz.zero2.more (by omega)) (Rz.zero2.more (by omega))  (Rat.add_zero _) (Rat.add_zero _) (by omega)) ?_
 refine aL6 ?_
 intro bk4 _ _ e4
 refine nZ ?_
 refine sV (VC_one _ _) ?_
 refine dn1 bk4 fun _ HS4=>?_
 clear HS3
 go_upto_region 5 with fail
 refine rgT [] HS4 ?_
 iterate 2 refine lV ?_
 refine pV (.agg (BC (px ps 0) (py ps 0) (px ps 0) (py ps 0))) (fun w => bld_Box rfl rfl rfl w) ?_
 refine Seq.alloc rfl rfl rfl (z := .agg #[.bool false, .string ⟨#[]⟩, .string ⟨#[]⟩, .bool false, .string ⟨#[]⟩, .string ⟨#[]⟩, .bool false, .string ⟨#[]⟩, .string ⟨#[]⟩, .bool false, .string ⟨#[]⟩, .string ⟨#[]⟩]) (by kernel_rfl) rfl ?_
 intro bk5 _ _ e5
 refine nZ ?_
 refine sV (BC_one _ _ _ _) ?_
 refine dn1 bk5 fun _ HS5=>?_
 clear HS4
 go_upto_region 6 with fail
 refine rgT [] HS5 ?_
 refine pU ?_
 refine pV (.slice (some ⟨g, 6, none⟩) n1 n1) (by intro w; go_simp <;> (first | (rw [HSL.out.1]; done) | (rw [HSL.out.2.1]; done) | (rw [HSL.out.2.2]; done) | exact HSL.out.1 | exact HSL.out.2.1 | exact HSL.out.2.2 | (simp [HSL.out.1, HSL.out.2.1, HSL.out.2.2]; done))) ?_
 refine pV (.int .i64 (n1 : Int)) (by intro w; go_simp <;> (first | (rw [HSL.out.1]; done) | exact HSL.out.1 | (simp [HSL.out.1]; done))) ?_
 refine pU ?_
 refine dnS fun _ HS6=>?_
 clear HS5
 go_wp2_with fail
 go_loopg [28] n1 (fun kk s28 wr => ∃ i : Nat, kk = n1 - i ∧ s28 = .int .i64 (i : Int) ∧ i ≤ n1 ∧ Hid (St w [(bk5, 38, BC (mnF (px ps) i) (mnF (py ps) i) (mxF (px ps) i) (mxF (py ps) i)), (bk4, 29, VC (px ps 0) (py ps 0)), (bk3, 29, VC (0 : Rat) (0 : Rat)), (bk2, 38, #[.bool false, .string ⟨#[]⟩, .string ⟨#[]⟩, .bool false, .string ⟨#[]⟩, .string ⟨#[]⟩, .bool false, .string ⟨#[]⟩, .string ⟨#[]⟩, .bool false, .string ⟨#[]⟩, .string ⟨#[]⟩])] wr))
 case atStart => exact ⟨0, rfl, rfl, by omega, yh HS6⟩
 case round =>
  obtain ⟨i, hgk, rfl, hin, hS⟩ := hrel
  have HGK := yh hgk; clear hgk
  have HR := hS.out; clear hS
  have hn1 := HSL.out.1
  have HIN := yh (show i < n by have := HCV.out.1; omega)
  by_cases hc : i < n1
  ·obtain ⟨i1, hi1⟩ : ∃ i1 : Nat, i1 = i + 1 := ⟨_, rfl⟩
   have HI1 := yh (show IntKind.i64.wrap ((i : Int) + 1) = (i1 : Int) ∧ n1 - i1 < n1 - i ∧ i1 ≤ n1 ∧ 6 + 6 * i = 6 * i1 from ⟨by have := HCV.out.2.1; rw [i64_s _ (by omega) (by omega)]; omega, by omega, by omega, by omega⟩)
   have HIN1 := yh (show i1 < n by omega)
   have HM := yh (show minQ (mnF (px ps) i) (px ps i1) = mnF (px ps) i1 ∧ minQ (mnF (py ps) i) (py ps i1) = mnF (py ps) i1 ∧ maxQ (mxF (px ps) i) (px ps i1) = mxF (px ps) i1 ∧ maxQ (mxF (py ps) i) (py ps i1) = mxF (py ps) i1 from by rw [hi1]; exact ⟨rfl, rfl, rfl, rfl⟩)
   have HC := yh hc
   clear hc hin hi1 hn1
   go_upto_region 7 with fail
   refine rgT [] HR ?_
   refine pV (.bool true) (by intro w; go_simp <;> (first | (rw [HC.out]; done) | exact HC.out | (simp [HC.out]; done))) ?_
   refine dnS fun ws7 HS7=>?_
   clear HR
   go_upto_region 8 with fail
   refine rgT [] HS7 ?_
   refine Seq.indexO (m := 6) i rfl rfl rfl rfl rfl (by kernel_rfl) rfl HC.out HI1.out.2.2.2 (nZ ?_)
   refine lF HG.out (VC (px ps i1) (py ps i1)) (PC_room (lt_of_pts HL.out HIN1.out)) (PC_at (lt_of_pts HL.out HIN1.out)) ?_
   refine aL6 ?_
   intro bk7 _ _ e7
   refine nZ ?_
   refine sV (VC_one _ _) ?_
   refine dn1 bk7 fun ws8 HS8=>?_
   clear HS7
   go_upto_region 9 with fail
   have HPbk5 := HS8.p1
   refine wS [4, 16] (Reg.fin.put Reg.fin_no _ _) (StR.move (StR.no HPbk5)) ?_
   iterate 2 refine pU ?_
   refine Seq.getAt rfl rfl rfl rfl (by repeat first|exact rS|refine rN ‹_› ?_) (n := 3) (cs' := RC (mnF (px ps) i)) (Nat.le_of_ble_eq_true rfl) (by kernel_rfl) rfl (nZ ?_)
   refine pU ?_
   refine lA (RC (px ps i1)) ?_
   refine cX rfl rfl (min_q (k := (1 * k + 0)) HT.out ((mnF_rz (fun q hq => HZP.out.x (lt_of_pts HL.out hq)) _ HIN.out).more (by omega)) ((HZP.out.x (lt_of_pts HL.out HIN1.out)).more (by omega)) HM.out.1 (by omega)) ?_
   iterate 2 refine pU ?_
   refine Seq.getAt rfl rfl rfl rfl (by repeat first|exact rS|refine rN ‹_› ?_) (n := 3) (cs' := RC (mnF (py ps) i)) (Nat.le_of_ble_eq_true rfl) (by kernel_rfl) rfl (nZ ?_)
   refine pU ?_
   refine lA (RC (py ps i1)) ?_
   refine cX rfl rfl (min_q (k := (1 * k + 0)) HT.out ((mnF_rz (fun q hq => HZP.out.y (lt_of_pts HL.out hq)) _ HIN.out).more (by omega)) ((HZP.out.y (lt_of_pts HL.out HIN1.out)).more (by omega)) HM.out.2.1 (by omega)) ?_
   refine pV (.agg (VC (mnF (px ps) i1) (mnF (py ps) i1))) (fun w => bld_Vec rfl rfl rfl w) ?_
   refine pU ?_
   refine Seq.storeAt (v := .agg (VC (mnF (px ps) i1) (mnF (py ps) i1))) rfl rfl rfl rfl rfl (by repeat first|exact rS|refine rN ‹_› ?_) (Nat.le_of_ble_eq_true rfl) (by show _ = some 6; kernel_rfl) (VC_one _ _) (cs' := BC (mnF (px ps) i1) (mnF (py ps) i1) (mxF (px ps) i) (mxF (py ps) i)) rfl (nZ ?_)
   refine dn1 bk5 fun _ HS9=>?_
   clear HS8 HPbk5
   go_upto_region 10 with fail
   refine wS [4, 16] (Reg.fin.put Reg.fin_no _ _) (StR.move (StR.no HS9)) ?_
   iterate 2 refine pU ?_
   refine Seq.getAt rfl rfl rfl rfl (by repeat first|exact rS|refine rN ‹_› ?_) (n := 3) (cs' := RC (mxF (px ps) i)) (Nat.le_of_ble_eq_true rfl) (by kernel_rfl) rfl (nZ ?_)
   refine pU ?_
   refine lA (RC (px ps i1)) ?_
   refine cX rfl rfl (max_q (k := (1 * k + 0)) HT.out ((mxF_rz (fun q hq => HZP.out.x (lt_of_pts HL.out hq)) _ HIN.out).more (by omega)) ((HZP.out.x (lt_of_pts HL.out HIN1.out)).more (by omega)) HM.out.2.2.1 (by omega)) ?_
   iterate 2 refine pU ?_
   refine Seq.getAt rfl rfl rfl rfl (by repeat first|exact rS|refine rN ‹_› ?_) (n := 3) (cs' := RC (mxF (py ps) i)) (Nat.le_of_ble_eq_true rfl) (by kernel_rfl) rfl (nZ ?_)
   refine pU ?_
   refine lA (RC (py ps i1)) ?_
   refine cX rfl rfl (max_q (k := (1 * k + 0)) HT.out ((mxF_rz (fun q hq => HZP.out.y (lt_of_pts HL.out hq)) _ HIN.out).more (by omega)) ((HZP.out.y (lt_of_pts HL.out HIN1.out)).more (by omega)) HM.out.2.2.2 (by omega)) ?_
   refine pV (.agg (VC (mxF (px ps) i1) (mxF (py ps) i1))) (fun w => bld_Vec rfl rfl rfl w) ?_
   refine pU ?_
   refine Seq.storeAt (v := .agg (VC (mxF (px ps) i1) (mxF (py ps) i1))) rfl rfl rfl rfl rfl (by repeat first|exact rS|refine rN ‹_› ?_) (Nat.le_of_ble_eq_true rfl) (by show _ = some 6; kernel_rfl) (VC_one _ _) (cs' := BC (mnF (px ps) i1) (mnF (py ps) i1) (mxF (px ps) i1) (mxF (py ps) i1)) rfl (nZ ?_)
   refine dn1 bk5 fun _ HS10=>?_
   clear HS9
   go_upto_region 11 with fail
   refine rgT [] HS10 ?_
   refine pV (.int .i64 (i1 : Int)) (by intro w; go_simp <;> (first | (rw [HI1.out.1]; done) | exact HI1.out.1 | (simp [HI1.out.1]; done))) ?_
   refine pU ?_
   refine dnS fun _ HS11=>?_
   clear HS10
   go_wp2_with fail
   go_roundg (n1 - i1)
   case measure => rw [HGK.out]; exact HI1.out.2.1
   case rel => exact ⟨i1, rfl, rfl, HI1.out.2.2.1, yh (HS11.sub (.cons_cons _ (.cons _ (.refl _))))⟩
  ·have HE := yh (show i = ps.length - 1 by rw [HL.out]; omega)
   have HC := yh (show n1 ≤ i by omega)
   clear hc hin hn1
   go_upto_region 7 with fail
   refine rgT [] HR ?_
   refine pV (.bool false) (by intro w; go_simp <;> (first | (rw [HC.out]; done) | exact HC.out | (simp [HC.out]; done))) ?_
   refine dnS fun _ HS7=>?_
   clear HR
   go_upto_region 12 with fail
   have HPbk2 := HS7.p3
   refine wp_seq_text [] (StR.move (StR.no HPbk2)) ?_
   refine lV ?_
   refine sV (BC_one _ _ _ _) ?_
   refine dn1 bk2 fun _ HS8=>?_
   clear HS7 HPbk2
   go_wp2_with fail
   exact ret_own rfl rfl rfl HS8 (by repeat first|exact mC|apply mT) (n := 12) rfl (by kernel_rfl) ⟨by rw [HE.out], HS8.below⟩
theorem box_G {k n : Nat} {ps : Pts} {z0 z1 z2 z3 : Rat} (hT : Tab W) (hz : Pz k ps) (hl : ps.length = n) (hcv : 3 ≤ n ∧ n ≤ 64 ∧ Cvx ps) (hz0 : mnF (px ps) (n - 1) = z0 ∧ mnF (py ps) (n - 1) = z1 ∧ mxF (px ps) (n - 1) = z2 ∧ mxF (py ps) (n - 1) = z3) (hk : k ≤ 100000000000) (g : Nat) (w : World) (h : St W l w) (hg : Blk w g 29 (PC ps)) : Rt 22 #[.slice (some ⟨g, 0, none⟩) n n] w (.agg (BC z0 z1 z2 z3)) := by
 have := box_q hT hz hl hcv hk g w h hg
 rw [hl, hz0.1, hz0.2.1, hz0.2.2.1, hz0.2.2.2] at this
 exact this
theorem below_G {x : Int} {n j : Nat} (h0 : -9223372036854775808 ≤ x ∧ x ≤ 9223372036854775807) (hn : 0 < n ∧ n ≤ 1048576) (hj : belowN x n = j) (w : World) (h : St W l w) : Rt 18 #[.int .i64 x, .int .i64 (n : Int)] w (.int .i64 (j : Int)) := by
 rw [← hj]; exact below_q h0.1 h0.2 hn.1 hn.2 w h
end Go.Proofs.YtmchjmflkaiakaaGreatDoor
