/- Joined texts: ThL Sp7 SwA SwB SwC SwD SwL. -/
import Derived.Test.YtmchjmflkaiakaaGreatDoorSp6
import Derived.LoopN
import Derived.Test.YtmchjmflkaiakaaGreatDoorHuI
import Derived.Test.YtmchjmflkaiakaaGreatDoorStO
import Derived.Test.YtmchjmflkaiakaaGreatDoorHuH
import Derived.Test.YtmchjmflkaiakaaGreatDoorPo3
import Derived.Deep.LoopGhost
import Derived.OwnWalk
import Derived.Test.YtmchjmflkaiakaaGreatDoorPo6
import Derived.Test.YtmchjmflkaiakaaGreatDoorHuC
/- Plain laws: cosines and sines of the joint values of a span. -/
set_option maxHeartbeats 4000000
set_option maxRecDepth 20000
namespace Go.Proofs.YtmchjmflkaiakaaGreatDoor
open Go.RowKit
set_option linter.unusedVariables false
set_option linter.unusedSimpArgs false
theorem infoV2 : (Tryz.prog.info? 29).map (fun i => (i.zero, i.size, i.bytes)) = some (some (.agg #[.bool false, .string ⟨#[]⟩, .string ⟨#[]⟩, .bool false, .string ⟨#[]⟩, .string ⟨#[]⟩]), 6, 80) := by kernel_rfl
theorem slcV_1 {o : Oper} {a : Act} {X0 : Operand} {x0 y0 : Rat} (ho : o.op = .buildSlice 24 1 #[(0, X0)]) (h0 : a.eval X0 = .agg (VC x0 y0)) (w : World) :
  (execOp a.eval o).run Tryz.prog w = .ok (.value (.slice (some ⟨w.heap.size, 0, none⟩) 1 1)) (w.alloc (.cells (VC x0 y0) 29)) := by
 unfold VC at h0 ⊢
 unfold execOp
 simp only [ho, List.map_toArray, List.map_cons, List.map_nil, h0]
 go_simp
theorem slcV_0 {o : Oper} {a : Act} (ho : o.op = .buildSlice 24 0 #[]) (w : World) :
  (execOp a.eval o).run Tryz.prog w = .ok (.value (.slice (some ⟨w.heap.size, 0, none⟩) 0 0)) (w.alloc (.cells #[] 29)) := by
 unfold execOp
 simp only [ho, List.map_toArray, List.map_nil]
 go_simp
section
variable {P : Program} {ops : Array Oper} {W : World} {l : List Own} {Q : Exit → Act → World → Prop} {gs : List Nat} {k : Nat} {o : Oper} {rest : List Oper} {a : Act} {R : Reg}
theorem Seq.append0F {s x : Operand} {t e e1 : TypeId} {z : Value} {size bytes g1 m c1 : Nat} {A : Option Addr} {cs1 : Array Value}
  (ho : o.op = .call { callee := .builtin .append, args := #[s, x], argTypes := #[t, t] }) (hg : gs.contains 3000000 = true) (hw : wants ops o a = true)
  (ht : P.underlying t = some (.slice e)) (hi : (P.info? e).map (fun i => (i.zero, i.size, i.bytes)) = some (some z, size, bytes)) (hzs : z.cells.size = size) (hk : (decide (0 < size) && decide (bytes ≤ 4096)) = true)
  (hs : a.eval s = .slice A 0 0)
  (hx : a.eval x = .slice (some ⟨g1, 0, none⟩) m c1) (hR1 : Blk W g1 e1 cs1) (hn1 : cs1.size = m * size) (h1 : ∀ u ∈ cs1.toList, u.oneCell' = true) (hm : 0 < m) (hnm : m ≤ 1000000)
  (h : ∀ (g' cap' : Nat) (J' : List Value) (R' : Reg), m ≤ cap' → cap' ≤ maxLen → (cs1.toList ++ J').length = cap' * size → R' g' = some (e, (cs1.toList ++ J').toArray) →
   Seq P ops Q W l gs (k + 1) rest (a.put o.dst (.slice (some ⟨g', 0, none⟩) m cap')) R') : Seq P ops Q W l gs k (o :: rest) a R := by
 refine Seq.gen hg hw fun w hst => ?_
 obtain ⟨i0, hi0, hz0, hz1, hz2⟩ := info_parts hi
 have hk' := hk
 simp only [Bool.and_eq_true, decide_eq_true_eq] at hk
 have q3 : Blk w g1 e1 cs1 := hst.st.came hR1
 have hrd : Reads w w.heap.size size (some ⟨g1, 0, none⟩) m cs1.toList := q3.reads rfl (by simpa using hn1)
 obtain ⟨ad, he, _, hcells⟩ := hrd.2 hm
 injection he with he
 subst he
 have hbytes : m * bytes ≤ 1000000 * 4096 := Nat.mul_le_mul hnm hk.2
 obtain ⟨v', w', hrun, a1, a2, a3⟩ := run_append_any (P := P) w W.heap.size t o.type e i0 z size bytes ht hi0 hz0 hz1 hz2 hzs hk.1 (.slice none 0 0) 0 [] (World.ownsRow_nil w _ e size) w.heap.size _ m c1 cs1.toList hrd h1 (by unfold maxLen; omega) (by rw [Nat.zero_add]; omega) hst.st.below.size
 rw [← run_append_zero (A := A) ht hi hrd.1 hcells hm hnm hk.2] at hrun
 simp only [Nat.zero_add, List.nil_append] at a1
 obtain ⟨g', cap', J', hv, hb, hc1, hc2, hc3, hc4⟩ := size_of_own a1 hm
 subst hv
 unfold Oper.wp execOp
 simp only [ho, resolve, invoke, builtin, Sem.run_bind, Sem.run_pure, Result.andThen_ok, List.map_toArray, List.map_cons, List.map_nil, hs, hx, hrun]
 have hgw : g' = w.heap.size := by
  rcases a3 with e3 | e3
  ·simp [Value.ownBlock] at e3
  ·simp only [Value.ownBlock] at e3
   injection e3
 refine ⟨fun q => if q = g' then some (e, (cs1.toList ++ J').toArray) else R q, ⟨hst.st.grown a2 (fun k hk => by simp [Value.ownBlock] at hk) (fun y hy => by simp [Value.ownBlock]), fun p t' cs' hp => ?_⟩, h g' cap' J' _ hc1 hc2 hc3 (by simp)⟩
 by_cases hpg : p = g'
 ·rw [if_pos hpg] at hp
  injection hp with hp
  injection hp with hp1 hp2
  subst hp1 hp2 hpg
  refine ⟨hb, fun y hy e9 => ?_, hc4⟩
  have := (hst.st.blk y hy).2.lt
  omega
 ·rw [if_neg hpg] at hp
  obtain ⟨s1, s2, s3⟩ := hst.reg _ _ _ hp
  exact ⟨s1, s2, s3.grown a2 (by simp [Value.ownBlock])⟩
end
theorem pt_mapx {ps : Pts} {x y : Rat} {i : Nat} (h : i < ps.length) : (ps.map fun p => (p.1 + x, p.2 + y))[i]? = some (px ps i + x, py ps i + y) := by
 rw [List.getElem?_map, List.getElem?_eq_getElem h, getD_pt h]; rfl
theorem fl_one (p : P2) : fl [p] = (VC p.1 p.2).toList := by simp [fl, pv]
theorem PX_oneC (J : List Value) (ps : Pts) : ∀ u ∈ (PC ps).toList, u.oneCell' = true := by
 intro u hu
 rw [← PX_nil, PX_list, List.append_nil] at hu
 unfold fl at hu
 obtain ⟨p, hp, hu⟩ := List.mem_flatMap.1 hu
 exact VC_one _ _ u (by simpa [pv] using hu)
theorem hullPost_oneW {w : World} {ps : Pts} {e : Ending} {w' : World} (h : HullPost w ps e w') : ∃ (hv : Value) (ec : Int), e = .returned (.tuple #[hv, .int .i64 ec]) := by
 obtain ⟨L, h1, h2, h3, h4⟩ := h
 rcases h4 with ⟨_, he⟩ | ⟨h5, h6, g, c, J, h7, he, h8⟩
 ·exact ⟨_, 3, he⟩
 ·exact ⟨_, 0, he⟩
theorem HullPost.from_ {w w1 : World} {ps : Pts} {e : Ending} {w' : World} (h : HullPost w1 ps e w') (hb : Below w.heap.size w w1) : HullPost w ps e w' := by
 obtain ⟨L, h1, h2, h3, h4⟩ := h
 refine ⟨L, h1, h2, hb.trans (h3.mono hb.size), ?_⟩
 rcases h4 with h4 | ⟨h5, h6, g, c, J, h7, he, h8⟩
 ·exact .inl h4
 ·exact .inr ⟨h5, h6, g, c, J, Nat.le_trans hb.size h7, he, h8⟩
theorem along_R {k n : Nat} {ps : Pts} {x y : Rat} {W : World} {l : List Own} (hT : Tab W) (hz : Pz k ps) (hl : ps.length = n) (hcv : 3 ≤ n ∧ n ≤ 5 ∧ Cvx ps) (Zx : Rz k x) (Zy : Rz k y) (hk0 : 2 ≤ k) (hk : k ≤ 100000) (g : Nat) (w : World) (h : St W l w) (hg : Blk w g 29 (PC ps)) :
  Calls Tryz.prog 14 #[.slice (some ⟨g, 0, none⟩) n n, .agg (VC x y)] w (HullPost w (ps ++ ps.map fun p => (p.1 + x, p.2 + y))) := by
 have HZ := yh hz; clear hz
 have HL := yh hl
 have HCV := yh hcv
 have hn3 := hcv.1
 have hn5 := hcv.2.1
 have HZX := yh Zx; clear Zx
 have HZY := yh Zy; clear Zy
 have HK := yh (And.intro hk0 hk); clear hk0 hk
 have HG := yh hg
 have HGX : Hid (Blk w g 29 (PX [] ps)) := yh (by rw [PX_nil]; exact hg)
 have HSG : Hid ((PC ps).size = n * 6) := yh (by rw [← PX_nil, PX_size, hl]; simp; omega)
 obtain ⟨qs, hqs⟩ : ∃ qs, (ps.map fun p => (p.1 + x, p.2 + y)) = qs := ⟨_, rfl⟩
 have HQS := yh hqs
 have HQL : Hid (qs.length = n) := yh (by rw [← hqs, List.length_map]; exact hl)
 rw [hqs]
 clear hg hqs hl hcv
 have HT := yh (tabS hT h); clear hT h
 have HS0 : Hid (St w [] w) := yh St.start
 go_enter Tryz.func14, Tryz.ntmps14
 go_upto_region 0 with fail
 refine wp_seq_text [] (StR.no HS0.out) ?_
 refine bX (VC x y) ?_
 intro b3 _ _ hb3
 refine nZ ?_
 iterate 2 refine pU ?_
 refine Seq.done fun w0 hws => ?_
 have HS1 := hws.q1
 clear hws HS0
 go_upto_region 1 with fail
 refine rgT [] HS1 ?_
 refine pU ?_
 refine cX rfl rfl (fun w' h' => convex_x (J := []) (k := k) HT.out HZ.out HL.out ⟨HCV.out.1, by omega, HCV.out.2.2⟩ (by have := HK.out; omega) g w' h' (h'.came HGX.out)) ?_
 refine pU ?_
 refine dnS fun _ HS2=>?_
 clear HS1
 go_upto_region 4 with fail
 refine rgT [3000000] HS2 ?_
 refine Seq.slice (n := 0) (e := 29) (cs := #[]) rfl rfl (fun w => slcV_0 rfl w) ?_
 intro g0 _ _ hg0
 refine nZ ?_
 refine pU ?_
 refine Seq.append0F (size := 6) (m := n) (g1 := g) (cs1 := PC ps) rfl rfl rfl Tryz.underlying24 infoV2 rfl rfl rfl rfl HG.out HSG.out (PX_oneC [] ps) (by omega) (by omega) ?_
 intro g2 cap2 J2 R2 hle2 hcm2 hlen2 hR2
 simp only[Act.put,nA,nB,nC]
 refine pU ?_
 refine Seq.done fun w2 hws => ?_
 have HSZ2 : Hid ((PX J2 (ps ++ qs.take 0)).size = cap2 * 6) := yh (by
  have h9 := hlen2
  rw [List.take_zero, List.append_nil, PX_size, HL.out]
  rw [List.length_append, Array.length_toList, HSG.out] at h9
  omega)
 have HS3 : Hid (St w [(g2, 29, PX J2 (ps ++ qs.take 0)), (b3, 29, VC x y)] w2) := yh (by
  have h9 := hws.list1 hR2
  rw [List.take_zero, List.append_nil]
  exact h9)
 have hcap2 := hle2
 have hcm2' := hcm2
 clear hws HS2 hR2 hlen2 hle2 hcm2
 go_wp2_with fail
 go_loopg [7, 20] n (fun kx s7 s20 wr => ∃ (i g cap : Nat) (J : List Value), kx = n - i ∧ s7 = .slice (some ⟨g, 0, none⟩) (n + i) cap ∧ s20 = .int .i64 (i : Int) ∧ i ≤ n ∧ n + i ≤ cap ∧ cap ≤ maxLen ∧ Hid ((PX J (ps ++ qs.take i)).size = cap * 6) ∧ Hid (St w [(g, 29, PX J (ps ++ qs.take i)), (b3, 29, VC x y)] wr))
 case atStart => exact ⟨0, g2, cap2, J2, rfl, rfl, rfl, Nat.zero_le _, hcap2, hcm2', HSZ2, HS3⟩
 case round =>
  clear HS3 HSZ2 hcap2 hcm2'
  obtain ⟨i, gr, cap, J, hgk2, rfl, rfl, hile, hic, hcm, HSZ, HS⟩ := hrel
  have HGK2 := yh hgk2; clear hgk2
  by_cases hin : i < n
  ·have HI := yh (show i < ps.length by rw [HL.out]; exact hin)
   have HQI := yh (show i < qs.length by rw [HQL.out]; exact hin)
   have HTL : Hid ((ps ++ qs.take i).length = n + i) := yh (by rw [List.length_append, HL.out, List.length_take, HQL.out]; omega)
   have HTK : Hid ((PX J (ps ++ qs.take i)).toList.take ((n + i) * 6) = fl (ps ++ qs.take i)) := yh (by
    rw [PX_list, List.take_append_of_le_length (by rw [fl_len, HTL.out]; omega), List.take_of_length_le (by rw [fl_len, HTL.out]; omega)])
   have HQV : Hid (qs.take (i + 1) = qs.take i ++ [(px ps i + x, py ps i + y)]) := yh (by
    rw [List.take_add_one, ← HQS.out, pt_mapx HI.out]; rfl)
   have HCC := yh (And.intro hic hcm)
   have hwi : IntKind.i64.wrap ((i : Int) + 1) = (i : Int) + 1 := IntWalk.i64_in _ (by omega)
   go_upto_region 7 with fail
   refine wp_seq_text [] (StR.no HS.out) ?_
   refine iX 6 i hin ?_
   refine lF HGX.out (VC (px ps i) (py ps i)) (PX_room HI.out) (PX_at HI.out) ?_
   refine aL6 ?_
   intro b9 _ _ hb9
   refine nZ ?_
   refine sV (VC_one _ _) ?_
   refine Seq.done fun w3 hws => ?_
   have HS4 := hws.q1
   clear hws HS
   have HS5 := yh (StR.move (StR.no (St.perm HS4 (List.Perm.swap _ _ _))))
   clear HS4
   go_upto_region 8 with fail
   refine wp_seq_text [3000000] HS5.out ?_
   refine pU ?_
   iterate 2 refine lV ?_
   refine cX rfl rfl (vadd_q (k := k) HT.out (HZ.out.x HI.out) (HZ.out.y HI.out) HZX.out HZY.out rfl rfl (by have := HK.out; omega)) ?_
   refine Seq.slice (n := 1) (e := 29) (cs := VC (px ps i + x) (py ps i + y)) rfl rfl (fun w => slcV_1 rfl rfl w) ?_
   intro gb _ _ hgb
   obtain ⟨_, _, hgb⟩ := Reg.ne2 hgb
   refine nZ ?_
   refine Seq.append (g := gr) (n := n + i) (m := 1) (cap := cap) (size := 6) (cs := PX J (ps ++ qs.take i)) (cs1 := VC (px ps i + x) (py ps i + y)) (xs := fl (ps ++ qs.take i)) rfl rfl rfl Tryz.underlying24 infoV2 rfl rfl rfl (by repeat first|exact rS|refine rN ‹_› ?_) HSZ.out HCC.out.1 HCC.out.2 HTK.out rfl (by repeat first|exact rS|refine rN ‹_› ?_) rfl (fun u hu => VC_one _ _ u (by simpa using hu)) (by omega) (by omega) ?_
   intro g3 cap3 J3 R3 hle3 hcm3 hlen3 hR3 hR3b
   simp only[Act.put,nA,nB,nC]
   refine pU ?_
   refine Seq.done fun w4 hws => ?_
   have e9 : PX J3 (ps ++ qs.take (i + 1)) = (fl (ps ++ qs.take i) ++ (VC (px ps i + x) (py ps i + y)).toList ++ J3).toArray := by
    apply Array.toList_inj.1
    rw [PX_list, HQV.out, ← List.append_assoc, fl_app, fl_one]
   have HSZ3 : Hid ((PX J3 (ps ++ qs.take (i + 1))).size = cap3 * 6) := yh (by rw [e9]; simpa using hlen3)
   have HS6 : Hid (St w [(g3, 29, PX J3 (ps ++ qs.take (i + 1))), (b3, 29, VC x y)] w4) := yh (by
    rw [e9]
    exact St.sub (hws.list1 hR3) (List.cons_sublist_cons.2 (List.sublist_cons_self _ _)))
   have hc3 : n + (i + 1) ≤ cap3 := by omega
   have hm3 := hcm3
   clear hws HS5 hR3 hR3b hlen3 hle3 hcm3 e9
   go_wp2_with fail
   go_roundg (n - (i + 1))
   case measure => rw [HGK2.out]; omega
   case rel => exact ⟨i + 1, g3, cap3, J3, rfl, by simp only [Nat.add_assoc], by go_num, by omega, hc3, hm3, HSZ3, HS6⟩
  ·have HQT : Hid (qs.take i = qs) := yh (List.take_of_length_le (by rw [HQL.out]; omega))
   have HNI : Hid ((ps ++ qs).length = n + i) := yh (by rw [List.length_append, HL.out, HQL.out]; omega)
   have HB2 : Hid (Blk wr gr 29 (PX J (ps ++ qs))) := yh (by have h9 := (HS.out.blk _ List.mem_cons_self).2; rw [HQT.out] at h9; exact h9)
   have HZA : Hid (Pz (4 * k + 1) (ps ++ qs)) := yh (by
    intro p hp
    rcases List.mem_append.1 hp with hp | hp
    ·exact ⟨(HZ.out p hp).1.more (by omega), (HZ.out p hp).2.more (by omega)⟩
    ·rw [← HQS.out] at hp
     obtain ⟨q, hq, rfl⟩ := List.mem_map.1 hp
     exact ⟨((HZ.out q hq).1.add HZX.out).more (by omega), ((HZ.out q hq).2.add HZY.out).more (by omega)⟩)
   have HBW := yh HS.out.below
   go_upto_region 10 with fail
   refine wp_seq_textC 1 [] rfl rfl rfl (StR.no HS.out) ?_
   refine pU ?_
   refine Seq.done fun w5 hws => ?_
   have HB5 := yh (hws.st.blk _ List.mem_cons_self).2
   have HBW5 := yh hws.st.below
   have HT5 := yh (tabS HT.out hws.st)
   clear hws HS
   refine ⟨wants_none rfl, ?_⟩
   refine w_call (vs := #[.slice (some ⟨gr, 0, none⟩) (n + i) cap]) rfl rfl (by kernel_rfl) (hull_R (k := 4 * k + 1) HT5.out HZA.out HNI.out (by omega) (by have := HK.out.1; omega) (by have := HK.out.2; omega) w5 St.start (fun j hj => ⟨gr, J, rfl, by have h9 := HB5.out; rw [HQT.out] at h9; exact h9⟩)) fun e w6 h9 => ?_
   obtain ⟨hv, ec, he⟩ := hullPost_oneW h9
   refine ⟨_, he, ?_⟩
   have HE : Hid (HullPost w (ps ++ qs) (.returned (.tuple #[hv, .int .i64 ec])) w6) := yh (by rw [← he]; exact h9.from_ HBW5.out)
   clear he h9
   simp only [Act.put, List.setIfInBounds_toArray, List.set_cons_zero, List.set_cons_succ]
   refine ⟨wants_none rfl, w_ext (vs := #[hv, .int .i64 ec]) rfl rfl rfl ?_⟩
   simp only [Act.eval, Act.put, List.setIfInBounds_toArray, List.set_cons_zero, List.set_cons_succ]
   refine ⟨wants_none rfl, w_ext (vs := #[hv, .int .i64 ec]) rfl rfl rfl ?_⟩
   simp only [Act.eval, Act.put, List.setIfInBounds_toArray, List.set_cons_zero, List.set_cons_succ]
   refine ⟨wants_none rfl, st_asg rfl ?_⟩
   simp only [Act.eval, Act.put, List.setIfInBounds_toArray, List.set_cons_zero, List.set_cons_succ]
   refine ⟨wants_none rfl, st_asg rfl ?_⟩
   unfold chainW
   simp only [Act.eval, Act.put, List.setIfInBounds_toArray, List.set_cons_zero, List.set_cons_succ]
   go_wp2_with fail
   go_ret2
   exact HE.out
theorem row_of {ax ay bx by_ x0 y0 x1 y1 x2 y2 : Rat} (hne : ¬ (ax = bx ∧ ay = by_)) (h0 : (bx - ax) * (y0 - ay) - (by_ - ay) * (x0 - ax) = 0) (h1 : (bx - ax) * (y1 - ay) - (by_ - ay) * (x1 - ax) = 0) (h2 : (bx - ax) * (y2 - ay) - (by_ - ay) * (x2 - ax) = 0) : (x1 - x0) * (y2 - y0) - (y1 - y0) * (x2 - x0) = 0 := by
 by_cases hx : bx - ax = 0
 ·have hy : by_ - ay ≠ 0 := fun h => hne ⟨by grind, by grind⟩
  have e : (by_ - ay) * ((x1 - x0) * (y2 - y0) - (y1 - y0) * (x2 - x0)) = 0 := by grind
  rcases Rat.mul_eq_zero.1 e with h | h
  ·exact absurd h hy
  ·exact h
 ·have e : (bx - ax) * ((x1 - x0) * (y2 - y0) - (y1 - y0) * (x2 - x0)) = 0 := by grind
  rcases Rat.mul_eq_zero.1 e with h | h
  ·exact absurd h hx
  ·exact h
theorem hull_three {L : List P2} (h : L.Pairwise lxl) {a b c : P2} (ha : a ∈ L) (hb : b ∈ L) (hc : c ∈ L) (hp : 0 < lft a b c) : 3 ≤ L.length ∧ 3 ≤ (hullL L).length := by
 have hab : a ≠ b := fun e => by subst e; unfold lft at hp; grind
 have hbc : b ≠ c := fun e => by subst e; unfold lft at hp; grind
 have hac : a ≠ c := fun e => by subst e; unfold lft at hp; grind
 have hl3 : 3 ≤ L.length := nodup_len (l := [a, b, c]) (by simp [hab, hbc, hac]) (by intro x hx; simp at hx; rcases hx with rfl | rfl | rfl <;> assumption)
 refine ⟨hl3, ?_⟩
 obtain ⟨hl, hu⟩ := hull_chains h (by omega)
 have ht := two_of h (by omega)
 have hnd := hull_nodup h (by omega)
 obtain ⟨mx, r, e1, h1⟩ := hl.top
 obtain ⟨mn, e2, h2⟩ := hl.low
 have m1 : mx ∈ hullL L := (pgon_mem hl hu ht mx).2 (.inl (by rw [e1]; exact List.mem_cons_self))
 have m2 : mn ∈ hullL L := (pgon_mem hl hu ht mn).2 (.inl (List.mem_of_getLast? e2))
 have hne : mx ≠ mn := by
  intro e
  subst e
  obtain ⟨p, hp1, q, hq1, hpq⟩ := ht
  apply hpq
  have key : ∀ q ∈ L, q = mx := fun q hq => by
   rcases h1 q hq with e | e
   ·exact e
   ·rcases h2 q hq with e' | e'
    ·exact e'
    ·exact absurd (lxl_trans e e') (lxl_irrefl _)
  rw [key p hp1, key q hq1]
 have hlen2 : 2 ≤ (hullL L).length := nodup_len (l := [mx, mn]) (by simp [hne]) (by intro x hx; simp at hx; rcases hx with rfl | rfl <;> assumption)
 rcases (by omega : 3 ≤ (hullL L).length ∨ (hullL L).length = 2) with h3 | h3
 ·exact h3
 ·exfalso
  obtain ⟨u, v, g1, g2, k1, -⟩ := pgon_edge hl hu ht (i := 0) (show 0 < (hullL L).length by omega)
  obtain ⟨u', v', g3, g4, k2, -⟩ := pgon_edge hl hu ht (i := 1) (show 1 < (hullL L).length by omega)
  have hH : (hullL L).length = 2 := h3
  have i1 : (0 + 1) % (hullL L).length = 1 := by rw [hH]
  have i2 : (1 + 1) % (hullL L).length = 0 := by rw [hH]
  change (hullL L)[0]? = some u at g1
  change (hullL L)[(0 + 1) % (hullL L).length]? = some v at g2
  change (hullL L)[1]? = some u' at g3
  change (hullL L)[(1 + 1) % (hullL L).length]? = some v' at g4
  rw [i1] at g2
  rw [i2] at g4
  have e1 : u' = v := by rw [g2] at g3; exact (Option.some.inj g3).symm
  have e2 : v' = u := by rw [g1] at g4; exact (Option.some.inj g4).symm
  subst e1 e2
  have huv : ¬ (v'.1 = u'.1 ∧ v'.2 = u'.2) := by
   intro ⟨x1, x2⟩
   have e : v' = u' := Prod.ext x1 x2
   rw [e] at g1
   have hp := List.pairwise_iff_getElem.1 hnd 0 1 (by omega) (by omega) (by omega)
   apply hp
   have q1 := (List.getElem?_eq_some_iff.1 g1).2
   have q2 := (List.getElem?_eq_some_iff.1 g2).2
   rw [q1, q2]
  have z : ∀ q ∈ L, (u'.1 - v'.1) * (q.2 - v'.2) - (u'.2 - v'.2) * (q.1 - v'.1) = 0 := fun q hq => by
   have a1 := k1 q hq
   have a2 := k2 q hq
   unfold lft at a1 a2
   grind
  have := row_of huv (z a ha) (z b hb) (z c hc)
  unfold lft at hp
  grind
theorem has_between {ps : Pts} {x y u v t : Rat} (h1 : hasB ps x y = true) (h2 : hasB ps (x + u) (y + v) = true) (t0 : 0 ≤ t) (t1 : t ≤ 1) : hasB ps (x + u * t) (y + v * t) = true := by
 unfold hasB at *
 rw [List.all_eq_true] at *
 intro i hi
 have a := of_decide_eq_true (h1 i hi)
 have b := of_decide_eq_true (h2 i hi)
 refine decide_eq_true ?_
 generalize px ps i = ax at *
 generalize py ps i = ay at *
 generalize px ps ((i + 1) % ps.length) = bx at *
 generalize py ps ((i + 1) % ps.length) = by_ at *
 unfold lf at *
 have c1 := mul_nn a (show 0 ≤ 1 - t by grind)
 have c2 := mul_nn b t0
 grind
end Go.Proofs.YtmchjmflkaiakaaGreatDoor
