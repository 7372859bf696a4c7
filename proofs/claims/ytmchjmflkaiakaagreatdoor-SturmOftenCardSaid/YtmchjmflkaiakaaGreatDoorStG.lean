/- Package sturm: chained (printed by stg.py). -/
import Derived.Test.YtmchjmflkaiakaaGreatDoorStE
import Derived.Deep.LoopGhost
import Derived.OwnWalk
set_option maxHeartbeats 4000000
set_option maxRecDepth 20000
namespace Go.Proofs.YtmchjmflkaiakaaGreatDoor
open Go.RowKit
set_option linter.unusedVariables false
set_option linter.unusedSimpArgs false
def CLi (W : World) (l : List Own) : List Value → List Nums → Prop
 | [], [] => True
 | v :: vs, p :: ps => (∃ A c, v = .slice A p.length c ∧ RIn W l A p) ∧ CLi W l vs ps
 | _, _ => False
section
variable {W w w' : World} {l l' : List Own}
theorem CLi.more (hs : ∀ e ∈ l, e ∈ l') : ∀ {vs : List Value} {cs : List Nums}, CLi W l vs cs → CLi W l' vs cs
 | [], [], _ => trivial
 | v :: vs, p :: ps, ⟨⟨A, c, h1, h2⟩, h3⟩ => ⟨⟨A, c, h1, h2.more hs⟩, CLi.more hs h3⟩
 | [], _ :: _, h => h.elim
 | _ :: _, [], h => h.elim
theorem CLi.at_ (hs : St W l w) : ∀ {vs : List Value} {cs : List Nums}, CLi W l vs cs → CLi w [] vs cs
 | [], [], _ => trivial
 | v :: vs, p :: ps, ⟨⟨A, c, h1, h2⟩, h3⟩ => ⟨⟨A, c, h1, RIn.of (h2.at_ hs) _⟩, CLi.at_ hs h3⟩
 | [], _ :: _, h => h.elim
 | _ :: _, [], h => h.elim
theorem CLi.next (hb : Below w.heap.size w w') {vs : List Value} {cs : List Nums} (h : CLi w [] vs cs) : CLi w' [] vs cs := CLi.at_ (St.begin hb) h
theorem CLi.len : ∀ {vs : List Value} {cs : List Nums}, CLi W l vs cs → vs.length = cs.length
 | [], [], _ => rfl
 | v :: vs, p :: ps, ⟨_, h3⟩ => by simp [h3.len]
 | [], _ :: _, h => h.elim
 | _ :: _, [], h => h.elim
theorem CLi.snoc {u : Value} {q : Nums} (hu : ∃ A c, u = .slice A q.length c ∧ RIn W l A q) : ∀ {vs : List Value} {cs : List Nums}, CLi W l vs cs → CLi W l (vs ++ [u]) (cs ++ [q])
 | [], [], _ => ⟨hu, trivial⟩
 | v :: vs, p :: ps, ⟨h1, h3⟩ => ⟨h1, CLi.snoc hu h3⟩
 | [], _ :: _, h => h.elim
 | _ :: _, [], h => h.elim
theorem CLi.get : ∀ {vs : List Value} {cs : List Nums} {i : Nat} {p : Nums}, CLi W l vs cs → cs[i]? = some p → ∃ A c, vs[i]? = some (.slice A p.length c) ∧ RIn W l A p
 | v :: vs, q :: ps, 0, p, ⟨⟨A, c, h1, h2⟩, _⟩, hi => by simp at hi; subst hi; exact ⟨A, c, by simp [h1], h2⟩
 | v :: vs, q :: ps, i + 1, p, ⟨_, h3⟩, hi => by simp at hi; simpa using h3.get hi
 | [], [], i, p, _, hi => by simp at hi
 | [], _ :: _, _, _, h, _ => h.elim
 | _ :: _, [], _, _, h, _ => h.elim
end
def CAt (w : World) (v : Value) (cs : List Nums) : Prop := ∃ g cap vs J, v = .slice (some ⟨g, 0, none⟩) cs.length cap ∧ vs.length = cs.length ∧ Blk w g 55 (vs ++ J).toArray ∧ CLi w [] vs cs
theorem CAt.next {w w' : World} {v : Value} {cs : List Nums} (h : CAt w v cs) (hb : Below w.heap.size w w') : CAt w' v cs := by
 obtain ⟨g, cap, vs, J, h1, h2, h3, h4⟩ := h
 exact ⟨g, cap, vs, J, h1, h2, h3.belowB hb, h4.next hb⟩
theorem infoS : (Tryz.prog.info? 55).map (fun i => (i.zero, i.size, i.bytes)) = some (some (.slice none 0 0), 1, 24) := by kernel_rfl
theorem slcC_1 {o : Oper} {a : Act} {X0 : Operand} {A : Option Addr} {n c : Nat} (ho : o.op = .buildSlice 108 1 #[(0, X0)]) (h0 : a.eval X0 = .slice A n c) (w : World) :
  (execOp a.eval o).run Tryz.prog w = .ok (.value (.slice (some ⟨w.heap.size, 0, none⟩) 1 1)) (w.alloc (.cells #[.slice A n c] 55)) := by
 unfold execOp
 simp only [ho, List.map_toArray, List.map_cons, List.map_nil, h0]
 go_simp
theorem run_idxC {g n c i : Nat} {z : Int} (hi : i < n) (hz : z = (i : Int)) (w : World) : (Instr.indexAt 108 (.slice (some ⟨g, 0, none⟩) n c) (.int .i64 z)).run Tryz.prog w = .ok (.pointer (some ⟨g, i, none⟩)) w := by
 have h := run_index (P := Tryz.prog) (t := 108) (m := 1) (g := g) (c := c) (by kernel_rfl) hz hi w
 rw [Nat.one_mul] at h
 exact h
theorem StepI.lenC {ops : Array Oper} {Q : Exit → Act → World → Prop} {o : Oper} {G : Told} {a : Act} {w : World} {x : Operand} {A : Option Addr} {n c : Nat} (ho : o.op = .call { callee := .builtin .len, args := #[x], argTypes := #[108] })
  (hw : wants ops o a = true) (hx : a.eval x = .slice A n c) (hg : G (.int .i64 (n : Int)) w) : StepI Tryz.prog ops Q o G a w :=
 StepI.val (v := .int .i64 (n : Int)) hw (by
  unfold execOp
  simp only [ho, resolve, invoke, builtin, Sem.run_bind, Sem.run_pure, Result.andThen_ok, List.map_toArray, List.map_cons, List.map_nil, hx]
  go_simp) hg
theorem StepI.ext {P : Program} {ops : Array Oper} {Q : Exit → Act → World → Prop} {o : Oper} {G : Told} {a : Act} {w : World} {x : Operand} {i : Nat} {vs : Array Value} {v : Value} (ho : o.op = .extract x i) (hw : wants ops o a = true) (hx : a.eval x = .tuple vs) (hv : vs[i]? = some v) (hg : G v w) : StepI P ops Q o G a w :=
 StepI.val (v := v) hw (by
  unfold execOp
  simp only [ho, hx]
  simp [Instr.extract, hv]) hg
theorem subI_run (x y : Operand) (u v r : Int) (h : IntKind.i64.wrap (u - v) = r) (w : World) : ((do eqGuard .sub 3 x y (.int .i64 u) (.int .i64 v); binOp .sub 3 (.int .i64 u) (.int .i64 v) : Sem Value)).run Tryz.prog w = .ok (.int .i64 r) w := by
 subst h
 go_simp
theorem St.cons {W w : World} {l : List Own} {g : Nat} {t : TypeId} {cs : Array Value} (h : St W l w) (hg : W.heap.size ≤ g) (hn : ∀ e ∈ l, e.1 ≠ g) (hb : Blk w g t cs) : St W ((g, t, cs) :: l) w := by
 refine ⟨h.below, fun e he => ?_, List.pairwise_cons.2 ⟨fun y hy e9 => hn y hy e9.symm, h.apart⟩⟩
 rcases List.mem_cons.1 he with rfl | he
 ·exact ⟨hg, hb⟩
 ·exact h.blk e he
def isNewN (B : Nat) (l : List Own) (q : Nums) (m : Nat) : Told := fun u w => ∃ g, u = .slice (some ⟨g, 0, none⟩) m m ∧ B ≤ g ∧ (∀ e ∈ l, e.1 ≠ g) ∧ Blk w g 27 (RX [] q)
def isTwoN (B : Nat) (l : List Own) (q : Nums) (m m1 : Nat) : Told := fun u w => ∃ g1 g, u = .tuple #[.slice (some ⟨g1, 0, none⟩) m1 m1, .slice (some ⟨g, 0, none⟩) m m] ∧ B ≤ g ∧ (∀ e ∈ l, e.1 ≠ g) ∧ Blk w g 27 (RX [] q)
theorem isNewN_st {B m : Nat} {l : List Own} {q : Nums} (v : Value) (w w' : World) (h : isNewN B l q m v w) (hb : Below w.heap.size w w') : isNewN B l q m v w' := by
 obtain ⟨g, h1, h2, h3, h4⟩ := h
 exact ⟨g, h1, h2, h3, h4.belowB hb⟩
theorem isTwoN_st {B m m1 : Nat} {l : List Own} {q : Nums} (v : Value) (w w' : World) (h : isTwoN B l q m m1 v w) (hb : Below w.heap.size w w') : isTwoN B l q m m1 v w' := by
 obtain ⟨g1, g, h1, h2, h3, h4⟩ := h
 exact ⟨g1, g, h1, h2, h3, h4.belowB hb⟩
theorem neg_len (p : Nums) : (negL p).length = p.length := by simp [negL]
theorem neg_rx {p : Nums} {i : Nat} (h : i < p.length) : rx (negL p) i = -rx p i := by
 have h2 : i < (negL p).length := by rw [neg_len]; exact h
 rw [← rx_get h2, ← rx_get h]
 simp [negL]
def QSt (w : World) (l : List Own) (q : Nums) (i : Nat) (A : Option Addr) (c : Nat) (wr : World) : Prop :=
 (i = 0 ∧ c = 0 ∧ St w l wr) ∨ (0 < i ∧ ∃ g J, A = some ⟨g, 0, none⟩ ∧ i ≤ c ∧ c ≤ maxLen ∧ (RX J (q.take i)).size = c * 3 ∧ St w ((g, 27, RX J (q.take i)) :: l) wr)
theorem chainedP_S {K n c kn : Nat} {A : Option Addr} {p : Nums} {cs : List Nums} (w : World) (hA : RAt w A p) (hn : p.length = n) (hz : DerZ K p) (hR : ChR K kn p (deriveL p) cs) (hkn : kn ≤ 1000) (hT : Tab w) (hk : K ≤ 1000000000000) :
  Calls Tryz.prog 121 #[Value.slice A n c] w fun e w' => ∃ v, e = .returned v ∧ Below w.heap.size w w' ∧ CAt w' v (p :: cs) := by
 have HA := yh hA; clear hA
 have HN := yh hn
 have hn2 : n ≤ 1000 := by rw [← hn]; exact hz.len
 clear hn
 have HDZ := yh hz; clear hz
 have HG := yh hR; clear hR
 have HT := yh hT; clear hT
 have HK := yh hk; clear hk
 obtain ⟨d0, hd0⟩ : ∃ d0, deriveL p = d0 := ⟨_, rfl⟩
 obtain ⟨m0, hm0⟩ : ∃ m0, d0.length = m0 := ⟨_, rfl⟩
 have hm01 : m0 ≤ 1000 := by
  rw [← hm0, ← hd0]
  have h1 := trim_len (dvL 1 p.tail)
  rw [dv_len, List.length_tail, HN.out] at h1
  unfold deriveL
  omega
 have HD0 := yh hd0
 have HM0 := yh hm0
 clear hd0 hm0
 have HS0 : Hid (St w [] w) := yh St.start
 go_enter Tryz.func121, Tryz.ntmps121
 go_upto_region 1 with fail
 refine wp_seq_text [] (StR.no HS0.out) ?_
 refine pU ?_
 refine Seq.slice (n := 1) (e := 55) (cs := #[Value.slice A n c]) rfl rfl (fun w => slcC_1 rfl rfl w) ?_
 intro gc _ _ hgc
 refine nZ ?_
 refine pU ?_
 refine dn1 gc fun _ HS1=>?_
 clear HS0
 go_upto_region 2 with fail
 refine rgT [1000001] HS1 ?_
 refine pU ?_
 refine Seq.callFresh (n := some m0) (x := (27, RX [] d0)) rfl rfl rfl rfl (by kernel_rfl) (fun w' h' => by have h9 := deriveP_S (c := c) w' (HA.out.next h'.st.below) HN.out HDZ.out (tabS HT.out h'.st) HK.out; rw [HD0.out] at h9; exact h9.mono fun e w2 h2 => h2.fresh HM0.out) ?_
 intro gd _ _ hgd
 refine nZ ?_
 refine pU ?_
 refine Seq.done fun wz2 hws => ?_
 have HS2 := hws.q1 (p := gd)
 have HS3 : Hid (St w [(gc, 55, ([] ++ (Value.slice A n c :: [])).toArray), (gd, 27, RX [] d0)] wz2) := yh (St.perm HS2 (List.Perm.swap _ _ _))
 clear hws HS1 HS2
 have HG1 : Hid (ChR K kn p d0 cs) := yh (by rw [← HD0.out]; exact HG.out)
 clear HG
 go_wp2_with fail
 go_loopg [3, 4] kn (fun kx s3 s4 wr => ∃ (g cap m : Nat) (vs J : List Value) (dn : List Nums) (prev q : Nums) (rs : List Nums) (Ap Aq : Option Addr) (np cp nq cq : Nat) (bl : List Own), s3 = .slice (some ⟨g, 0, none⟩) (m + 1) cap ∧ s4 = .slice Aq nq cq ∧ np ≤ 1000 ∧ nq ≤ 1000 ∧ m + 1 ≤ cap ∧ cap ≤ maxLen ∧ m + 1 + J.length = cap ∧ m + kx ≤ 1000 ∧ Hid (vs.length = m) ∧ Hid (prev.length = np) ∧ Hid (q.length = nq) ∧ Hid (RIn w bl Ap prev) ∧ Hid (RIn w bl Aq q) ∧ Hid (CLi w bl vs dn) ∧ Hid (ChR K kx prev q rs) ∧ Hid (dn ++ prev :: rs = p :: cs) ∧ Hid (St w ((g, 55, (vs ++ (Value.slice Ap np cp :: J)).toArray) :: bl) wr))
 case atStart => exact ⟨gc, 1, 0, [], [], [], p, d0, cs, A, _, n, c, m0, m0, _, rfl, rfl, hn2, hm01, by omega, by unfold maxLen; omega, rfl, by omega, yh rfl, HN, HM0, yh (RIn.of HA.out _), yh (RIn.own List.mem_cons_self), yh trivial, HG1, yh rfl, HS3⟩
 case round =>
  clear HS3 HG1
  obtain ⟨g, cap, m, vs, J, dn, prev, q, rs, Ap, Aq, np, cp, nq, cq, bl, rfl, rfl, hnp, hnq, hmc, hcm, hJ, hmk, HLV, HLP, HLQ, HIP, HIQ, HCL, HRUN, HDN, HS⟩ := hrel
  have hcase := HRUN.out
  clear HRUN
  cases hcase with
  | stop =>
    have hnq0 : nq = 0 := by rw [← HLQ.out]; rfl
    subst hnq0
    have HE : Hid (∃ v, (Ending.returned (Value.slice (some ⟨g, 0, none⟩) (m + 1) cap)) = .returned v ∧ Below w.heap.size w wr ∧ CAt wr v (p :: cs)) := yh (by
     refine ⟨_, rfl, HS.out.below, ?_⟩
     have h1 : CLi wr [] (vs ++ [Value.slice Ap np cp]) (p :: cs) := by
      rw [← HDN.out]
      exact CLi.at_ HS.out.drop (CLi.snoc ⟨Ap, cp, by rw [HLP.out], HIP.out⟩ HCL.out)
     have h2 : (p :: cs).length = m + 1 := by rw [← h1.len, List.length_append, HLV.out]; rfl
     refine ⟨g, cap, _, J, by rw [h2], h1.len, ?_, h1⟩
     have h3 := (HS.out.blk _ List.mem_cons_self).2
     rw [List.append_assoc]
     exact h3)
    go_wp2_with fail
    go_ret
    exact HE.out
  | @step kn2 _ _ by1 rest1 cs1 h0 hqz hql h1 h2z h2 =>
    have HQNE := yh h0
    have hnq0 : 0 < nq := by rw [← HLQ.out]; exact List.length_pos_iff.2 h0
    have hnqI : (0 : Int) < (nq : Int) := by omega
    obtain ⟨gq, Jq, eA, -⟩ := (HIQ.out.at_ HS.out.drop).get (i := 0) (by rw [HLQ.out]; exact hnq0)
    subst eA
    obtain ⟨s0, hs0⟩ : ∃ s0, scaledL q = s0 := ⟨_, rfl⟩
    have HS0' := yh hs0
    have HSL : Hid (s0.length = nq) := yh (by rw [← hs0, scaled_len]; exact HLQ.out)
    have HQZ := yh hqz
    have HQD := yh (fun (_ : q ≠ []) => hql)
    have HDV : Hid (DivR K prev s0 by1 rest1) := yh (by rw [← hs0]; exact h1)
    have HRZ := yh h2z
    have HRUN : Hid (ChR K kn2 s0 (negL rest1) cs1) := yh (by rw [← hs0]; exact h2)
    have HDN2 : Hid ((dn ++ [prev]) ++ s0 :: cs1 = p :: cs) := yh (by rw [← HDN.out, ← hs0, List.append_assoc]; rfl)
    obtain ⟨n1, hn1⟩ : ∃ n1, by1.length = n1 := ⟨_, rfl⟩
    obtain ⟨n2, hn2'⟩ : ∃ n2, rest1.length = n2 := ⟨_, rfl⟩
    have hn2q : n2 ≤ nq := by have := HDV.out.rest_lt; rw [← hn2', ← HSL.out]; omega
    have HN1 := yh hn1
    have HN2 := yh hn2'
    have HMV := yh (show (vs ++ (Value.slice Ap np cp :: J)).toArray.size = cap * 1 by simp [HLV.out]; omega)
    have HTK : Hid ((vs ++ (Value.slice Ap np cp :: J)).toArray.toList.take ((m + 1) * 1) = vs ++ [Value.slice Ap np cp]) := yh (by
     show (vs ++ (Value.slice Ap np cp :: J)).take ((m + 1) * 1) = _
     rw [Nat.mul_one, List.take_append, HLV.out, List.take_of_length_le (by rw [HLV.out]; omega), show m + 1 - m = 1 by omega]; rfl)
    clear h0 hqz hql h1 h2z h2 hn1 hn2' hs0 HDN
    go_upto_region 4 with fail
    refine wp_seq_text [3000000, 1000002] (StR.move (StR.no HS.out)) ?_
    iterate 2 refine pU ?_
    refine Seq.callFresh (n := some nq) (x := (27, RX [] s0)) rfl rfl rfl rfl (by kernel_rfl) (fun w' h' => by have h9 := scaledP_S (c := cq) w' (HIQ.out.at_ h'.st) HLQ.out HQZ.out HQD.out (tabS HT.out h'.st) hnq HK.out; rw [HS0'.out] at h9; exact h9.mono fun e w2 h2 => h2.fresh HSL.out) ?_
    intro gs _ _ hgs
    obtain ⟨ne_gs_g, _, hgs⟩ := Reg.ne2 hgs
    refine nZ ?_
    refine Seq.slice (n := 1) (e := 55) (cs := #[Value.slice (some ⟨gs, 0, none⟩) nq nq]) rfl rfl (fun w => slcC_1 rfl rfl w) ?_
    intro gb _ _ hgb
    obtain ⟨_, _, hgb⟩ := Reg.ne2 hgb
    obtain ⟨_, _, hgb⟩ := Reg.ne2 hgb
    refine nZ ?_
    refine Seq.append (g := g) (n := m + 1) (cap := cap) (size := 1) (cs := (vs ++ (Value.slice Ap np cp :: J)).toArray) (cs1 := #[Value.slice (some ⟨gs, 0, none⟩) nq nq]) (xs := vs ++ [Value.slice Ap np cp]) rfl rfl rfl Tryz.underlying108 infoS rfl rfl rfl (by repeat first|exact rS|refine rN ‹_› ?_) HMV.out hmc hcm HTK.out rfl (by repeat first|exact rS|refine rN ‹_› ?_) rfl (by intro u hu; simp at hu; subst hu; rfl) (by omega) (by omega) ?_
    intro g2 cap2 J2 R2 hle2 hcm2 hlen2 hR2a hR2b
    simp only[Act.put,nA,nB,nC]
    refine pU ?_
    refine Seq.done fun w2 hws => ?_
    have HS2 : St w ((g2, 55, (vs ++ [Value.slice Ap np cp] ++ (Value.slice (some ⟨gs, 0, none⟩) nq nq :: J2)).toArray) :: (gs, 27, RX [] s0) :: bl) w2 := by
     have e1 : vs ++ [Value.slice Ap np cp] ++ (Value.slice (some ⟨gs, 0, none⟩) nq nq :: J2) = vs ++ [Value.slice Ap np cp] ++ (#[Value.slice (some ⟨gs, 0, none⟩) nq nq] : Array Value).toList ++ J2 := by simp
     rw [e1]
     have hgs := hR2b gs (27, RX [] s0) ne_gs_g (by repeat first|exact rS|refine rN ‹_› ?_)
     exact hws.list2 hR2a hgs.1 (fun e => hgs.2 e.symm)
    clear hws HS
    have HJ2 : Hid (m + 1 + 1 + J2.length = cap2) := yh (by have := hlen2; simp [HLV.out] at this; omega)
    clear hlen2 hR2a hR2b
    have hcap2 : m + 1 + 1 ≤ cap2 := hle2
    obtain ⟨vs1, hvs1⟩ : ∃ vs1, vs ++ [Value.slice Ap np cp] = vs1 := ⟨_, rfl⟩
    have HLV1 : Hid (vs1.length = m + 1) := yh (by rw [← hvs1, List.length_append, HLV.out]; rfl)
    have HCL1 : Hid (CLi w bl vs1 (dn ++ [prev])) := yh (by rw [← hvs1]; exact CLi.snoc ⟨Ap, cp, by rw [HLP.out], HIP.out⟩ HCL.out)
    have HV0 : Hid (∀ J9 : List Value, (vs1 ++ J9).toArray[m]? = some (Value.slice Ap np cp)) := yh (fun J9 => by rw [← hvs1]; simp [HLV.out])
    rw [hvs1] at HS2
    clear hvs1
    have HV1 : Hid ((vs1 ++ (Value.slice (some ⟨gs, 0, none⟩) nq nq :: J2)).toArray[m + 1]? = some (Value.slice (some ⟨gs, 0, none⟩) nq nq)) := yh (by simp [HLV1.out])
    have hm2 : m < m + 1 + 1 := by omega
    have hm3 : m + 1 < m + 1 + 1 := by omega
    have hw2 : IntKind.i64.wrap (((m + 1 + 1 : Nat) : Int) - 2) = (m : Int) := by rw [show ((m + 1 + 1 : Nat) : Int) - 2 = (m : Int) by omega]; exact IntWalk.i64_in _ (by omega)
    have hw1 : IntKind.i64.wrap (((m + 1 + 1 : Nat) : Int) - 1) = ((m + 1 : Nat) : Int) := by rw [show ((m + 1 + 1 : Nat) : Int) - 1 = ((m + 1 : Nat) : Int) by omega]; exact IntWalk.i64_in _ (by omega)
    have HW2 := yh hw2
    have HW1 := yh hw1
    clear hw2 hw1
    have HS2h := yh HS2
    clear HS2
    go_upto_region 5 with fail
    refine wp_inv_chainJ (S := (St w ((g2, 55, (vs1 ++ (Value.slice (some ⟨gs, 0, none⟩) nq nq :: J2)).toArray) :: (gs, 27, RX [] s0) :: bl))) 18 (isV (Value.slice (some ⟨g2, 0, none⟩) (m + 1 + 1) cap2) :: isV (Value.slice (some ⟨g2, 0, none⟩) (m + 1 + 1) cap2) :: isV (.int .i64 ((m + 1 + 1 : Nat) : Int)) :: isV (.int .i64 (m : Int)) :: isV (.pointer (some ⟨g2, m, none⟩)) :: isV (Value.slice Ap np cp) :: isV (Value.slice (some ⟨g2, 0, none⟩) (m + 1 + 1) cap2) :: isV (Value.slice (some ⟨g2, 0, none⟩) (m + 1 + 1) cap2) :: isV (.int .i64 ((m + 1 + 1 : Nat) : Int)) :: isV (.int .i64 ((m + 1 : Nat) : Int)) :: isV (.pointer (some ⟨g2, m + 1, none⟩)) :: isV (Value.slice (some ⟨gs, 0, none⟩) nq nq) :: (isTwoN w.heap.size ((g2, 55, (vs1 ++ (Value.slice (some ⟨gs, 0, none⟩) nq nq :: J2)).toArray) :: (gs, 27, RX [] s0) :: bl) rest1 n2 n1) :: (isTwoN w.heap.size ((g2, 55, (vs1 ++ (Value.slice (some ⟨gs, 0, none⟩) nq nq :: J2)).toArray) :: (gs, 27, RX [] s0) :: bl) rest1 n2 n1) :: anyV :: (isNewN w.heap.size ((g2, 55, (vs1 ++ (Value.slice (some ⟨gs, 0, none⟩) nq nq :: J2)).toArray) :: (gs, 27, RX [] s0) :: bl) rest1 n2) :: anyV :: (isNewN w.heap.size ((g2, 55, (vs1 ++ (Value.slice (some ⟨gs, 0, none⟩) nq nq :: J2)).toArray) :: (gs, 27, RX [] s0) :: bl) rest1 n2) :: []) rfl (by kernel_rfl) (by kernel_rfl) (by kernel_rfl) (by kernel_rfl) (fun _ _ h9 hb9 => h9.next hb9) HS2h.out ?plan ?last
    case plan =>
     refine PlanJ.cons (OpJ.mkV fun a wx hs hf hp => ?_) ?_
     ·exact StepI.mov rfl (wants_none rfl) (hf.keep 3 (by kernel_rfl))
     refine PlanJ.cons (OpJ.mkV fun a wx hs hf hp => ?_) ?_
     ·exact StepI.mov rfl (wants_none rfl) (hf.keep 3 (by kernel_rfl))
     refine PlanJ.cons (OpJ.mkV fun a wx hs hf hp => ?_) ?_
     ·exact StepI.lenC rfl (wants_none rfl) (hp 1 23 (by kernel_rfl) rfl) rfl
     refine PlanJ.cons (OpJ.mkV fun a wx hs hf hp => ?_) ?_
     ·exact StepI.bin rfl (wants_none rfl) (hp 2 24 (by kernel_rfl) rfl) rfl (subI_run _ _ _ _ _ HW2.out wx) rfl
     refine PlanJ.cons (OpJ.mkV fun a wx hs hf hp => ?_) ?_
     ·exact StepI.idx rfl (wants_none rfl) (hp 0 22 (by kernel_rfl) rfl) (hp 3 25 (by kernel_rfl) rfl) (run_idxC hm2 rfl wx) rfl
     refine PlanJ.cons (OpJ.mkV fun a wx hs hf hp => ?_) ?_
     ·exact StepI.load rfl (wants_none rfl) (hp 4 26 (by kernel_rfl) rfl) (run_load_cell (hs.blk _ List.mem_cons_self).2 (HV0.out _) (by kernel_rfl) rfl) rfl
     refine PlanJ.cons (OpJ.mkV fun a wx hs hf hp => ?_) ?_
     ·exact StepI.mov rfl (wants_none rfl) (hf.keep 3 (by kernel_rfl))
     refine PlanJ.cons (OpJ.mkV fun a wx hs hf hp => ?_) ?_
     ·exact StepI.mov rfl (wants_none rfl) (hf.keep 3 (by kernel_rfl))
     refine PlanJ.cons (OpJ.mkV fun a wx hs hf hp => ?_) ?_
     ·exact StepI.lenC rfl (wants_none rfl) (hp 7 29 (by kernel_rfl) rfl) rfl
     refine PlanJ.cons (OpJ.mkV fun a wx hs hf hp => ?_) ?_
     ·exact StepI.bin rfl (wants_none rfl) (hp 8 30 (by kernel_rfl) rfl) rfl (subI_run _ _ _ _ _ HW1.out wx) rfl
     refine PlanJ.cons (OpJ.mkV fun a wx hs hf hp => ?_) ?_
     ·exact StepI.idx rfl (wants_none rfl) (hp 6 28 (by kernel_rfl) rfl) (hp 9 31 (by kernel_rfl) rfl) (run_idxC hm3 rfl wx) rfl
     refine PlanJ.cons (OpJ.mkV fun a wx hs hf hp => ?_) ?_
     ·exact StepI.load rfl (wants_none rfl) (hp 10 32 (by kernel_rfl) rfl) (run_load_cell (hs.blk _ List.mem_cons_self).2 HV1.out (by kernel_rfl) rfl) rfl
     refine PlanJ.cons (OpJ.mk isTwoN_st fun a wx hs hf hp => ?_) ?_
     ·exact StepI.call rfl (wants_none rfl) (args2 (hp 5 27 (by kernel_rfl) rfl) (hp 11 33 (by kernel_rfl) rfl)) (by kernel_rfl) (by
       have h9 := divideP_S (c := cp) (c2 := nq) wx (HIP.out.at_ hs.drop.drop) (.inr ⟨gs, [], rfl, (hs.blk _ (List.mem_cons_of_mem _ List.mem_cons_self)).2⟩) HLP.out HSL.out HDV.out (tabS HT.out hs) hnp hnq HK.out
       rw [HN1.out, HN2.out] at h9
       refine h9.mono fun e w2 h2 => ?_
       obtain ⟨g1, g2', rfl, h3⟩ := h2
       have hb := h3.blk _ (List.mem_cons_of_mem _ List.mem_cons_self)
       exact ⟨_, rfl, ⟨g1, g2', rfl, Nat.le_trans hs.below.size hb.1, fun e he e9 => by have := (hs.blk e he).2.lt; have := hb.1; omega, hb.2⟩, h3.below⟩)
     refine PlanJ.cons (OpJ.mk isTwoN_st fun a wx hs hf hp => ?_) ?_
     ·exact StepI.mov rfl (wants_none rfl) (hp 12 34 (by kernel_rfl) rfl)
     refine PlanJ.cons (OpJ.mk (fun _ _ _ _ _ => trivial) fun a wx hs hf hp => ?_) ?_
     ·obtain ⟨g1, g2', e2, -⟩ := (show isTwoN w.heap.size ((g2, 55, (vs1 ++ (Value.slice (some ⟨gs, 0, none⟩) nq nq :: J2)).toArray) :: (gs, 27, RX [] s0) :: bl) rest1 n2 n1 (a.tmps.getD 21 undef) wx from (hp 13 21 (by kernel_rfl) rfl))
      exact StepI.ext rfl (wants_none rfl) e2 rfl trivial
     refine PlanJ.cons (OpJ.mk isNewN_st fun a wx hs hf hp => ?_) ?_
     ·obtain ⟨g1, g2', e2, h3⟩ := (show isTwoN w.heap.size ((g2, 55, (vs1 ++ (Value.slice (some ⟨gs, 0, none⟩) nq nq :: J2)).toArray) :: (gs, 27, RX [] s0) :: bl) rest1 n2 n1 (a.tmps.getD 21 undef) wx from (hp 13 21 (by kernel_rfl) rfl))
      exact StepI.ext rfl (wants_none rfl) e2 rfl ⟨g2', rfl, h3⟩
     refine PlanJ.cons (OpJ.mk (fun _ _ _ _ _ => trivial) fun a wx hs hf hp => ?_) ?_
     ·exact StepI.asg rfl (wants_none rfl) trivial
     refine PlanJ.cons (OpJ.mk isNewN_st fun a wx hs hf hp => ?_) ?_
     ·exact StepI.asg rfl (wants_none rfl) (hp 15 36 (by kernel_rfl) rfl)
     exact PlanJ.nil
    case last =>
     intro a wx hs hf hv
     obtain ⟨g6, e6, q1, q2, q3⟩ := (show isNewN w.heap.size ((g2, 55, (vs1 ++ (Value.slice (some ⟨gs, 0, none⟩) nq nq :: J2)).toArray) :: (gs, 27, RX [] s0) :: bl) rest1 n2 (a.tmps.getD 6 undef) wx from hv 17 6 (by decide) rfl)
     obtain ⟨v34, e34⟩ : ∃ v, a.tmps.getD 34 undef = v := ⟨_, rfl⟩
     obtain ⟨v21, e21⟩ : ∃ v, a.tmps.getD 21 undef = v := ⟨_, rfl⟩
     obtain ⟨v35, e35⟩ : ∃ v, a.tmps.getD 35 undef = v := ⟨_, rfl⟩
     obtain ⟨v36, e36⟩ : ∃ v, a.tmps.getD 36 undef = v := ⟨_, rfl⟩
     obtain ⟨v5, e5⟩ : ∃ v, a.tmps.getD 5 undef = v := ⟨_, rfl⟩
     have hput := hf.puts ((22, .slice (some ⟨g2, 0, none⟩) (m + 1 + 1) cap2) :: (23, .slice (some ⟨g2, 0, none⟩) (m + 1 + 1) cap2) :: (24, .int .i64 ((m + 1 + 1 : Nat) : Int)) :: (25, .int .i64 (m : Int)) :: (26, .pointer (some ⟨g2, m, none⟩)) :: (27, .slice Ap np cp) :: (28, .slice (some ⟨g2, 0, none⟩) (m + 1 + 1) cap2) :: (29, .slice (some ⟨g2, 0, none⟩) (m + 1 + 1) cap2) :: (30, .int .i64 ((m + 1 + 1 : Nat) : Int)) :: (31, .int .i64 ((m + 1 : Nat) : Int)) :: (32, .pointer (some ⟨g2, m + 1, none⟩)) :: (33, .slice (some ⟨gs, 0, none⟩) nq nq) :: (34, v34) :: (21, v21) :: (35, v35) :: (36, v36) :: (5, v5) :: (6, .slice (some ⟨g6, 0, none⟩) n2 n2) :: []) (by kernel_rfl) (List.forall_mem_cons.2 ⟨hv 0 22 (by decide) rfl, (List.forall_mem_cons.2 ⟨hv 1 23 (by decide) rfl, (List.forall_mem_cons.2 ⟨hv 2 24 (by decide) rfl, (List.forall_mem_cons.2 ⟨hv 3 25 (by decide) rfl, (List.forall_mem_cons.2 ⟨hv 4 26 (by decide) rfl, (List.forall_mem_cons.2 ⟨hv 5 27 (by decide) rfl, (List.forall_mem_cons.2 ⟨hv 6 28 (by decide) rfl, (List.forall_mem_cons.2 ⟨hv 7 29 (by decide) rfl, (List.forall_mem_cons.2 ⟨hv 8 30 (by decide) rfl, (List.forall_mem_cons.2 ⟨hv 9 31 (by decide) rfl, (List.forall_mem_cons.2 ⟨hv 10 32 (by decide) rfl, (List.forall_mem_cons.2 ⟨hv 11 33 (by decide) rfl, (List.forall_mem_cons.2 ⟨e34, (List.forall_mem_cons.2 ⟨e21, (List.forall_mem_cons.2 ⟨e35, (List.forall_mem_cons.2 ⟨e36, (List.forall_mem_cons.2 ⟨e5, (List.forall_mem_cons.2 ⟨e6, (by intro p hp; cases hp)⟩)⟩)⟩)⟩)⟩)⟩)⟩)⟩)⟩)⟩)⟩)⟩)⟩)⟩)⟩)⟩)⟩)⟩)
     have HSX := St.perm (St.cons hs q1 q2 q3) (List.Perm.swap _ _ _)
     have HIS : Hid (RIn w ((g6, 27, RX [] rest1) :: (gs, 27, RX [] s0) :: bl) (some ⟨gs, 0, none⟩) s0) := yh (RIn.own (List.mem_cons_of_mem _ List.mem_cons_self))
     have HCL2 : Hid (CLi w ((g6, 27, RX [] rest1) :: (gs, 27, RX [] s0) :: bl) vs1 (dn ++ [prev])) := yh (HCL1.out.more fun e he => List.mem_cons_of_mem _ (List.mem_cons_of_mem _ he))
     obtain ⟨bl2, hbl2⟩ : ∃ bl2, (gs, 27, RX [] s0) :: bl = bl2 := ⟨_, rfl⟩
     rw [hbl2] at HSX HIS HCL2
     have HSX2 := yh HSX
     clear hf hv e6 e34 e21 e35 e36 e5 hs q1 q2 q3 hbl2 HSX HCL1 HCL HIQ HIP HLV HTK HMV HS2h HV0 HV1
     subst hput
     unfold chainW
     simp only [puts, Act.put, List.setIfInBounds_toArray, List.set_cons_zero, List.set_cons_succ]
     obtain ⟨q1, hq1⟩ : ∃ q1, negL rest1 = q1 := ⟨_, rfl⟩
     have HQ1 := yh hq1
     have HQL : Hid (q1.length = n2) := yh (by rw [← hq1, neg_len]; exact HN2.out)
     clear hq1
     have HQS : Hid (QSt w ((g2, 55, (vs1 ++ (Value.slice (some ⟨gs, 0, none⟩) nq nq :: J2)).toArray) :: (g6, 27, RX [] rest1) :: bl2) q1 0 (some ⟨gq, 0, none⟩) 0 wx) := yh (.inl ⟨rfl, rfl, HSX2.out⟩)
     clear HSX2
     go_wp2_with fail
     go_loopg [41, 4] n2 (fun kx s41 s4 wr => ∃ (i : Nat) (A4 : Option Addr) (c4 : Nat), kx = n2 - i ∧ s41 = .int .i64 (i : Int) ∧ s4 = .slice A4 i c4 ∧ i ≤ n2 ∧ Hid (QSt w ((g2, 55, (vs1 ++ (Value.slice (some ⟨gs, 0, none⟩) nq nq :: J2)).toArray) :: (g6, 27, RX [] rest1) :: bl2) q1 i A4 c4 wr))
     case atStart => exact ⟨0, _, 0, rfl, rfl, rfl, Nat.zero_le _, HQS⟩
     case round =>
      clear HQS
      obtain ⟨i, A4, c4, hgk3, rfl, rfl, hile, HQ⟩ := hrel
      have HGK3 := yh hgk3; clear hgk3
      by_cases hin : i < n2
      ·have HI := yh (show i < rest1.length by rw [HN2.out]; exact hin)
       have HI1 := yh (show i < q1.length by rw [HQL.out]; exact hin)
       have HNG : Hid (-rx rest1 i = rx q1 i) := yh (by rw [← HQ1.out, neg_rx HI.out])
       have hwi : IntKind.i64.wrap ((i : Int) + 1) = (i : Int) + 1 := IntWalk.i64_in _ (by omega)
       have HTL := yh (take_len HQL.out (show i ≤ n2 by omega))
       rcases HQ.out with ⟨hi0, hc0, hst⟩ | ⟨hi0, gr, Jr, hA4, hic, hcx, hsz, hst⟩
       ·have HST := yh hst
        subst hi0 hc0
        clear hst HQ
        go_upto_region 9 with fail
        refine wp_seq_text [] (StR.no HST.out) ?_
        refine iX 3 0 hin ?_
        refine lM (RC (rx rest1 0)) (RX_room HI.out) (RX_at HI.out) ?_
        refine aL3 ?_
        intro b8 _ _ hb8
        refine nZ ?_
        refine sV (RC_one _) ?_
        refine Seq.done fun w3 hws => ?_
        have HS3 := hws.q1
        clear hws HST
        go_upto_region 10 with fail
        refine rgT [3000000] HS3 ?_
        refine pU ?_
        refine lV ?_
        refine cX rfl rfl (neg_q (k := K) HT.out (HRZ.out.at_ HI.out) HNG.out (by have := HK.out; omega)) ?_
        refine Seq.slice (n := 1) (e := 27) (cs := RC (rx q1 0)) rfl rfl (fun w => slcQ_1 rfl rfl w) ?_
        intro gb _ _ hgb
        refine nZ ?_
        refine Seq.append0 (size := 3) (m := 1) (cs1 := RC (rx q1 0)) rfl rfl rfl Tryz.underlying55 infoR rfl rfl rfl rfl (by repeat first|exact rS|refine rN ‹_› ?_) rfl (fun u hu => RC_one _ u (by simpa using hu)) (by omega) (by omega) ?_
        intro gr2 cr2 Jr2 Rr2 hler2 hcmr2 hlenr2 hRr2 hRr2b
        simp only[Act.put,nA,nB,nC]
        refine pU ?_
        refine Seq.done fun w4 hws => ?_
        have HQ2 : Hid (QSt w ((g2, 55, (vs1 ++ (Value.slice (some ⟨gs, 0, none⟩) nq nq :: J2)).toArray) :: (g6, 27, RX [] rest1) :: bl2) q1 (0 + 1) (some ⟨gr2, 0, none⟩) cr2 w4) := yh (by
         refine .inr ⟨by omega, gr2, Jr2, rfl, hler2, hcmr2, ?_, ?_⟩
         ·rw [take_succ_rx HI1.out, RX_size]
          have := hlenr2
          simp [RC] at this ⊢
          omega
         ·rw [take_succ_rx HI1.out]
          have h9 := hws.list1 hRr2
          have e : RX Jr2 (q1.take 0 ++ [rx q1 0]) = ((RC (rx q1 0)).toList ++ Jr2).toArray := by
           apply Array.toList_inj.1
           rw [RX_list]
           simp [fr, rl]
          rw [e]
          exact St.sub h9 (List.cons_sublist_cons.2 (List.sublist_cons_self _ _)))
        clear hws HS3 hRr2 hRr2b hlenr2
        go_wp2_with fail
        go_roundg (n2 - (0 + 1))
        case measure => rw [HGK3.out]; omega
        case rel => exact ⟨0 + 1, _, cr2, rfl, by go_num, rfl, by omega, HQ2⟩
       ·have HST := yh hst
        subst hA4
        have HCR := yh (And.intro hic hcx)
        have HSZ := yh hsz
        have HI0 := yh hi0
        have HTKR : Hid ((RX Jr (q1.take i)).toList.take (i * 3) = fr (q1.take i)) := yh (by
         rw [RX_list, List.take_append_of_le_length (by rw [fr_len, HTL.out]; omega), List.take_of_length_le (by rw [fr_len, HTL.out]; omega)])
        clear hst HQ hic hcx hsz
        go_upto_region 9 with fail
        refine wp_seq_text [] (StR.no HST.out) ?_
        refine iX 3 i hin ?_
        refine lM (RC (rx rest1 i)) (RX_room HI.out) (RX_at HI.out) ?_
        refine aL3 ?_
        intro b8 _ _ hb8
        refine nZ ?_
        refine sV (RC_one _) ?_
        refine Seq.done fun w3 hws => ?_
        have HS3 := hws.q1
        clear hws HST
        have HS4 := yh (StR.move (StR.no (St.perm HS3 (List.Perm.swap _ _ _))))
        clear HS3
        go_upto_region 10 with fail
        refine wp_seq_text [3000000] HS4.out ?_
        refine pU ?_
        refine lV ?_
        refine cX rfl rfl (neg_q (k := K) HT.out (HRZ.out.at_ HI.out) HNG.out (by have := HK.out; omega)) ?_
        refine Seq.slice (n := 1) (e := 27) (cs := RC (rx q1 i)) rfl rfl (fun w => slcQ_1 rfl rfl w) ?_
        intro gb _ _ hgb
        obtain ⟨_, _, hgb⟩ := Reg.ne2 hgb
        refine nZ ?_
        refine Seq.append (g := gr) (n := i) (m := 1) (cap := c4) (size := 3) (cs := RX Jr (q1.take i)) (cs1 := RC (rx q1 i)) (xs := fr (q1.take i)) rfl rfl rfl Tryz.underlying55 infoR rfl rfl rfl (by repeat first|exact rS|refine rN ‹_› ?_) HSZ.out HCR.out.1 HCR.out.2 HTKR.out rfl (by repeat first|exact rS|refine rN ‹_› ?_) rfl (fun u hu => RC_one _ u (by simpa using hu)) (by omega) (by omega) ?_
        intro gr2 cr2 Jr2 Rr2 hler2 hcmr2 hlenr2 hRr2 hRr2b
        simp only[Act.put,nA,nB,nC]
        refine pU ?_
        refine Seq.done fun w4 hws => ?_
        have HQ2 : Hid (QSt w ((g2, 55, (vs1 ++ (Value.slice (some ⟨gs, 0, none⟩) nq nq :: J2)).toArray) :: (g6, 27, RX [] rest1) :: bl2) q1 (i + 1) (some ⟨gr2, 0, none⟩) cr2 w4) := yh (by
         have e : RX Jr2 (q1.take i ++ [rx q1 i]) = (fr (q1.take i) ++ (RC (rx q1 i)).toList ++ Jr2).toArray := by
          apply Array.toList_inj.1
          rw [RX_list, fr_app]
          simp [fr, rl]
         refine .inr ⟨by omega, gr2, Jr2, rfl, hler2, hcmr2, ?_, ?_⟩
         ·rw [take_succ_rx HI1.out, e]
          simpa using hlenr2
         ·rw [take_succ_rx HI1.out, e]
          exact St.sub (hws.list1 hRr2) (List.cons_sublist_cons.2 (List.sublist_cons_self _ _)))
        clear hws HS4 hRr2 hRr2b hlenr2
        go_wp2_with fail
        go_roundg (n2 - (i + 1))
        case measure => rw [HGK3.out]; omega
        case rel => exact ⟨i + 1, _, cr2, rfl, by go_num, rfl, by omega, HQ2⟩
      ·have HRUN2 : Hid (ChR K kn2 s0 q1 cs1) := yh (by rw [← HQ1.out]; exact HRUN.out)
       have hin2 : i = n2 := by omega
       have HQX : Hid (∃ bl3, St w ((g2, 55, (vs1 ++ (Value.slice (some ⟨gs, 0, none⟩) nq nq :: J2)).toArray) :: bl3) wr ∧ RIn w bl3 A4 q1 ∧ ∀ e ∈ (g6, 27, RX [] rest1) :: bl2, e ∈ bl3) := yh (by
        rcases HQ.out with ⟨hi0, hc0, hst⟩ | ⟨hi0, gr, Jr, hA4, hic, hcx, hsz, hst⟩
        ·exact ⟨_, hst, .inl (List.eq_nil_of_length_eq_zero (by rw [HQL.out]; omega)), fun e he => he⟩
        ·rw [List.take_of_length_le (by rw [HQL.out]; omega)] at hst
         exact ⟨_, St.perm hst (List.Perm.swap _ _ _), by rw [hA4]; exact RIn.own List.mem_cons_self, fun e he => List.mem_cons_of_mem _ he⟩)
       obtain ⟨bl3, x1, x2, x3⟩ := HQX.out
       have X1 := yh x1
       have X2 := yh x2
       have X3 : Hid (RIn w bl3 (some ⟨gs, 0, none⟩) s0) := yh (HIS.out.more x3)
       have X4 : Hid (CLi w bl3 vs1 (dn ++ [prev])) := yh (HCL2.out.more x3)
       have hmk2 : m + 1 + kn2 ≤ 1000 := by omega
       have hJ2 : m + 1 + 1 + J2.length = cap2 := HJ2.out
       clear x1 x2 x3 HQX HQ HIS HCL2
       go_wp2_with fail
       go_roundg kn2
       case measure => exact Nat.lt_succ_self _
       case rel => exact ⟨g2, cap2, m + 1, vs1, J2, dn ++ [prev], s0, q1, cs1, _, A4, nq, nq, i, c4, bl3, rfl, rfl, hnq, by omega, hcap2, hcm2, hJ2, hmk2, HLV1, HSL, by rw [hin2]; exact HQL, X3, X2, X4, HRUN2, HDN2, X1⟩
end Go.Proofs.YtmchjmflkaiakaaGreatDoor
