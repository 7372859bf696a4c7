/- gantkeep1.rooted: up to five numbers in order, and the polynomial that has them as its roots. -/
import Derived.Test.YtmchjmflkaiakaaGreatDoorSoC
import Derived.Test.YtmchjmflkaiakaaGreatDoorSoB
import Derived.Test.YtmchjmflkaiakaaGreatDoorSoR
import Derived.Test.YtmchjmflkaiakaaGreatDoorStO
import Derived.Test.YtmchjmflkaiakaaGreatDoorPo3
import Derived.Deep.LoopGhost
import Derived.OwnWalk
set_option maxHeartbeats 8000000
set_option maxRecDepth 20000
namespace Go.Proofs.YtmchjmflkaiakaaGreatDoor
open Go.RowKit
set_option linter.unusedVariables false
set_option linter.unusedSimpArgs false
theorem sml_of {q : Rat} (h : SmallQ q) : Sml q := by
 obtain ⟨z, d, rfl, d0, d8, z1, z2⟩ := h
 have hd : (0 : Rat) < (d : Rat) := by exact_mod_cast d0
 have e : mkRat z d * (d : Rat) = (z : Rat) := by
  rw [Rat.mkRat_eq_div]
  exact Rat.div_mul_cancel (b := ((d : Int) : Rat)) (by have h9 : (0 : Rat) < ((d : Int) : Rat) := hd; grind)
 have q1 : (z : Rat) ≤ 8 * (d : Rat) := by
  have : ((z : Int) : Rat) ≤ ((8 * (d : Int) : Int) : Rat) := Rat.intCast_le_intCast.2 z2
  rw [Rat.intCast_mul] at this
  exact this
 have q2 : -(8 * (d : Rat)) ≤ (z : Rat) := by
  have : ((-(8 * (d : Int)) : Int) : Rat) ≤ ((z : Int) : Rat) := Rat.intCast_le_intCast.2 z1
  rw [Rat.intCast_neg, Rat.intCast_mul] at this
  exact this
 refine ⟨z, d, d0, d8, by omega, e, ?_, ?_⟩
 ·rcases (by grind : mkRat z d < -8 ∨ -8 ≤ mkRat z d) with h | h
  ·have := Rat.mul_pos (show 0 < -8 - mkRat z d by grind) hd; grind
  ·exact h
 ·rcases (by grind : mkRat z d ≤ 8 ∨ 8 < mkRat z d) with h | h
  ·exact h
  ·have := Rat.mul_pos (show 0 < mkRat z d - 8 by grind) hd; grind
theorem prd_snoc (x r : Rat) : ∀ l : List Rat, prd (l ++ [r]) x = prd l x * (x - r)
 | [] => by show 1 * (x - r) = 1 * (x - r); rfl
 | a :: l => by rw [List.cons_append, prd_cons, prd_snoc x r l, prd_cons]; grind
theorem prd_perm (x : Rat) {a b : List Rat} (h : a.Perm b) : prd a x = prd b x := by
 induction h with
 | nil => rfl
 | cons c _ ih => rw [prd_cons, prd_cons, ih]
 | swap c d l => rw [prd_cons, prd_cons, prd_cons, prd_cons]; grind
 | trans _ _ ih1 ih2 => rw [ih1, ih2]
theorem root_one_len (rs : List Rat) : (rootL [1] rs).length = rs.length + 1 ∧ (rootL [1] rs).getLast? = some 1 := by
 obtain ⟨h1, h2⟩ := root_len (W := [1]) rfl rs
 exact ⟨by rw [h1]; simp; omega, h2⟩
theorem root_z {rs : List Rat} (h : ∀ r ∈ rs, Sml r) (hl : rs.length ≤ 6) : Qz 7 (rootL [1] rs) := by
 obtain ⟨D, hD⟩ := root_cz Wgd.one.cz rs h
 exact hD.qz.mo (by omega)
theorem sml_z {r : Rat} (h : Sml r) : Rz 1 r := by
 obtain ⟨n, d, d0, d8, n64, e, -, -⟩ := h
 exact Rz.frac d0 e (by omega) (by omega)
theorem lin_z {r : Rat} (h : Sml r) : Qz 7 [-r, 1] := fun c hc => by
 simp only [List.mem_cons, List.not_mem_nil, or_false] at hc
 rcases hc with rfl | rfl
 ·exact (sml_z h).neg.more (by omega)
 ·exact (Rz.int1 (z := 1) (by decide)).more (by omega)
theorem prod_lin (rs : List Rat) (r : Rat) : prodN (rootL [1] rs) [-r, 1] (rs.length + 1) = rootL [1] (rs ++ [r]) := by
 have h := prod_is (p := rootL [1] rs) (q := [-r, 1]) (T := rootL [1] (rs ++ [r])) (root_one_len rs).2 rfl (root_one_len _).2 fun x => by rw [ev_root, ev_root, prd_snoc, ev_lin]; grind
 rwa [(root_one_len rs).1] at h
theorem root_perm {a b : List Rat} (h : a.Perm b) : rootL [1] a = rootL [1] b :=
 ev_inj (mono_tr (root_one_len a).2).1 (mono_tr (root_one_len b).2).1 fun x => by rw [ev_root, ev_root, prd_perm x h]
theorem srtN_pw {qs : Nums} {n : Nat} (hn : qs.length = n) (h : SrtN n qs) (nd : qs.Nodup) : qs.Pairwise (· < ·) := by
 rw [List.pairwise_iff_getElem]
 intro i j hi hj hij
 have h1 := h i j hij (by omega)
 rw [← rx_get hi, ← rx_get hj] at h1
 have h2 : qs[i] ≠ qs[j] := fun e => by
  have := (List.getElem_inj nd).1 e
  omega
 grind
theorem isortN_0 (w : World) : Calls Tryz.prog 147 #[.slice none 0 0, .int .i64 0, .int .i64 0, .func (.func 29) #[] #[]] w fun e w' => e = .returned (.tuple #[]) ∧ w' = w := by
 go_enter Tryz.func147, Tryz.ntmps147
 go_wp2_with fail
 go_loopg [8] 0 (fun kx s8 wr => kx = 0 ∧ s8 = .int .i64 1 ∧ wr = w)
 case atStart => exact ⟨rfl, rfl, rfl⟩
 case round =>
  obtain ⟨-, rfl, rfl⟩ := hrel
  go_wp2_with fail
  go_end0
  exact ⟨rfl, rfl⟩
theorem pdqN_0 (v : Int) (w : World) : Calls Tryz.prog 118 #[.slice none 0 0, .int .i64 0, .int .i64 0, .int .i64 v, .func (.func 29) #[] #[]] w fun e w' => e = .returned (.tuple #[]) ∧ w' = w := by
 go_enter Tryz.func118, Tryz.ntmps118
 go_wp2_with fail
 go_loopg [1, 2] 0 (fun kx s1 s2 wr => kx = 0 ∧ s1 = .int .i64 0 ∧ s2 = .int .i64 0 ∧ wr = w)
 case atStart => exact ⟨rfl, rfl, rfl, rfl⟩
 case round =>
  obtain ⟨-, rfl, rfl, rfl⟩ := hrel
  go_wp2_with (first | (go_at_call 147; refine (isortN_0 _).mono ?_; rintro e w2 ⟨rfl, rfl⟩) | fail)
  (try simp only [Exit.inBlock, Exit.then]); refine bodyPost_ret (results_none rfl _ _ _) rfl ?_
  exact ⟨rfl, rfl⟩
theorem sortFN_0 (w : World) : Calls Tryz.prog 72 #[.slice none 0 0, .func (.func 29) #[] #[]] w fun e w' => e = .returned (.tuple #[]) ∧ w' = w := by
 go_enter Tryz.func72, Tryz.ntmps72
 go_wp2_with (first | (go_at_call 119; refine (len_s _ _ (by omega) (by omega)).mono ?_; rintro e w2 ⟨v, rfl, rfl⟩) | (go_at_call 118; refine (pdqN_0 _ _).mono ?_; rintro e w2 ⟨rfl, rfl⟩) | fail)
 go_end0
 exact ⟨rfl, rfl⟩
theorem run_load_atN {P : Program} {w : World} {t : TypeId} {p : Addr} {v : Value} (hc : w.cell? p = some v) (ht : cellOf P t = true) (h1 : v.oneCell' = true) : (loadVar t p).run P w = .ok v w := by
 unfold cellOf at ht
 cases hu : P.underlying t with
 | none => simp [hu] at ht
 | some d =>
   have hagg : (isAgg t).run P w = .ok false w := by
    unfold isAgg
    rw [Sem.run_bind, run_underlying hu w]
    rw [hu] at ht
    cases d <;> simp_all
   have hadd : p.add 0 = p := by simp [Addr.add]
   have hr : (load p).run P w = .ok v w := by
    have h := run_loadCells_list (P := P) w p [v] (fun j u hj => by
     have hj0 : j = 0 := by have := (List.getElem?_eq_some_iff.1 hj).1; simp at this; omega
     subst hj0
     rw [hadd, hc]; simpa using hj)
    simp only [loadCells, loadCellsFrom, List.length_cons, List.length_nil, Nat.zero_add, hadd, Sem.run_bind] at h
    cases hq : (load p).run P w with
    | ok u w' =>
      rw [hq] at h
      simp at h
      rw [h.1, h.2]
    | halt x w' => rw [hq] at h; simp at h
   unfold loadVar
   rw [Sem.run_bind, hagg]
   exact hr
section
variable {P : Program} {ops : Array Oper} {W : World} {l : List Own} {Q : Exit → Act → World → Prop} {gs : List Nat} {k : Nat} {o : Oper} {rest : List Oper} {a : Act} {R : Reg}
theorem Seq.loadOutN {t : TypeId} {x : Operand} {p : Addr} {v : Value} (ho : o.op = .load t x) (hk : kd gs k o = .val) (hw : wants ops o a = true) (hx : a.eval x = .pointer (some p))
  (hp : p.block < W.heap.size) (hv : W.cell? p = some v) (ht : cellOf P t = true) (h1 : v.oneCell' = true)
  (h : Seq P ops Q W l gs (k + 1) rest (a.put o.dst v) R) : Seq P ops Q W l gs k (o :: rest) a R :=
 Seq.look hk hw (fun w hs => by
  unfold execOp
  simp only [ho, hx, Instr.loadAt, Instr.sureAddr, Sem.run_bind, Sem.run_pure, Result.andThen_ok, run_load_atN ((hs.below.cell hp).trans hv) ht h1]) h
end
theorem RowLN.rat {v : Value} {out : Nums} {lr : List Own} (h : RowLN v out lr) : ∃ A c, v = .slice A out.length c ∧ ∀ {W : World} {l : List Own} {w : World}, St W (lr ++ l) w → RAt w A out := by
 rcases h with ⟨h1, h2, h3⟩ | ⟨g, cap, J, h1, h2, -⟩
 ·subst h1 h2; exact ⟨none, 0, rfl, fun _ => .inl rfl⟩
 ·subst h1 h2; exact ⟨some ⟨g, 0, none⟩, cap, rfl, fun h => .inr ⟨g, J, rfl, (h.blk _ List.mem_cons_self).2⟩⟩
theorem slcQ_2N {o : Oper} {a : Act} {X0 X1 : Operand} {x0 x1 : Rat} (ho : o.op = .buildSlice 55 2 #[(0, X0), (1, X1)]) (h0 : a.eval X0 = .agg (RC x0)) (h1 : a.eval X1 = .agg (RC x1)) (w : World) :
  (execOp a.eval o).run Tryz.prog w = .ok (.value (.slice (some ⟨w.heap.size, 0, none⟩) 2 2)) (w.alloc (.cells (RX [] [x0, x1]) 27)) := by
 have e : RX [] [x0, x1] = #[.bool (decide (x0.num < 0)), .string (S x0.num.natAbs), .string (S x0.den), .bool (decide (x1.num < 0)), .string (S x1.num.natAbs), .string (S x1.den)] := rfl
 rw [e]
 unfold RC at h0 h1
 unfold execOp
 simp only [ho, List.map_toArray, List.map_cons, List.map_nil, h0, h1]
 go_simp
theorem Ints.nthN {W : World} {A : Option Addr} {n c : Nat} {xs : List Int} (h : Ints W A n c xs) {i : Nat} (hi : i < n) : ∃ ad, A = some ad ∧ (ad.add i).block < W.heap.size ∧ W.cell? (ad.add i) = some (.int .i64 (xs.getD i 0)) ∧ (-9223372036854775808 ≤ xs.getD i 0 ∧ xs.getD i 0 ≤ 9223372036854775807) := by
 obtain ⟨ad, u, h1, h2, h3, h4⟩ := h.1.at_ hi
 have hl : i < xs.length := by rw [h.len]; exact hi
 have e : xs.getD i 0 = xs[i] := by simp [List.getD_eq_getElem?_getD, List.getElem?_eq_getElem hl]
 have hu : u = .int .i64 (xs.getD i 0) := by
  rw [e]
  simp [intsOf, List.getElem?_eq_getElem hl] at h3
  exact h3.symm
 have hbk : (ad.add i).block = ad.block := block_of_add _ _
 exact ⟨ad, h1, by rw [hbk]; exact h2, by rw [h4, hu], by rw [e]; exact h.2.2 _ (List.getElem_mem hl)⟩
theorem Ints.nextN {W w : World} {A : Option Addr} {n c : Nat} {xs : List Int} (h : Ints W A n c xs) (hb : Below W.heap.size W w) : Ints w A n c xs := ⟨(h.1.below hb).more hb.size, h.2⟩
theorem Ints.takeN {W : World} {A : Option Addr} {n c m : Nat} {xs : List Int} (h : Ints W A n c xs) (hm : m ≤ n) : Ints W A m c (xs.take m) := by
 refine ⟨⟨?_, fun h0 => ?_⟩, by have := h.2.1; omega, fun x hx => h.2.2 x (List.mem_of_mem_take hx)⟩
 ·have := h.len; simp [intsOf]; omega
 ·obtain ⟨ad, h1, h2, h3⟩ := h.1.2 (by omega)
  refine ⟨ad, h1, h2, fun j u hu => h3 j u ?_⟩
  unfold intsOf at hu ⊢
  rw [List.map_take, List.getElem?_take] at hu
  split at hu
  ·exact hu
  ·cases hu
structure Rooted (w : World) (m : Nat) (e : Ending) (w' : World) (rs : Nums) : Prop where
 ret : ∃ A1 A2 c1 c2, e = .returned (.tuple #[.slice A1 rs.length c1, .slice A2 (rs.length + 1) c2]) ∧ RAt w' A1 rs ∧ RAt w' A2 (rootL [1] rs)
 below : Below w.heap.size w w'
 asc : rs.Pairwise (· < ·)
 sml : ∀ r ∈ rs, Sml r
 few : rs.length ≤ m ∧ m ≤ 5
theorem rooted_S {n c m : Nat} {A : Option Addr} {xs : List Int} (w : World) (hi : Ints w A n c xs) (hm : min n 5 = m) (hT : Tab w) :
  Calls Tryz.prog 25 #[.slice A n c] w fun e w' => ∃ rs, Rooted w m e w' rs := by
 have HI := yh hi
 have hnc : n ≤ c := hi.2.1
 clear hi
 have HT := yh hT; clear hT
 have hmn : m ≤ n := by omega
 have hm5 : m ≤ 5 := by omega
 have hmin : min (n : Int) 5 = (m : Int) := by omega
 have HS0 : Hid (St w [] w) := yh St.start
 go_enter Tryz.func25, Tryz.ntmps25
 go_upto_region 2 with fail
 refine rgT [] HS0.out ?_
 refine cX rfl rfl (of_q (z := (1 : Rat)) HT.out (by omega) (by omega) (by decide +kernel)) ?_
 refine Seq.slice (n := 1) (e := 27) (cs := RC 1) rfl rfl (fun w => slcQ_1 rfl rfl w) ?_
 intro gp _ _ hgp
 refine nZ ?_
 refine pU ?_
 refine Seq.done fun w1 hws => ?_
 have HS1 : Hid (RowStN w [(gp, 27, RX [] (rootL [1] []))] (.slice none 0 0) [] w1) := yh ⟨[], .inl ⟨rfl, rfl, rfl⟩, hws.q1 (p := gp)⟩
 have HB1 := yh (hws.q1 (p := gp))
 clear hws HS0
 go_upto_region 3 with fail
 refine rgT [] HB1.out ?_
 iterate 3 refine pU ?_
 refine pV (.int .i64 (m : Int)) (by intro w; go_simp <;> (first | (rw [hmin]; done) | exact hmin | (simp [hmin]; done) | omega)) ?_
 refine pV (.slice A m c) (by intro w; go_simp <;> (first | omega | (simp; omega))) ?_
 iterate 2 refine pU ?_
 refine Seq.done fun w2 hws => ?_
 have HS2 : Hid (RowStN w [(gp, 27, RX [] (rootL [1] []))] (.slice none 0 0) [] w2) := yh ⟨[], .inl ⟨rfl, rfl, rfl⟩, hws.st⟩
 clear hws HS1 HB1 hmin
 go_wp2_with fail
 go_loopg [4, 5, 17] m (fun kx s4 s5 s17 wr => ∃ (i : Nat) (rs : Nums) (gp : Nat), kx = m - i ∧ s5 = .slice (some ⟨gp, 0, none⟩) (rs.length + 1) (rs.length + 1) ∧ s17 = .int .i64 (i : Int) ∧ i ≤ m ∧ Hid (rs.length ≤ i ∧ rs.Nodup ∧ ∀ r ∈ rs, Sml r) ∧ Hid (RowStN w [(gp, 27, RX [] (rootL [1] rs))] s4 rs wr))
 case atStart => exact ⟨0, [], gp, rfl, rfl, rfl, Nat.zero_le _, yh ⟨Nat.le_refl _, List.nodup_nil, fun r hr => nomatch hr⟩, HS2⟩
 case round =>
  clear HS2
  obtain ⟨i, rs, gp2, hgk, rfl, rfl, hile, HP, HR⟩ := hrel
  have HGK := yh hgk; clear hgk
  obtain ⟨lr, hlr, hst⟩ := HR.out
  obtain ⟨A4, c4, hv4, hrat⟩ := hlr.rat
  subst hv4
  have HLR := yh hlr; clear hlr
  have HRAT : Hid (∀ (W' : World) (l' : List Own) (w' : World), St W' (lr ++ l') w' → RAt w' A4 rs) := yh (fun _ _ _ h => hrat h); clear hrat
  have HST := yh hst; clear hst HR
  by_cases him : i < m
  ·obtain ⟨ad, rfl, b0, k0, r0⟩ := HI.out.nthN (i := i) (by omega)
   obtain ⟨x, hx⟩ : ∃ x, xs.getD i 0 = x := ⟨_, rfl⟩
   rw [hx] at k0 r0
   obtain ⟨r, hr⟩ : ∃ r, ratMq x = r := ⟨_, rfl⟩
   have HSM : Hid (Sml r) := yh (hr ▸ sml_of (ratMq_small x))
   have HRQ := yh hr; clear hr hx
   have hrl5 : rs.length ≤ 4 := by have := HP.out.1; omega
   have i1 : (0 : Int) ≤ (i : Int) := by omega
   have i2 : (i : Int) < (m : Int) := by omega
   have hwi : IntKind.i64.wrap ((i : Int) + 1) = (i : Int) + 1 := IntWalk.i64_in _ (by omega)
   obtain ⟨b, hb⟩ : ∃ b, decide (r ∈ rs) = b := ⟨_, rfl⟩
   have HBQ := yh hb; clear hb
   go_upto_region 5 with fail
   refine rgT [] HST.out ?_
   refine pV (.pointer (some (ad.add i))) (by intro w; go_simp; try rfl) ?_
   refine Seq.loadOutN (p := ad.add i) rfl rfl rfl rfl b0 k0 (by kernel_rfl) rfl (nZ ?_)
   refine pU ?_
   refine dnH fun w3 HS3=>?_
   clear HST
   go_upto_region 6 with fail
   refine rgT [] HS3.out ?_
   refine pU ?_
   refine cX rfl rfl (ratM_q HRQ.out r0.1 r0.2) ?_
   refine aL3 ?_
   intro b8 _ _ hb8
   refine nZ ?_
   refine sV (RC_one _) ?_
   refine dh1 b8 fun w4 HS4=>?_
   clear HS3
   cases b with
   | true =>
     go_upto_region 7 with fail
     refine rgT [] HS4.out ?_
     refine pU ?_
     refine lV ?_
     refine cX rfl rfl (fun w' h' => containsN_v (n := rs.length) (by omega) HBQ.out w' ⟨rfl, HRAT.out _ _ _ h'.drop⟩) ?_
     refine pU ?_
     refine Seq.done fun w5 hws => ?_
     have HS5 : Hid (RowStN w [(gp2, 27, RX [] (rootL [1] rs))] (.slice A4 rs.length c4) rs w5) := yh ⟨lr, HLR.out, hws.st.drop⟩
     clear hws HS4
     go_wp2_with fail
     go_roundg (m - (i + 1))
     case measure => rw [HGK.out]; omega
     case rel => exact ⟨i + 1, rs, gp2, rfl, rfl, by go_num, by omega, yh ⟨by have := HP.out.1; omega, HP.out.2⟩, HS5⟩
   | false =>
     have HNI : Hid (r ∉ rs) := yh (of_decide_eq_false HBQ.out)
     go_upto_region 7 with fail
     refine rgT [] HS4.out ?_
     refine pU ?_
     refine lV ?_
     refine cX rfl rfl (fun w' h' => containsN_v (n := rs.length) (by omega) HBQ.out w' ⟨rfl, HRAT.out _ _ _ h'.drop⟩) ?_
     refine pU ?_
     refine dnH fun _ HS5=>?_
     clear HS4
     go_upto_region 8 with fail
     refine wp_seq_textC 3 [] rfl rfl rfl (StR.no HS5.out) ?_
     refine pU ?_
     refine lV ?_
     refine Seq.slice (n := 1) (e := 27) (cs := RC r) rfl rfl (fun w => slcQ_1 rfl rfl w) ?_
     intro g9 _ _ hg9
     refine nZ ?_
     refine Seq.done fun w6 hws => ?_
     have HS6 := yh (hws.q1 (p := g9))
     have HROW : Hid (RowStN w ((b8, 27, RC r) :: [(gp2, 27, RX [] (rootL [1] rs))]) (.slice A4 rs.length c4) rs w6) := yh ⟨lr, HLR.out, (HS6.out.drop).perm (List.perm_middle (l₁ := lr)).symm⟩
     have HB9 := yh (HS6.out.blk _ List.mem_cons_self).2
     clear hws HS5 HS6
     refine ⟨wants_none rfl, ?_⟩
     refine RowStN.append rfl Tryz.underlying55 infoR HROW.out rfl rfl HB9.out (by omega) ?_
     intro v6 w7 hR7
     simp only [Act.put, List.setIfInBounds_toArray, List.set_cons_zero, List.set_cons_succ]
     refine ⟨wants_none rfl, ?_⟩
     refine st_asg rfl ?_
     unfold chainW
     simp only [Act.eval, Act.put, List.setIfInBounds_toArray, List.set_cons_zero, List.set_cons_succ]
     obtain ⟨lr2, hl2, hst2⟩ := hR7
     have HL2 := yh hl2
     have HS7 : Hid (St w ((b8, 27, RC r) :: (gp2, 27, RX [] (rootL [1] rs)) :: lr2) w7) := yh (hst2.perm List.perm_append_comm)
     clear hl2 hst2 HROW HB9
     have HN1 := yh (root_one_len rs).1
     have HZ1 := yh (root_z HP.out.2.2 (by omega))
     have HLZ := yh (lin_z HSM.out)
     obtain ⟨nr, hnr⟩ : ∃ nr, -r = nr := ⟨_, rfl⟩
     have HNR := yh hnr; clear hnr
     go_upto_region 9 with fail
     refine rgT [1000005] HS7.out ?_
     refine pU ?_
     refine lV ?_
     refine cX rfl rfl (neg_q (k := 1) HT.out (sml_z HSM.out) HNR.out (by omega)) ?_
     refine cX rfl rfl (of_q (z := (1 : Rat)) HT.out (by omega) (by omega) (by decide +kernel)) ?_
     refine Seq.slice (n := 2) (e := 27) (cs := RX [] [nr, 1]) rfl rfl (fun w => slcQ_2N rfl rfl rfl w) ?_
     intro gq _ _ hgq
     refine nZ ?_
     refine Seq.callFresh (n := some (rs.length + 2)) (x := (27, RX [] (rootL [1] (rs ++ [r])))) rfl rfl rfl rfl (by kernel_rfl) (fun w' h' => by
      have h9 := product_S (k := 7) (n := rs.length + 1) (m := 2) (c := rs.length + 1) (c2 := 2) (p := rootL [1] rs) (q := [nr, 1]) w' (.inr ⟨gp2, [], rfl, (h'.st.blk (gp2, 27, RX [] (rootL [1] rs)) (by repeat first|exact mC|apply mT)).2⟩) (.inr ⟨gq, [], rfl, (h'.reg _ _ _ (by repeat first|exact rS|refine rN ‹_› ?_)).2.2⟩) HN1.out rfl ⟨by omega, by omega⟩ ⟨by omega, by omega⟩ HZ1.out (by rw [← HNR.out]; exact HLZ.out) (by omega) (by omega) (tabS HT.out h'.st)
      rw [← HNR.out, prod_lin] at h9
      exact h9.mono fun e w2 h2 => h2.fresh (by rw [(root_one_len _).1, List.length_append]; rfl)) ?_
     intro gn _ _ hgn
     refine nZ ?_
     refine pU ?_
     refine Seq.done fun w8 hws => ?_
     have HS8 : Hid (RowStN w [(gn, 27, RX [] (rootL [1] (rs ++ [r])))] v6 (rs ++ [r]) w8) := yh ⟨lr2, HL2.out, ((hws.q1 (p := gn)).sub (.cons_cons _ (.cons _ (.cons _ (.refl _))))).perm (List.perm_append_comm (l₁ := [_]))⟩
     simp only [mk]
     clear hws HS7
     go_wp2_with fail
     go_roundg (m - (i + 1))
     case measure => rw [HGK.out]; omega
     case rel =>
      refine ⟨i + 1, rs ++ [r], gn, rfl, by rw [List.length_append]; rfl, by go_num, by omega, yh ⟨by rw [List.length_append]; have := HP.out.1; simp; omega, ?_, ?_⟩, HS8⟩
      ·rw [List.nodup_append]
       exact ⟨HP.out.2.1, by simp, fun a ha b hb e => HNI.out (by rw [List.mem_singleton] at hb; rw [← hb, ← e]; exact ha)⟩
      ·intro q hq
       rcases List.mem_append.1 hq with hq | hq
       ·exact HP.out.2.2 q hq
       ·rw [List.mem_singleton.1 hq]; exact HSM.out
  ·obtain rfl : i = m := by omega
   have hrl5 : rs.length ≤ 5 := by have := HP.out.1; omega
   have ne : ¬ (i : Int) < (i : Int) := by omega
   rcases HLR.out with ⟨h1, h2, h3⟩ | ⟨g, cap, J, h1, h2, h3, h4, h5, h6⟩
   ·subst h2
    injection h1 with h1a h1b h1c
    subst h1a
    subst h1c
    subst h3
    go_upto_region 11 with fail
    refine wp_seq_textC 1 [] rfl rfl rfl (StR.no HST.out) ?_
    refine pU ?_
    refine dnH fun w3 HS3=>?_
    clear HST
    refine ⟨wants_none rfl, ?_⟩
    refine w_call (vs := #[.slice none 0 0, .func (.func 29) #[] #[]]) rfl rfl (by kernel_rfl) (sortFN_0 w3) fun e w4 h9 => ?_
    obtain ⟨rfl, rfl⟩ := h9
    refine ⟨_, rfl, ?_⟩
    unfold chainW
    simp only [Act.eval, Act.put, List.setIfInBounds_toArray, List.set_cons_zero, List.set_cons_succ]
    go_wp2_with fail
    go_ret2
    refine ⟨[], ⟨⟨none, some ⟨gp2, 0, none⟩, 0, _, rfl, .inl rfl, .inr ⟨gp2, [], rfl, (HS3.out.blk _ List.mem_cons_self).2⟩⟩, HS3.out.below, List.Pairwise.nil, (fun r hr => nomatch hr), Nat.zero_le _, hm5⟩⟩
   ·injection h1 with h1a h1b h1c
    subst h1a h1c h2
    have HZ := yh (show Qz 1 rs from fun q hq => sml_z (HP.out.2.2 q hq))
    go_upto_region 11 with fail
    refine wp_seq_textC 1 [] rfl rfl rfl (StR.no HST.out) ?_
    refine pU ?_
    refine dnH fun w3 HS3=>?_
    clear HST
    refine ⟨wants_none rfl, ?_⟩
    refine w_call (vs := #[.slice (some ⟨g, 0, none⟩) rs.length c4, .func (.func 29) #[] #[]]) rfl rfl (by kernel_rfl) (sortFN_S (k := 1) (cap := c4) HT.out HZ.out rfl (by omega) (by omega) w3 HS3.out) fun e w4 h9 => ?_
    obtain ⟨rfl, qs, hq1, hq2, hq3, hq4⟩ := h9
    have HE := yh (And.intro hq1 (And.intro hq2 (And.intro hq3 hq4))); clear hq1 hq2 hq3 hq4
    refine ⟨_, rfl, ?_⟩
    unfold chainW
    simp only [Act.eval, Act.put, List.setIfInBounds_toArray, List.set_cons_zero, List.set_cons_succ]
    go_wp2_with fail
    go_ret2
    obtain ⟨hq1, hq2, hq3, hq4⟩ := HE.out
    refine ⟨qs, ⟨⟨some ⟨g, 0, none⟩, some ⟨gp2, 0, none⟩, c4, rs.length + 1, by rw [hq1]; rfl, .inr ⟨g, J, rfl, (hq4.blk _ List.mem_cons_self).2⟩, .inr ⟨gp2, [], rfl, ?_⟩⟩, hq4.below, srtN_pw hq1 hq3 (hq2.nodup_iff.2 HP.out.2.1), fun q hq => HP.out.2.2 q (hq2.mem_iff.1 hq), ⟨by rw [hq1]; exact HP.out.1, hm5⟩⟩⟩
    rw [root_perm hq2]
    exact (hq4.blk _ (List.mem_cons_of_mem _ List.mem_cons_self)).2
end Go.Proofs.YtmchjmflkaiakaaGreatDoor
