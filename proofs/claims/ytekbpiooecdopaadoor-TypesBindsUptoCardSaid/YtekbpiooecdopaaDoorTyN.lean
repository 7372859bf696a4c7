/- gantref4.NamedOf (printed by tyn.py). -/
import Derived.Test.YtekbpiooecdopaaDoorTyF
import Derived.Test.YtekbpiooecdopaaDoorRowS

namespace Go.Proofs.YtekbpiooecdopaaDoor
open Go.RowKit
set_option linter.unusedVariables false
set_option linter.unusedSimpArgs false

theorem infoS : (Tryd.prog.info? 9).map (fun i => (i.zero, i.size, i.bytes)) = some (some (.string ⟨#[]⟩), 1, 16) := by kernel_rfl
def SX (J : List Value) (xs : List ByteArray) : Array Value := (xs.map Value.string ++ J).toArray
theorem SX_list (J : List Value) (xs : List ByteArray) : (SX J xs).toList = xs.map Value.string ++ J := rfl
theorem slcS_1 {o : Oper} {a : Act} {X0 : Operand} {x : ByteArray} (ho : o.op = .buildSlice 61 1 #[(0, X0)]) (h0 : a.eval X0 = .string x) (w : World) :
    (execOp a.eval o).run Tryd.prog w = .ok (.value (.slice (some ⟨w.heap.size, 0, none⟩) 1 1)) (w.alloc (.cells #[.string x] 9)) := by
  unfold execOp
  simp only [ho, List.map_toArray, List.map_cons, List.map_nil, h0]
  go_simp
/-- the strings xs at v, beside the blocks that follow lr -/
def RowS (v : Value) (xs : List ByteArray) (lr : List Own) : Prop :=
  (v = .slice none 0 0 ∧ xs = [] ∧ lr = []) ∨ ∃ g cap J, v = .slice (some ⟨g, 0, none⟩) xs.length cap ∧ lr = [(g, 9, SX J xs)] ∧ 0 < xs.length ∧ xs.length ≤ cap ∧ cap ≤ maxLen ∧ (SX J xs).size = cap * 1
/-- .. in the region's own blocks, beside block b -/
def RowR (R : Reg) (b : Nat) (v : Value) (xs : List ByteArray) : Prop :=
  (v = .slice none 0 0 ∧ xs = []) ∨ ∃ g cap J, v = .slice (some ⟨g, 0, none⟩) xs.length cap ∧ R g = some (9, SX J xs) ∧ b ≠ g ∧ 0 < xs.length ∧ xs.length ≤ cap ∧ cap ≤ maxLen ∧ (SX J xs).size = cap * 1
theorem Reg.puN {R : Reg} {p q : Nat} {x y : TypeId × Array Value} (h : R p = some x) (hq : R q = none) : (R.put q y) p = some x := by
  unfold Reg.put
  rw [if_neg (fun e => by rw [e, hq] at h; cases h)]
  exact h
theorem Reg.puE {R : Reg} {p : Nat} {y : TypeId × Array Value} : (R.put p y) p = some y := by unfold Reg.put; rw [if_pos rfl]
theorem row_in {W w : World} {b : Nat} {x : TypeId × Array Value} {lr l : List Own} {v : Value} {xs : List ByteArray} (h : St W ((b, x) :: (lr ++ l)) w) (hr : RowS v xs lr) : ∃ R : Reg, StR W l R w ∧ R b = some x ∧ RowR R b v xs := by
  rcases hr with ⟨h1, h2, rfl⟩ | ⟨g, cap, J, h1, rfl, h3⟩
  · exact ⟨_, StR.move (StR.no h), Reg.puE, .inl ⟨h1, h2⟩⟩
  · have hne : b ≠ g := (List.pairwise_cons.1 h.apart).1 _ List.mem_cons_self
    refine ⟨_, StR.move (StR.move (StR.no h)), ?_, .inr ⟨g, cap, J, h1, Reg.puE, hne, h3⟩⟩
    show (Reg.put _ g _) b = some x
    unfold Reg.put
    rw [if_neg hne, if_pos rfl]
/-- one string more -/
theorem Seq.appendS {P : Program} {ops : Array Oper} {W : World} {l : List Own} {Q : Exit → Act → World → Prop} {gs : List Nat} {k : Nat} {o : Oper} {rest : List Oper} {a : Act} {R : Reg} {s x : Operand} {t : TypeId} {v : Value} {xs : List ByteArray} {y : ByteArray} {b n g1 : Nat}
    (ho : o.op = .call { callee := .builtin .append, args := #[s, x], argTypes := #[t, t] }) (hg : gs.contains 3000000 = true) (hw : wants ops o a = true)
    (ht : P.underlying t = some (.slice 9)) (hi : (P.info? 9).map (fun i => (i.zero, i.size, i.bytes)) = some (some (.string ⟨#[]⟩), 1, 16))
    (hs : a.eval s = v) (hrow : RowR R b v xs) (hxl : xs.length = n) (hx : a.eval x = .slice (some ⟨g1, 0, none⟩) 1 1) (hR1 : R g1 = some (9, #[.string y])) (hb : R b ≠ none) (hnm : n + 1 ≤ 1000000)
    (h : ∀ (g' cap' : Nat) (J' : List Value) (R' : Reg), n + 1 ≤ cap' → cap' ≤ maxLen → (SX J' (xs ++ [y])).size = cap' * 1 → R' g' = some (9, SX J' (xs ++ [y])) → R' b = R b → b ≠ g' →
      Seq P ops Q W l gs (k + 1) rest (a.put o.dst (.slice (some ⟨g', 0, none⟩) (n + 1) cap')) R') : Seq P ops Q W l gs k (o :: rest) a R := by
  have one : ∀ u ∈ (#[.string y] : Array Value).toList, u.oneCell' = true := fun u hu => by
    rw [List.mem_singleton.1 hu]; rfl
  obtain ⟨xb, hxb⟩ : ∃ xb, R b = some xb := by
    cases e : R b with
    | none => exact absurd e hb
    | some z => exact ⟨z, rfl⟩
  subst hxl
  rcases hrow with ⟨h1, h2⟩ | ⟨g, cap, J, h1, hRg, hne, hp, hc1, hc2, hsz⟩
  · subst h2 h1
    refine Seq.append0 (e := 9) (size := 1) (m := 1) (cs1 := #[.string y]) ho hg hw ht hi rfl rfl hs hx hR1 rfl one (by omega) (by omega) fun g' cap' J' R' hle hcm hlen hR' hk => ?_
    have hb' := hk b xb hxb
    refine h g' cap' J' R' hle hcm ?_ hR' (by rw [hb'.1, hxb]) hb'.2
    rw [← hlen]
    simp [SX]
  · subst h1
    refine Seq.append (e := 9) (size := 1) (m := 1) (g := g) (n := xs.length) (cap := cap) (cs := SX J xs) (cs1 := #[.string y]) (xs := xs.map Value.string) ho hg hw ht hi rfl rfl hs hRg hsz hc1 hc2 (by rw [SX_list, Nat.mul_one, List.take_append_of_le_length (by simp), List.take_of_length_le (by simp)]) hx hR1 rfl one (by omega) hnm fun g' cap' J' R' hle hcm hlen hR' hk => ?_
    have hb' := hk b xb hne hxb
    have e : (List.map Value.string xs ++ (#[.string y] : Array Value).toList ++ J').toArray = SX J' (xs ++ [y]) := by simp [SX]
    refine h g' cap' J' R' hle hcm ?_ (by rw [hR', e]) (by rw [hb'.1, hxb]) hb'.2
    rw [← hlen, ← e]
    simp
theorem RowS.at_ {v : Value} {xs : List ByteArray} {lr : List Own} (h : RowS v xs lr) : ∃ A c, v = .slice A xs.length c ∧ ∀ (W : World) (l : List Own) (w : World), St W l w → (∀ e ∈ lr, e ∈ l) → StrsAt w w.heap.size A xs := by
  rcases h with ⟨h1, rfl, -⟩ | ⟨g, cap, J, h1, h2, -⟩
  · exact ⟨none, 0, h1, fun W l w _ _ j x hx => by simp at hx⟩
  · refine ⟨_, cap, h1, fun W l w hs hm j x hx => ?_⟩
    have hB := (hs.blk (g, 9, SX J xs) (hm _ (by rw [h2]; exact List.mem_cons_self))).2
    refine ⟨g, 0, rfl, hB.lt, ?_⟩
    rw [Nat.zero_add, hB.cell]
    have hj := (List.getElem?_eq_some_iff.1 hx).1
    show (xs.map Value.string ++ J).toArray[j]? = _
    rw [List.getElem?_toArray, List.getElem?_append_left (by simpa using hj), List.getElem?_map, hx]
    rfl
theorem take_more {L : List ByteArray} {i : Nat} {x : ByteArray} (h : L[i]? = some x) : L.take (i + 1) = L.take i ++ [x] := by
  rw [List.take_add_one, h]; rfl
theorem RowR.put {R : Reg} {b q : Nat} {v : Value} {xs : List ByteArray} {y : TypeId × Array Value} (h : RowR R b v xs) (hq : R q = none) : RowR (R.put q y) b v xs := by
  rcases h with h | ⟨g, cap, J, h1, h2, h3⟩
  · exact .inl h
  · exact .inr ⟨g, cap, J, h1, Reg.puN h2 hq, h3⟩
theorem rowS_one {v : Value} {xs : List ByteArray} {lr : List Own} (h : RowS v xs lr) : v.oneCell' = true := by
  rcases h with ⟨rfl, -⟩ | ⟨g, cap, J, rfl, -⟩ <;> rfl
theorem perm_up {α : Type} (x y : α) (a b : List α) : List.Perm (x :: y :: (a ++ b)) (y :: (a ++ (x :: b))) :=
  (List.Perm.swap y x _).trans (List.Perm.cons y (List.perm_middle (l₁ := a)).symm)
set_option maxHeartbeats 16000000 in
set_option maxRecDepth 20000 in
theorem named_any {k : Wk} {n0 n2 n3 n4 : Nat} {s : ByteArray} {r : Int × Int} (w : World) (hk : WkIn w k n0 n2 n3 n4) (hr : findR k.L0 k.L2 k.L3 k.L4 s = r) :
    Calls Tryd.prog 5 #[.agg (wkC k n0 n2 n3 n4), .string s] w fun e w' => e = .returned (.tuple #[.int .i64 r.1, .int .i64 r.2]) ∧ Below w.heap.size w w' := by
  have HK := Lib.hid hk; clear hk
  have HR := Lib.hid hr; clear hr
  have HS0 : Hid (St w [] w) := Lib.hid St.start
  go_enter Tryd.func5, Tryd.ntmps5
  go_upto_region 0 with (fail)
  refine rgT [] HS0.out ?_
  refine bX (wkC k n0 n2 n3 n4) ?_
  intro b2 _ _ hb2
  refine nZ ?_
  iterate 2 refine pU ?_
  refine Seq.done fun w0 hws => ?_
  have HS00 := Lib.hid (hws.q1 (p := b2))
  clear hws HS0
  go_upto_region 1 with (fail)
  refine rgT [] HS00.out ?_
  refine Seq.alloc rfl rfl rfl (z := .agg #[.slice none 0 0, .slice none 0 0, .slice none 0 0, .slice none 0 0, .slice none 0 0]) (by kernel_rfl) rfl ?_
  intro b6 _ _ hb6
  refine nZ ?_
  refine Seq.done fun w00 hws => ?_
  obtain ⟨rl0, hrl0⟩ : ∃ rl0, [(b2, 30, wkC k n0 n2 n3 n4)] = rl0 := ⟨_, rfl⟩
  have HM : Hid ((b2, 30, wkC k n0 n2 n3 n4) ∈ rl0) := Lib.hid (hrl0 ▸ List.mem_cons_self)
  have HS : Hid (St w ((b6, 62, #[.slice none 0 0, .slice none 0 0, .slice none 0 0, .slice none 0 0, .slice none 0 0]) :: rl0) w00) := Lib.hid (hrl0 ▸ hws.q1 (p := b6))
  clear hws HS00 hrl0
  go_upto_region 2 with (fail)
  refine rgT [] HS.out ?_
  refine pU ?_
  refine Seq.loadCell (T := 30) (cs := wkC k n0 n2 n3 n4) rfl rfl rfl rfl (List.mem_cons_of_mem _ HM.out) (v := .slice k.A0 n0 k.c0) rfl (by kernel_rfl) rfl (nZ ?_)
  iterate 2 refine pU ?_
  refine Seq.done fun w1 hws => ?_
  have HS1 := Lib.hid hws.st
  clear hws HS
  go_wp2_with fail
  go_loopg [20] n0 (fun kx s20 wr => ∃ (i : Nat) (v : Value) (lr : List Own), kx = n0 - i ∧ s20 = .int .i64 (i : Int) ∧ i ≤ n0 ∧ Hid (RowS v (k.L0.take i) lr) ∧ Hid (St w ((b6, 62, #[.slice none 0 0, v, .slice none 0 0, .slice none 0 0, .slice none 0 0]) :: (lr ++ rl0)) wr))
  case atStart => exact ⟨0, .slice none 0 0, [], rfl, rfl, Nat.zero_le _, Lib.hid (.inl ⟨rfl, rfl, rfl⟩), HS1⟩
  case round =>
    clear HS1
    obtain ⟨i, v, lr, hgk, rfl, hile, HRW, HSR⟩ := hrel
    have HGK := Lib.hid hgk; clear hgk
    by_cases hin : i < n0
    · have hi2 : n0 ≤ 524288 := HK.out.e0.2
      have hwi : IntKind.i64.wrap ((i : Int) + 1) = (i : Int) + 1 := IntWalk.i64_in _ (by omega)
      have hil : i < k.L0.length := by rw [HK.out.e0.1]; exact hin
      obtain ⟨x, hx⟩ : ∃ x, k.L0[i]? = some x := ⟨_, List.getElem?_eq_getElem hil⟩
      obtain ⟨g, f, hA, hg, hF, hO, h0, hc⟩ := HK.out.h0 i x hx
      obtain ⟨F, hFF⟩ : ∃ F, (k.F0 i).toArray = F := ⟨_, rfl⟩
      have HIX : Hid (∀ w, (Instr.indexAt 22 (.slice k.A0 n0 k.c0) (.int .i64 (i : Int))).run Tryd.prog w = .ok (.pointer (some ⟨g, f + i * 12, none⟩)) w) := Lib.hid (fun w => by rw [hA]; exact run_indexT (by kernel_rfl) hin w)
      have HLD : Hid (∀ w', Below w.heap.size w w' → (loadVar 51 ⟨g, f + i * 12, none⟩).run Tryd.prog w' = .ok (.agg F) w') := Lib.hid (hFF ▸ fun w' hb => ld_sin hg hF hc hb (by kernel_rfl))
      have HF : Hid (F.size = 12) := Lib.hid (by rw [← hFF]; exact hF)
      have HO : Hid (∀ u ∈ F, u.oneCell' = true) := Lib.hid (by rw [← hFF]; exact fun u hu => hO u (by simpa using hu))
      have H0 : Hid (F[0]? = some (.string x)) := Lib.hid (by rw [← hFF]; simpa using h0)
      have HX := Lib.hid hx
      clear hx hA hg hF hO h0 hc hFF hil
      have HTL : Hid ((k.L0.take i).length = i) := Lib.hid (by rw [List.length_take, HK.out.e0.1]; omega)
      go_upto_region 4 with (fail)
      refine rgT [] HSR.out ?_
      refine Seq.indexT rfl rfl rfl rfl rfl HIX.out (nZ ?_)
      refine Seq.loadT rfl rfl rfl rfl HLD.out (nZ ?_)
      refine Seq.alloc rfl rfl rfl (z := .agg #[.string ⟨#[]⟩, .bool false, .string ⟨#[]⟩, .string ⟨#[]⟩, .bool false, .string ⟨#[]⟩, .string ⟨#[]⟩, .bool false, .bool false, .string ⟨#[]⟩, .string ⟨#[]⟩, .slice none 0 0]) (by kernel_rfl) rfl ?_
      intro be _ _ hbe
      refine nZ ?_
      refine sV (n := 12) HO.out ?_ (hn' := HF.out)
      refine Seq.done fun w2 hws => ?_
      have HS2 : Hid (St w ((b6, 62, #[.slice none 0 0, v, .slice none 0 0, .slice none 0 0, .slice none 0 0]) :: (lr ++ ((be, 51, F) :: rl0))) w2) := Lib.hid ((hws.q1 (p := be)).perm (perm_up _ _ _ _))
      clear hws HSR
      obtain ⟨R, hRS, hRb, hRow⟩ := row_in HS2.out HRW.out
      have HRS := Lib.hid hRS; have HRB := Lib.hid hRb; have HROW := Lib.hid hRow
      clear hRS hRb hRow HS2
      go_upto_region 5 with (fail)
      refine wp_seq_text [2, 3000000] HRS.out ?_
      refine pU ?_
      refine Seq.getCell rfl rfl rfl rfl HRB.out (v := v) rfl (by kernel_rfl) (rowS_one HRW.out) (nZ ?_)
      refine pU ?_
      refine Seq.loadCell rfl rfl rfl rfl List.mem_cons_self (v := .string x) H0.out (by kernel_rfl) rfl (nZ ?_)
      refine Seq.slice (n := 1) (e := 9) (cs := #[.string x]) rfl rfl (fun w => slcS_1 rfl rfl w) ?_
      intro g1 _ _ hg1
      refine nZ ?_
      refine Seq.appendS (b := b6) (n := i) (xs := k.L0.take i) (y := x) rfl rfl rfl Tryd.underlying61 infoS rfl (HROW.out.put hg1) HTL.out rfl Reg.puE (by rw [Reg.puN HRB.out hg1]; exact fun e => by cases e) (by omega) ?_
      intro g' cap' J' R' hle hcm hlen hR' hRb' hne'
      refine nZ ?_
      refine pU ?_
      refine Seq.storeAt (v := .slice (some ⟨g', 0, none⟩) (i + 1) cap') rfl rfl rfl rfl rfl (hRb'.trans (Reg.puN HRB.out hg1)) (Nat.le_of_ble_eq_true rfl) (by kernel_rfl) (fun u hu => by simp [Value.cells] at hu; subst hu; rfl) (cs' := #[.slice none 0 0, .slice (some ⟨g', 0, none⟩) (i + 1) cap', .slice none 0 0, .slice none 0 0, .slice none 0 0]) rfl (nZ ?_)
      refine Seq.done fun w3 hws => ?_
      have HRW2 : Hid (RowS (.slice (some ⟨g', 0, none⟩) (i + 1) cap') (k.L0.take (i + 1)) [(g', 9, SX J' (k.L0.take (i + 1)))]) := Lib.hid (by
        have e := take_more HX.out
        have l1 : (k.L0.take (i + 1)).length = i + 1 := by rw [e, List.length_append, HTL.out]; rfl
        refine .inr ⟨g', cap', J', by rw [l1], rfl, by omega, by rw [l1]; exact hle, hcm, ?_⟩
        rw [e]; exact hlen)
      have HS3 : Hid (St w ((b6, 62, #[.slice none 0 0, .slice (some ⟨g', 0, none⟩) (i + 1) cap', .slice none 0 0, .slice none 0 0, .slice none 0 0]) :: ([(g', 9, SX J' (k.L0.take (i + 1)))] ++ rl0)) w3) := Lib.hid (by
        have h9 := hws.list2 Reg.puE (show (Reg.put R' b6 _) g' = _ by unfold Reg.put; rw [if_neg (fun e => hne' e.symm)]; exact hR') hne'
        rw [take_more HX.out]
        exact h9.sub (.cons_cons _ (.cons_cons _ (.cons _ (.refl _)))))
      clear hws hle hcm hlen hR' hRb' hne' hg1
      go_wp2_with fail
      go_roundg (n0 - (i + 1))
      case measure => rw [HGK.out]; omega
      case rel => exact ⟨i + 1, _, _, rfl, by go_num, by omega, HRW2, HS3⟩
    · obtain rfl : n0 = i := by omega
      have hrow : RowS v k.L0 lr := by have h9 := HRW.out; rw [List.take_of_length_le (by rw [HK.out.e0.1]; exact Nat.le_refl _)] at h9; exact h9
      obtain ⟨B0, d0, hv, hat⟩ := hrow.at_
      rw [HK.out.e0.1] at hv
      have HAT0 := Lib.hid hat
      obtain ⟨rl1, hrl⟩ : ∃ rl1, lr ++ rl0 = rl1 := ⟨_, rfl⟩
      obtain ⟨V0, hV⟩ : ∃ V0, v = V0 := ⟨_, rfl⟩
      have HV0 : Hid (V0 = .slice B0 n0 d0) := Lib.hid (hV ▸ hv)
      have HSUB0 : Hid (∀ e ∈ lr, e ∈ rl1) := Lib.hid (fun e he => hrl ▸ List.mem_append_left _ he)
      have HUP0 : Hid (∀ e ∈ rl0, e ∈ rl1) := Lib.hid (fun e he => hrl ▸ List.mem_append_right _ he)
      have HM := Lib.hid (HUP0.out _ HM.out)
      have HS : Hid (St w ((b6, 62, #[.slice none 0 0, V0, .slice none 0 0, .slice none 0 0, .slice none 0 0]) :: rl1) wr) := Lib.hid (by have h9 := HSR.out; rw [hrl, hV] at h9; exact h9)
      clear HSR HRW HGK hrow hv hat hrl hV
      go_upto_region 7 with (fail)
      refine rgT [] HS.out ?_
      refine pU ?_
      refine Seq.loadCell (T := 30) (cs := wkC k n0 n2 n3 n4) rfl rfl rfl rfl (List.mem_cons_of_mem _ HM.out) (v := .slice k.A2 n2 k.c2) rfl (by kernel_rfl) rfl (nZ ?_)
      iterate 2 refine pU ?_
      refine Seq.done fun w1 hws => ?_
      have HS1 := Lib.hid hws.st
      clear hws HS
      go_wp2_with fail
      go_loopg [35] n2 (fun kx s35 wr => ∃ (i : Nat) (v : Value) (lr : List Own), kx = n2 - i ∧ s35 = .int .i64 (i : Int) ∧ i ≤ n2 ∧ Hid (RowS v (k.L2.take i) lr) ∧ Hid (St w ((b6, 62, #[.slice none 0 0, V0, v, .slice none 0 0, .slice none 0 0]) :: (lr ++ rl1)) wr))
      case atStart => exact ⟨0, .slice none 0 0, [], rfl, rfl, Nat.zero_le _, Lib.hid (.inl ⟨rfl, rfl, rfl⟩), HS1⟩
      case round =>
        clear HS1
        obtain ⟨i, v, lr, hgk, rfl, hile, HRW, HSR⟩ := hrel
        have HGK := Lib.hid hgk; clear hgk
        by_cases hin : i < n2
        · have hi2 : n2 ≤ 524288 := HK.out.e2.2
          have hwi : IntKind.i64.wrap ((i : Int) + 1) = (i : Int) + 1 := IntWalk.i64_in _ (by omega)
          have hil : i < k.L2.length := by rw [HK.out.e2.1]; exact hin
          obtain ⟨x, hx⟩ : ∃ x, k.L2[i]? = some x := ⟨_, List.getElem?_eq_getElem hil⟩
          obtain ⟨g, f, hA, hg, hF, hO, h0, hc⟩ := HK.out.h2 i x hx
          obtain ⟨F, hFF⟩ : ∃ F, (k.F2 i).toArray = F := ⟨_, rfl⟩
          have HIX : Hid (∀ w, (Instr.indexAt 24 (.slice k.A2 n2 k.c2) (.int .i64 (i : Int))).run Tryd.prog w = .ok (.pointer (some ⟨g, f + i * 12, none⟩)) w) := Lib.hid (fun w => by rw [hA]; exact run_indexT (by kernel_rfl) hin w)
          have HLD : Hid (∀ w', Below w.heap.size w w' → (loadVar 54 ⟨g, f + i * 12, none⟩).run Tryd.prog w' = .ok (.agg F) w') := Lib.hid (hFF ▸ fun w' hb => ld_sin hg hF hc hb (by kernel_rfl))
          have HF : Hid (F.size = 12) := Lib.hid (by rw [← hFF]; exact hF)
          have HO : Hid (∀ u ∈ F, u.oneCell' = true) := Lib.hid (by rw [← hFF]; exact fun u hu => hO u (by simpa using hu))
          have H0 : Hid (F[0]? = some (.string x)) := Lib.hid (by rw [← hFF]; simpa using h0)
          have HX := Lib.hid hx
          clear hx hA hg hF hO h0 hc hFF hil
          have HTL : Hid ((k.L2.take i).length = i) := Lib.hid (by rw [List.length_take, HK.out.e2.1]; omega)
          go_upto_region 9 with (fail)
          refine rgT [] HSR.out ?_
          refine Seq.indexT rfl rfl rfl rfl rfl HIX.out (nZ ?_)
          refine Seq.loadT rfl rfl rfl rfl HLD.out (nZ ?_)
          refine Seq.alloc rfl rfl rfl (z := .agg #[.string ⟨#[]⟩, .slice none 0 0, .bool false, .string ⟨#[]⟩, .string ⟨#[]⟩, .bool false, .string ⟨#[]⟩, .string ⟨#[]⟩, .bool false, .bool false, .string ⟨#[]⟩, .string ⟨#[]⟩]) (by kernel_rfl) rfl ?_
          intro be _ _ hbe
          refine nZ ?_
          refine sV (n := 12) HO.out ?_ (hn' := HF.out)
          refine Seq.done fun w2 hws => ?_
          have HS2 : Hid (St w ((b6, 62, #[.slice none 0 0, V0, v, .slice none 0 0, .slice none 0 0]) :: (lr ++ ((be, 54, F) :: rl1))) w2) := Lib.hid ((hws.q1 (p := be)).perm (perm_up _ _ _ _))
          clear hws HSR
          obtain ⟨R, hRS, hRb, hRow⟩ := row_in HS2.out HRW.out
          have HRS := Lib.hid hRS; have HRB := Lib.hid hRb; have HROW := Lib.hid hRow
          clear hRS hRb hRow HS2
          go_upto_region 10 with (fail)
          refine wp_seq_text [2, 3000000] HRS.out ?_
          refine pU ?_
          refine Seq.getCell rfl rfl rfl rfl HRB.out (v := v) rfl (by kernel_rfl) (rowS_one HRW.out) (nZ ?_)
          refine pU ?_
          refine Seq.loadCell rfl rfl rfl rfl List.mem_cons_self (v := .string x) H0.out (by kernel_rfl) rfl (nZ ?_)
          refine Seq.slice (n := 1) (e := 9) (cs := #[.string x]) rfl rfl (fun w => slcS_1 rfl rfl w) ?_
          intro g1 _ _ hg1
          refine nZ ?_
          refine Seq.appendS (b := b6) (n := i) (xs := k.L2.take i) (y := x) rfl rfl rfl Tryd.underlying61 infoS rfl (HROW.out.put hg1) HTL.out rfl Reg.puE (by rw [Reg.puN HRB.out hg1]; exact fun e => by cases e) (by omega) ?_
          intro g' cap' J' R' hle hcm hlen hR' hRb' hne'
          refine nZ ?_
          refine pU ?_
          refine Seq.storeAt (v := .slice (some ⟨g', 0, none⟩) (i + 1) cap') rfl rfl rfl rfl rfl (hRb'.trans (Reg.puN HRB.out hg1)) (Nat.le_of_ble_eq_true rfl) (by kernel_rfl) (fun u hu => by simp [Value.cells] at hu; subst hu; rfl) (cs' := #[.slice none 0 0, V0, .slice (some ⟨g', 0, none⟩) (i + 1) cap', .slice none 0 0, .slice none 0 0]) rfl (nZ ?_)
          refine Seq.done fun w3 hws => ?_
          have HRW2 : Hid (RowS (.slice (some ⟨g', 0, none⟩) (i + 1) cap') (k.L2.take (i + 1)) [(g', 9, SX J' (k.L2.take (i + 1)))]) := Lib.hid (by
            have e := take_more HX.out
            have l1 : (k.L2.take (i + 1)).length = i + 1 := by rw [e, List.length_append, HTL.out]; rfl
            refine .inr ⟨g', cap', J', by rw [l1], rfl, by omega, by rw [l1]; exact hle, hcm, ?_⟩
            rw [e]; exact hlen)
          have HS3 : Hid (St w ((b6, 62, #[.slice none 0 0, V0, .slice (some ⟨g', 0, none⟩) (i + 1) cap', .slice none 0 0, .slice none 0 0]) :: ([(g', 9, SX J' (k.L2.take (i + 1)))] ++ rl1)) w3) := Lib.hid (by
            have h9 := hws.list2 Reg.puE (show (Reg.put R' b6 _) g' = _ by unfold Reg.put; rw [if_neg (fun e => hne' e.symm)]; exact hR') hne'
            rw [take_more HX.out]
            exact h9.sub (.cons_cons _ (.cons_cons _ (.cons _ (.refl _)))))
          clear hws hle hcm hlen hR' hRb' hne' hg1
          go_wp2_with fail
          go_roundg (n2 - (i + 1))
          case measure => rw [HGK.out]; omega
          case rel => exact ⟨i + 1, _, _, rfl, by go_num, by omega, HRW2, HS3⟩
        · obtain rfl : n2 = i := by omega
          have hrow : RowS v k.L2 lr := by have h9 := HRW.out; rw [List.take_of_length_le (by rw [HK.out.e2.1]; exact Nat.le_refl _)] at h9; exact h9
          obtain ⟨B2, d2, hv, hat⟩ := hrow.at_
          rw [HK.out.e2.1] at hv
          have HAT2 := Lib.hid hat
          obtain ⟨rl2, hrl⟩ : ∃ rl2, lr ++ rl1 = rl2 := ⟨_, rfl⟩
          obtain ⟨V2, hV⟩ : ∃ V2, v = V2 := ⟨_, rfl⟩
          have HV2 : Hid (V2 = .slice B2 n2 d2) := Lib.hid (hV ▸ hv)
          have HSUB2 : Hid (∀ e ∈ lr, e ∈ rl2) := Lib.hid (fun e he => hrl ▸ List.mem_append_left _ he)
          have HUP2 : Hid (∀ e ∈ rl1, e ∈ rl2) := Lib.hid (fun e he => hrl ▸ List.mem_append_right _ he)
          have HM := Lib.hid (HUP2.out _ HM.out)
          have HS : Hid (St w ((b6, 62, #[.slice none 0 0, V0, V2, .slice none 0 0, .slice none 0 0]) :: rl2) wr) := Lib.hid (by have h9 := HSR.out; rw [hrl, hV] at h9; exact h9)
          clear HSR HRW HGK hrow hv hat hrl hV
          go_upto_region 12 with (fail)
          refine rgT [] HS.out ?_
          refine pU ?_
          refine Seq.loadCell (T := 30) (cs := wkC k n0 n2 n3 n4) rfl rfl rfl rfl (List.mem_cons_of_mem _ HM.out) (v := .slice k.A3 n3 k.c3) rfl (by kernel_rfl) rfl (nZ ?_)
          iterate 2 refine pU ?_
          refine Seq.done fun w1 hws => ?_
          have HS1 := Lib.hid hws.st
          clear hws HS
          go_wp2_with fail
          go_loopg [50] n3 (fun kx s50 wr => ∃ (i : Nat) (v : Value) (lr : List Own), kx = n3 - i ∧ s50 = .int .i64 (i : Int) ∧ i ≤ n3 ∧ Hid (RowS v (k.L3.take i) lr) ∧ Hid (St w ((b6, 62, #[.slice none 0 0, V0, V2, v, .slice none 0 0]) :: (lr ++ rl2)) wr))
          case atStart => exact ⟨0, .slice none 0 0, [], rfl, rfl, Nat.zero_le _, Lib.hid (.inl ⟨rfl, rfl, rfl⟩), HS1⟩
          case round =>
            clear HS1
            obtain ⟨i, v, lr, hgk, rfl, hile, HRW, HSR⟩ := hrel
            have HGK := Lib.hid hgk; clear hgk
            by_cases hin : i < n3
            · have hi2 : n3 ≤ 524288 := HK.out.e3.2
              have hwi : IntKind.i64.wrap ((i : Int) + 1) = (i : Int) + 1 := IntWalk.i64_in _ (by omega)
              have hil : i < k.L3.length := by rw [HK.out.e3.1]; exact hin
              obtain ⟨x, hx⟩ : ∃ x, k.L3[i]? = some x := ⟨_, List.getElem?_eq_getElem hil⟩
              obtain ⟨g, f, hA, hg, hF, hO, h0, hc⟩ := HK.out.h3 i x hx
              obtain ⟨F, hFF⟩ : ∃ F, (k.F3 i).toArray = F := ⟨_, rfl⟩
              have HIX : Hid (∀ w, (Instr.indexAt 25 (.slice k.A3 n3 k.c3) (.int .i64 (i : Int))).run Tryd.prog w = .ok (.pointer (some ⟨g, f + i * 14, none⟩)) w) := Lib.hid (fun w => by rw [hA]; exact run_indexT (by kernel_rfl) hin w)
              have HLD : Hid (∀ w', Below w.heap.size w w' → (loadVar 56 ⟨g, f + i * 14, none⟩).run Tryd.prog w' = .ok (.agg F) w') := Lib.hid (hFF ▸ fun w' hb => ld_sin hg hF hc hb (by kernel_rfl))
              have HF : Hid (F.size = 14) := Lib.hid (by rw [← hFF]; exact hF)
              have HO : Hid (∀ u ∈ F, u.oneCell' = true) := Lib.hid (by rw [← hFF]; exact fun u hu => hO u (by simpa using hu))
              have H0 : Hid (F[0]? = some (.string x)) := Lib.hid (by rw [← hFF]; simpa using h0)
              have HX := Lib.hid hx
              clear hx hA hg hF hO h0 hc hFF hil
              have HTL : Hid ((k.L3.take i).length = i) := Lib.hid (by rw [List.length_take, HK.out.e3.1]; omega)
              go_upto_region 14 with (fail)
              refine rgT [] HSR.out ?_
              refine Seq.indexT rfl rfl rfl rfl rfl HIX.out (nZ ?_)
              refine Seq.loadT rfl rfl rfl rfl HLD.out (nZ ?_)
              refine Seq.alloc rfl rfl rfl (z := .agg #[.string ⟨#[]⟩, .bool false, .string ⟨#[]⟩, .string ⟨#[]⟩, .bool false, .string ⟨#[]⟩, .string ⟨#[]⟩, .bool false, .bool false, .string ⟨#[]⟩, .string ⟨#[]⟩, .bool false, .string ⟨#[]⟩, .string ⟨#[]⟩]) (by kernel_rfl) rfl ?_
              intro be _ _ hbe
              refine nZ ?_
              refine sV (n := 14) HO.out ?_ (hn' := HF.out)
              refine Seq.done fun w2 hws => ?_
              have HS2 : Hid (St w ((b6, 62, #[.slice none 0 0, V0, V2, v, .slice none 0 0]) :: (lr ++ ((be, 56, F) :: rl2))) w2) := Lib.hid ((hws.q1 (p := be)).perm (perm_up _ _ _ _))
              clear hws HSR
              obtain ⟨R, hRS, hRb, hRow⟩ := row_in HS2.out HRW.out
              have HRS := Lib.hid hRS; have HRB := Lib.hid hRb; have HROW := Lib.hid hRow
              clear hRS hRb hRow HS2
              go_upto_region 15 with (fail)
              refine wp_seq_text [2, 3000000] HRS.out ?_
              refine pU ?_
              refine Seq.getCell rfl rfl rfl rfl HRB.out (v := v) rfl (by kernel_rfl) (rowS_one HRW.out) (nZ ?_)
              refine pU ?_
              refine Seq.loadCell rfl rfl rfl rfl List.mem_cons_self (v := .string x) H0.out (by kernel_rfl) rfl (nZ ?_)
              refine Seq.slice (n := 1) (e := 9) (cs := #[.string x]) rfl rfl (fun w => slcS_1 rfl rfl w) ?_
              intro g1 _ _ hg1
              refine nZ ?_
              refine Seq.appendS (b := b6) (n := i) (xs := k.L3.take i) (y := x) rfl rfl rfl Tryd.underlying61 infoS rfl (HROW.out.put hg1) HTL.out rfl Reg.puE (by rw [Reg.puN HRB.out hg1]; exact fun e => by cases e) (by omega) ?_
              intro g' cap' J' R' hle hcm hlen hR' hRb' hne'
              refine nZ ?_
              refine pU ?_
              refine Seq.storeAt (v := .slice (some ⟨g', 0, none⟩) (i + 1) cap') rfl rfl rfl rfl rfl (hRb'.trans (Reg.puN HRB.out hg1)) (Nat.le_of_ble_eq_true rfl) (by kernel_rfl) (fun u hu => by simp [Value.cells] at hu; subst hu; rfl) (cs' := #[.slice none 0 0, V0, V2, .slice (some ⟨g', 0, none⟩) (i + 1) cap', .slice none 0 0]) rfl (nZ ?_)
              refine Seq.done fun w3 hws => ?_
              have HRW2 : Hid (RowS (.slice (some ⟨g', 0, none⟩) (i + 1) cap') (k.L3.take (i + 1)) [(g', 9, SX J' (k.L3.take (i + 1)))]) := Lib.hid (by
                have e := take_more HX.out
                have l1 : (k.L3.take (i + 1)).length = i + 1 := by rw [e, List.length_append, HTL.out]; rfl
                refine .inr ⟨g', cap', J', by rw [l1], rfl, by omega, by rw [l1]; exact hle, hcm, ?_⟩
                rw [e]; exact hlen)
              have HS3 : Hid (St w ((b6, 62, #[.slice none 0 0, V0, V2, .slice (some ⟨g', 0, none⟩) (i + 1) cap', .slice none 0 0]) :: ([(g', 9, SX J' (k.L3.take (i + 1)))] ++ rl2)) w3) := Lib.hid (by
                have h9 := hws.list2 Reg.puE (show (Reg.put R' b6 _) g' = _ by unfold Reg.put; rw [if_neg (fun e => hne' e.symm)]; exact hR') hne'
                rw [take_more HX.out]
                exact h9.sub (.cons_cons _ (.cons_cons _ (.cons _ (.refl _)))))
              clear hws hle hcm hlen hR' hRb' hne' hg1
              go_wp2_with fail
              go_roundg (n3 - (i + 1))
              case measure => rw [HGK.out]; omega
              case rel => exact ⟨i + 1, _, _, rfl, by go_num, by omega, HRW2, HS3⟩
            · obtain rfl : n3 = i := by omega
              have hrow : RowS v k.L3 lr := by have h9 := HRW.out; rw [List.take_of_length_le (by rw [HK.out.e3.1]; exact Nat.le_refl _)] at h9; exact h9
              obtain ⟨B3, d3, hv, hat⟩ := hrow.at_
              rw [HK.out.e3.1] at hv
              have HAT3 := Lib.hid hat
              obtain ⟨rl3, hrl⟩ : ∃ rl3, lr ++ rl2 = rl3 := ⟨_, rfl⟩
              obtain ⟨V3, hV⟩ : ∃ V3, v = V3 := ⟨_, rfl⟩
              have HV3 : Hid (V3 = .slice B3 n3 d3) := Lib.hid (hV ▸ hv)
              have HSUB3 : Hid (∀ e ∈ lr, e ∈ rl3) := Lib.hid (fun e he => hrl ▸ List.mem_append_left _ he)
              have HUP3 : Hid (∀ e ∈ rl2, e ∈ rl3) := Lib.hid (fun e he => hrl ▸ List.mem_append_right _ he)
              have HM := Lib.hid (HUP3.out _ HM.out)
              have HS : Hid (St w ((b6, 62, #[.slice none 0 0, V0, V2, V3, .slice none 0 0]) :: rl3) wr) := Lib.hid (by have h9 := HSR.out; rw [hrl, hV] at h9; exact h9)
              clear HSR HRW HGK hrow hv hat hrl hV
              go_upto_region 17 with (fail)
              refine rgT [] HS.out ?_
              refine pU ?_
              refine Seq.loadCell (T := 30) (cs := wkC k n0 n2 n3 n4) rfl rfl rfl rfl (List.mem_cons_of_mem _ HM.out) (v := .slice k.A4 n4 k.c4) rfl (by kernel_rfl) rfl (nZ ?_)
              iterate 2 refine pU ?_
              refine Seq.done fun w1 hws => ?_
              have HS1 := Lib.hid hws.st
              clear hws HS
              go_wp2_with fail
              go_loopg [65] n4 (fun kx s65 wr => ∃ (i : Nat) (v : Value) (lr : List Own), kx = n4 - i ∧ s65 = .int .i64 (i : Int) ∧ i ≤ n4 ∧ Hid (RowS v (k.L4.take i) lr) ∧ Hid (St w ((b6, 62, #[.slice none 0 0, V0, V2, V3, v]) :: (lr ++ rl3)) wr))
              case atStart => exact ⟨0, .slice none 0 0, [], rfl, rfl, Nat.zero_le _, Lib.hid (.inl ⟨rfl, rfl, rfl⟩), HS1⟩
              case round =>
                clear HS1
                obtain ⟨i, v, lr, hgk, rfl, hile, HRW, HSR⟩ := hrel
                have HGK := Lib.hid hgk; clear hgk
                by_cases hin : i < n4
                · have hi2 : n4 ≤ 524288 := HK.out.e4.2
                  have hwi : IntKind.i64.wrap ((i : Int) + 1) = (i : Int) + 1 := IntWalk.i64_in _ (by omega)
                  have hil : i < k.L4.length := by rw [HK.out.e4.1]; exact hin
                  obtain ⟨x, hx⟩ : ∃ x, k.L4[i]? = some x := ⟨_, List.getElem?_eq_getElem hil⟩
                  obtain ⟨g, f, hA, hg, hF, hO, h0, hc⟩ := HK.out.h4 i x hx
                  obtain ⟨F, hFF⟩ : ∃ F, (k.F4 i).toArray = F := ⟨_, rfl⟩
                  have HIX : Hid (∀ w, (Instr.indexAt 26 (.slice k.A4 n4 k.c4) (.int .i64 (i : Int))).run Tryd.prog w = .ok (.pointer (some ⟨g, f + i * 13, none⟩)) w) := Lib.hid (fun w => by rw [hA]; exact run_indexT (by kernel_rfl) hin w)
                  have HLD : Hid (∀ w', Below w.heap.size w w' → (loadVar 60 ⟨g, f + i * 13, none⟩).run Tryd.prog w' = .ok (.agg F) w') := Lib.hid (hFF ▸ fun w' hb => ld_sin hg hF hc hb (by kernel_rfl))
                  have HF : Hid (F.size = 13) := Lib.hid (by rw [← hFF]; exact hF)
                  have HO : Hid (∀ u ∈ F, u.oneCell' = true) := Lib.hid (by rw [← hFF]; exact fun u hu => hO u (by simpa using hu))
                  have H0 : Hid (F[0]? = some (.string x)) := Lib.hid (by rw [← hFF]; simpa using h0)
                  have HX := Lib.hid hx
                  clear hx hA hg hF hO h0 hc hFF hil
                  have HTL : Hid ((k.L4.take i).length = i) := Lib.hid (by rw [List.length_take, HK.out.e4.1]; omega)
                  go_upto_region 19 with (fail)
                  refine rgT [] HSR.out ?_
                  refine Seq.indexT rfl rfl rfl rfl rfl HIX.out (nZ ?_)
                  refine Seq.loadT rfl rfl rfl rfl HLD.out (nZ ?_)
                  refine Seq.alloc rfl rfl rfl (z := .agg #[.string ⟨#[]⟩, .bool false, .string ⟨#[]⟩, .string ⟨#[]⟩, .bool false, .string ⟨#[]⟩, .string ⟨#[]⟩, .bool false, .string ⟨#[]⟩, .string ⟨#[]⟩, .bool false, .string ⟨#[]⟩, .string ⟨#[]⟩]) (by kernel_rfl) rfl ?_
                  intro be _ _ hbe
                  refine nZ ?_
                  refine sV (n := 13) HO.out ?_ (hn' := HF.out)
                  refine Seq.done fun w2 hws => ?_
                  have HS2 : Hid (St w ((b6, 62, #[.slice none 0 0, V0, V2, V3, v]) :: (lr ++ ((be, 60, F) :: rl3))) w2) := Lib.hid ((hws.q1 (p := be)).perm (perm_up _ _ _ _))
                  clear hws HSR
                  obtain ⟨R, hRS, hRb, hRow⟩ := row_in HS2.out HRW.out
                  have HRS := Lib.hid hRS; have HRB := Lib.hid hRb; have HROW := Lib.hid hRow
                  clear hRS hRb hRow HS2
                  go_upto_region 20 with (fail)
                  refine wp_seq_text [2, 3000000] HRS.out ?_
                  refine pU ?_
                  refine Seq.getCell rfl rfl rfl rfl HRB.out (v := v) rfl (by kernel_rfl) (rowS_one HRW.out) (nZ ?_)
                  refine pU ?_
                  refine Seq.loadCell rfl rfl rfl rfl List.mem_cons_self (v := .string x) H0.out (by kernel_rfl) rfl (nZ ?_)
                  refine Seq.slice (n := 1) (e := 9) (cs := #[.string x]) rfl rfl (fun w => slcS_1 rfl rfl w) ?_
                  intro g1 _ _ hg1
                  refine nZ ?_
                  refine Seq.appendS (b := b6) (n := i) (xs := k.L4.take i) (y := x) rfl rfl rfl Tryd.underlying61 infoS rfl (HROW.out.put hg1) HTL.out rfl Reg.puE (by rw [Reg.puN HRB.out hg1]; exact fun e => by cases e) (by omega) ?_
                  intro g' cap' J' R' hle hcm hlen hR' hRb' hne'
                  refine nZ ?_
                  refine pU ?_
                  refine Seq.storeAt (v := .slice (some ⟨g', 0, none⟩) (i + 1) cap') rfl rfl rfl rfl rfl (hRb'.trans (Reg.puN HRB.out hg1)) (Nat.le_of_ble_eq_true rfl) (by kernel_rfl) (fun u hu => by simp [Value.cells] at hu; subst hu; rfl) (cs' := #[.slice none 0 0, V0, V2, V3, .slice (some ⟨g', 0, none⟩) (i + 1) cap']) rfl (nZ ?_)
                  refine Seq.done fun w3 hws => ?_
                  have HRW2 : Hid (RowS (.slice (some ⟨g', 0, none⟩) (i + 1) cap') (k.L4.take (i + 1)) [(g', 9, SX J' (k.L4.take (i + 1)))]) := Lib.hid (by
                    have e := take_more HX.out
                    have l1 : (k.L4.take (i + 1)).length = i + 1 := by rw [e, List.length_append, HTL.out]; rfl
                    refine .inr ⟨g', cap', J', by rw [l1], rfl, by omega, by rw [l1]; exact hle, hcm, ?_⟩
                    rw [e]; exact hlen)
                  have HS3 : Hid (St w ((b6, 62, #[.slice none 0 0, V0, V2, V3, .slice (some ⟨g', 0, none⟩) (i + 1) cap']) :: ([(g', 9, SX J' (k.L4.take (i + 1)))] ++ rl3)) w3) := Lib.hid (by
                    have h9 := hws.list2 Reg.puE (show (Reg.put R' b6 _) g' = _ by unfold Reg.put; rw [if_neg (fun e => hne' e.symm)]; exact hR') hne'
                    rw [take_more HX.out]
                    exact h9.sub (.cons_cons _ (.cons_cons _ (.cons _ (.refl _)))))
                  clear hws hle hcm hlen hR' hRb' hne' hg1
                  go_wp2_with fail
                  go_roundg (n4 - (i + 1))
                  case measure => rw [HGK.out]; omega
                  case rel => exact ⟨i + 1, _, _, rfl, by go_num, by omega, HRW2, HS3⟩
                · obtain rfl : n4 = i := by omega
                  have hrow : RowS v k.L4 lr := by have h9 := HRW.out; rw [List.take_of_length_le (by rw [HK.out.e4.1]; exact Nat.le_refl _)] at h9; exact h9
                  obtain ⟨B4, d4, hv, hat⟩ := hrow.at_
                  rw [HK.out.e4.1] at hv
                  have HAT4 := Lib.hid hat
                  obtain ⟨rl4, hrl⟩ : ∃ rl4, lr ++ rl3 = rl4 := ⟨_, rfl⟩
                  obtain ⟨V4, hV⟩ : ∃ V4, v = V4 := ⟨_, rfl⟩
                  have HV4 : Hid (V4 = .slice B4 n4 d4) := Lib.hid (hV ▸ hv)
                  have HSUB4 : Hid (∀ e ∈ lr, e ∈ rl4) := Lib.hid (fun e he => hrl ▸ List.mem_append_left _ he)
                  have HUP4 : Hid (∀ e ∈ rl3, e ∈ rl4) := Lib.hid (fun e he => hrl ▸ List.mem_append_right _ he)
                  have HM := Lib.hid (HUP4.out _ HM.out)
                  have HS : Hid (St w ((b6, 62, #[.slice none 0 0, V0, V2, V3, V4]) :: rl4) wr) := Lib.hid (by have h9 := HSR.out; rw [hrl, hV] at h9; exact h9)
                  clear HSR HRW HGK hrow hv hat hrl hV
                  have HL0 : Hid (∀ w', St w ((b6, 62, #[.slice none 0 0, V0, V2, V3, V4]) :: rl4) w' → StrsAt w' w'.heap.size B0 k.L0) := Lib.hid (fun w' h9 => HAT0.out w _ w' h9 fun e he => List.mem_cons_of_mem _ (HUP4.out _ (HUP3.out _ (HUP2.out _ (HSUB0.out e he)))))
                  have HL2 : Hid (∀ w', St w ((b6, 62, #[.slice none 0 0, V0, V2, V3, V4]) :: rl4) w' → StrsAt w' w'.heap.size B2 k.L2) := Lib.hid (fun w' h9 => HAT2.out w _ w' h9 fun e he => List.mem_cons_of_mem _ (HUP4.out _ (HUP3.out _ (HSUB2.out e he))))
                  have HL3 : Hid (∀ w', St w ((b6, 62, #[.slice none 0 0, V0, V2, V3, V4]) :: rl4) w' → StrsAt w' w'.heap.size B3 k.L3) := Lib.hid (fun w' h9 => HAT3.out w _ w' h9 fun e he => List.mem_cons_of_mem _ (HUP4.out _ (HSUB3.out e he)))
                  have HL4 : Hid (∀ w', St w ((b6, 62, #[.slice none 0 0, V0, V2, V3, V4]) :: rl4) w' → StrsAt w' w'.heap.size B4 k.L4) := Lib.hid (fun w' h9 => HAT4.out w _ w' h9 fun e he => List.mem_cons_of_mem _ (HSUB4.out e he))
                  clear HAT0 HSUB0 HUP0 HAT2 HSUB2 HUP2 HAT3 HSUB3 HUP3 HAT4 HSUB4 HUP4
                  have hV := HV0.out
                  subst hV
                  clear HV0
                  have hV := HV2.out
                  subst hV
                  clear HV2
                  have hV := HV3.out
                  subst hV
                  clear HV3
                  have hV := HV4.out
                  subst hV
                  clear HV4
                  go_upto_region 22 with (fail)
                  refine rgT [] HS.out ?_
                  refine pU ?_
                  refine Seq.done fun w1 hws => ?_
                  have HS1 := Lib.hid hws.st
                  clear hws HS
                  go_wp2_with fail
                  go_loopg [15] 4 (fun kx s15 wr => ∃ i : Nat, kx = 4 - i ∧ s15 = .int .i64 ((i : Int) + 1) ∧ i ≤ 4 ∧ Hid ((0 < i → ixS s k.L0 = -1) ∧ (1 < i → ixS s k.L2 = -1) ∧ (2 < i → ixS s k.L3 = -1) ∧ (3 < i → ixS s k.L4 = -1)) ∧ Hid (St w ((b6, 62, #[.slice none 0 0, .slice B0 n0 d0, .slice B2 n2 d2, .slice B3 n3 d3, .slice B4 n4 d4]) :: rl4) wr))
                  case atStart => exact ⟨0, rfl, rfl, Nat.zero_le _, Lib.hid ⟨by omega, by omega, by omega, by omega⟩, HS1⟩
                  case round =>
                    clear HS1
                    obtain ⟨i, hgk, rfl, hile, HNO, HSR⟩ := hrel
                    have HGK := Lib.hid hgk; clear hgk
                    rcases (show i = 0 ∨ i = 1 ∨ i = 2 ∨ i = 3 ∨ i = 4 by omega) with rfl | rfl | rfl | rfl | rfl
                    · obtain ⟨iv, hiv⟩ : ∃ iv, ixS s k.L0 = iv := ⟨_, rfl⟩
                      have hlo : -1 ≤ iv := hiv ▸ ixS_lo _ _
                      have HIV := Lib.hid hiv
                      clear hiv
                      go_upto_region 25 with (fail)
                      refine rgT [] HSR.out ?_
                      iterate 2 refine pU ?_
                      refine Seq.loadCell rfl rfl rfl rfl List.mem_cons_self (v := .slice B0 n0 d0) rfl (by kernel_rfl) rfl (nZ ?_)
                      refine pU ?_
                      refine cX rfl rfl (fun w' h' => by
                        have h9 := ixS_walk k.L0 B0 n0 d0 s w' HK.out.e0.1.symm (by have := HK.out.e0.2; omega) (HL0.out w' h')
                        rw [HIV.out] at h9
                        exact h9.mono fun e w2 h2 => ⟨h2.1, by rw [h2.2]; exact Below.refl _ _⟩) ?_
                      refine pU ?_
                      refine Seq.done fun w2 hws => ?_
                      have HS2 := Lib.hid hws.st
                      clear hws HSR
                      by_cases hf : 0 ≤ iv
                      · have hd : decide (0 ≤ iv) = true := decide_eq_true hf
                        have HV : Hid (r = (1, iv)) := Lib.hid (by
                          rw [← HR.out]
                          unfold findR
                          rw [if_pos (show 0 ≤ ixS s k.L0 by rw [HIV.out]; exact hf), HIV.out])
                        clear hf
                        go_wp2_with fail
                        go_ret2
                        exact ⟨by rw [HV.out]; rfl, HS2.out.below⟩
                      · have hd : decide (0 ≤ iv) = false := decide_eq_false hf
                        have HI : Hid (ixS s k.L0 = -1) := Lib.hid (by rw [HIV.out]; omega)
                        clear hf
                        go_wp2_with fail
                        go_roundg 3
                        case measure => rw [HGK.out]; omega
                        case rel => exact ⟨1, rfl, by go_num, by omega, Lib.hid ⟨fun _ => HI.out, by omega, by omega, by omega⟩, HS2⟩
                    · obtain ⟨iv, hiv⟩ : ∃ iv, ixS s k.L2 = iv := ⟨_, rfl⟩
                      have hlo : -1 ≤ iv := hiv ▸ ixS_lo _ _
                      have HIV := Lib.hid hiv
                      clear hiv
                      go_upto_region 25 with (fail)
                      refine rgT [] HSR.out ?_
                      iterate 2 refine pU ?_
                      refine Seq.loadCell rfl rfl rfl rfl List.mem_cons_self (v := .slice B2 n2 d2) rfl (by kernel_rfl) rfl (nZ ?_)
                      refine pU ?_
                      refine cX rfl rfl (fun w' h' => by
                        have h9 := ixS_walk k.L2 B2 n2 d2 s w' HK.out.e2.1.symm (by have := HK.out.e2.2; omega) (HL2.out w' h')
                        rw [HIV.out] at h9
                        exact h9.mono fun e w2 h2 => ⟨h2.1, by rw [h2.2]; exact Below.refl _ _⟩) ?_
                      refine pU ?_
                      refine Seq.done fun w2 hws => ?_
                      have HS2 := Lib.hid hws.st
                      clear hws HSR
                      by_cases hf : 0 ≤ iv
                      · have hd : decide (0 ≤ iv) = true := decide_eq_true hf
                        have HV : Hid (r = (2, iv)) := Lib.hid (by
                          rw [← HR.out]
                          unfold findR
                          rw [if_neg (show ¬ 0 ≤ ixS s k.L0 by rw [HNO.out.1 (by omega)]; decide), if_pos (show 0 ≤ ixS s k.L2 by rw [HIV.out]; exact hf), HIV.out])
                        clear hf
                        go_wp2_with fail
                        go_ret2
                        exact ⟨by rw [HV.out]; rfl, HS2.out.below⟩
                      · have hd : decide (0 ≤ iv) = false := decide_eq_false hf
                        have HI : Hid (ixS s k.L2 = -1) := Lib.hid (by rw [HIV.out]; omega)
                        clear hf
                        go_wp2_with fail
                        go_roundg 2
                        case measure => rw [HGK.out]; omega
                        case rel => exact ⟨2, rfl, by go_num, by omega, Lib.hid ⟨fun _ => HNO.out.1 (by omega), fun _ => HI.out, by omega, by omega⟩, HS2⟩
                    · obtain ⟨iv, hiv⟩ : ∃ iv, ixS s k.L3 = iv := ⟨_, rfl⟩
                      have hlo : -1 ≤ iv := hiv ▸ ixS_lo _ _
                      have HIV := Lib.hid hiv
                      clear hiv
                      go_upto_region 25 with (fail)
                      refine rgT [] HSR.out ?_
                      iterate 2 refine pU ?_
                      refine Seq.loadCell rfl rfl rfl rfl List.mem_cons_self (v := .slice B3 n3 d3) rfl (by kernel_rfl) rfl (nZ ?_)
                      refine pU ?_
                      refine cX rfl rfl (fun w' h' => by
                        have h9 := ixS_walk k.L3 B3 n3 d3 s w' HK.out.e3.1.symm (by have := HK.out.e3.2; omega) (HL3.out w' h')
                        rw [HIV.out] at h9
                        exact h9.mono fun e w2 h2 => ⟨h2.1, by rw [h2.2]; exact Below.refl _ _⟩) ?_
                      refine pU ?_
                      refine Seq.done fun w2 hws => ?_
                      have HS2 := Lib.hid hws.st
                      clear hws HSR
                      by_cases hf : 0 ≤ iv
                      · have hd : decide (0 ≤ iv) = true := decide_eq_true hf
                        have HV : Hid (r = (3, iv)) := Lib.hid (by
                          rw [← HR.out]
                          unfold findR
                          rw [if_neg (show ¬ 0 ≤ ixS s k.L0 by rw [HNO.out.1 (by omega)]; decide), if_neg (show ¬ 0 ≤ ixS s k.L2 by rw [HNO.out.2.1 (by omega)]; decide), if_pos (show 0 ≤ ixS s k.L3 by rw [HIV.out]; exact hf), HIV.out])
                        clear hf
                        go_wp2_with fail
                        go_ret2
                        exact ⟨by rw [HV.out]; rfl, HS2.out.below⟩
                      · have hd : decide (0 ≤ iv) = false := decide_eq_false hf
                        have HI : Hid (ixS s k.L3 = -1) := Lib.hid (by rw [HIV.out]; omega)
                        clear hf
                        go_wp2_with fail
                        go_roundg 1
                        case measure => rw [HGK.out]; omega
                        case rel => exact ⟨3, rfl, by go_num, by omega, Lib.hid ⟨fun _ => HNO.out.1 (by omega), fun _ => HNO.out.2.1 (by omega), fun _ => HI.out, by omega⟩, HS2⟩
                    · obtain ⟨iv, hiv⟩ : ∃ iv, ixS s k.L4 = iv := ⟨_, rfl⟩
                      have hlo : -1 ≤ iv := hiv ▸ ixS_lo _ _
                      have HIV := Lib.hid hiv
                      clear hiv
                      go_upto_region 25 with (fail)
                      refine rgT [] HSR.out ?_
                      iterate 2 refine pU ?_
                      refine Seq.loadCell rfl rfl rfl rfl List.mem_cons_self (v := .slice B4 n4 d4) rfl (by kernel_rfl) rfl (nZ ?_)
                      refine pU ?_
                      refine cX rfl rfl (fun w' h' => by
                        have h9 := ixS_walk k.L4 B4 n4 d4 s w' HK.out.e4.1.symm (by have := HK.out.e4.2; omega) (HL4.out w' h')
                        rw [HIV.out] at h9
                        exact h9.mono fun e w2 h2 => ⟨h2.1, by rw [h2.2]; exact Below.refl _ _⟩) ?_
                      refine pU ?_
                      refine Seq.done fun w2 hws => ?_
                      have HS2 := Lib.hid hws.st
                      clear hws HSR
                      by_cases hf : 0 ≤ iv
                      · have hd : decide (0 ≤ iv) = true := decide_eq_true hf
                        have HV : Hid (r = (4, iv)) := Lib.hid (by
                          rw [← HR.out]
                          unfold findR
                          rw [if_neg (show ¬ 0 ≤ ixS s k.L0 by rw [HNO.out.1 (by omega)]; decide), if_neg (show ¬ 0 ≤ ixS s k.L2 by rw [HNO.out.2.1 (by omega)]; decide), if_neg (show ¬ 0 ≤ ixS s k.L3 by rw [HNO.out.2.2.1 (by omega)]; decide), if_pos (show 0 ≤ ixS s k.L4 by rw [HIV.out]; exact hf), HIV.out])
                        clear hf
                        go_wp2_with fail
                        go_ret2
                        exact ⟨by rw [HV.out]; rfl, HS2.out.below⟩
                      · have hd : decide (0 ≤ iv) = false := decide_eq_false hf
                        have HI : Hid (ixS s k.L4 = -1) := Lib.hid (by rw [HIV.out]; omega)
                        clear hf
                        go_wp2_with fail
                        go_roundg 0
                        case measure => rw [HGK.out]; omega
                        case rel => exact ⟨4, rfl, by go_num, by omega, Lib.hid ⟨fun _ => HNO.out.1 (by omega), fun _ => HNO.out.2.1 (by omega), fun _ => HNO.out.2.2.1 (by omega), fun _ => HI.out⟩, HS2⟩
                    · have HV : Hid (r = (0, -1)) := Lib.hid (by
                        rw [← HR.out]
                        unfold findR
                        rw [if_neg (show ¬ 0 ≤ ixS s k.L0 by rw [HNO.out.1 (by omega)]; decide), if_neg (show ¬ 0 ≤ ixS s k.L2 by rw [HNO.out.2.1 (by omega)]; decide), if_neg (show ¬ 0 ≤ ixS s k.L3 by rw [HNO.out.2.2.1 (by omega)]; decide), if_neg (show ¬ 0 ≤ ixS s k.L4 by rw [HNO.out.2.2.2 (by omega)]; decide)])
                      go_wp2_with fail
                      go_ret2
                      exact ⟨by rw [HV.out]; rfl, HSR.out.below⟩
end Go.Proofs.YtekbpiooecdopaaDoor
