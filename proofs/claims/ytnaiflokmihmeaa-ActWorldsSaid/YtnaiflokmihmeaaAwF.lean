/- Steps of the law ActWorlds. -/
import Derived.Test.YtnaiflokmihmeaaAwE
import Derived.Test.YtnaiflokmihmeaaMgD
import Derived.Great.BuildSlice
namespace Go.Proofs.Ytnaiflokmihmeaa
open Go.RowKit
set_option linter.unusedVariables false
set_option linter.unusedSimpArgs false

set_option maxHeartbeats 1000000 in
theorem whr_big (d : Wd) (r : Raw) (a : Int) (w : World) (h : WOk w r d) (hs : r.n1 ≤ 20000000000000) : Calls Try.prog 52 #[wv d.sl r, .int .i64 a] w fun e w' => e = .returned (.int .i64 (whr d a)) ∧ Below w.heap.size w w' := by
  have HB := Lib.hid (wboxed w d.sl r)
  have HI := Lib.hid h.i1
  have H1 := Lib.hid h.h1
  clear h
  obtain ⟨A1, n1, c1, A2, n2, c2, A3, n3, c3⟩ := r
  dsimp only at hs
  by_cases h0 : a < 0
  · have HV := Lib.hid (whr_no (d := d) (a := a) (.inl h0))
    unfold wv wcs
    unfold wcs at HB
    dsimp only at HB HI H1 ⊢
    generalize d.sl = sl at *
    go_enter Try.func52, Try.ntmps52
    go_wp2_with fail
    go_ret
    exact ⟨ret_int HV.out.symm, HB.out.1⟩
  · by_cases h1 : (n1 : Int) ≤ a
    · have HV := Lib.hid (whr_no (d := d) (a := a) (.inr (by rw [← H1.out]; exact h1)))
      unfold wv wcs
      unfold wcs at HB
      dsimp only at HB HI H1 ⊢
      generalize d.sl = sl at *
      go_enter Try.func52, Try.ntmps52
      go_wp2_with fail
      go_ret
      exact ⟨ret_int HV.out.symm, HB.out.1⟩
    · obtain ⟨k, rfl⟩ := Int.eq_ofNat_of_zero_le (show 0 ≤ a by omega)
      have hk : k < n1 := by omega
      clear h0 h1
      obtain ⟨x, hx⟩ := get_of_lt H1.out hk
      have HV := Lib.hid (whr_at hx)
      obtain ⟨b, off, hA, hb, hc⟩ := HI.out k x hx
      dsimp only at hA
      subst hA
      clear hx
      have i1 : (0 : Int) ≤ (k : Int) := by omega
      have i2 : (k : Int) < (n1 : Int) := by omega
      unfold wv wcs
      unfold wcs at HB
      dsimp only at HB HI H1 ⊢
      generalize d.sl = sl at *
      by_cases hx1 : x < -1
      · rw [if_pos hx1] at HV
        have hx2 : (x == -1) = false := by simp; omega
        go_enter Try.func52, Try.ntmps52
        go_wp2_with fail
        go_ret
        exact ⟨ret_int HV.out.symm, HB.out.1⟩
      · by_cases hx2 : x = -1
        · subst hx2
          rw [if_neg hx1, if_pos rfl] at HV
          go_enter Try.func52, Try.ntmps52
          go_wp2_with fail
          go_ret
          exact ⟨ret_int HV.out.symm, HB.out.1⟩
        · have hx3 : -1 ≤ x := by omega
          have hx4 : (x == -1) = false := by simp [hx2]
          rw [if_neg hx1, if_neg hx2] at HV
          clear hx1 hx2
          go_enter Try.func52, Try.ntmps52
          go_wp2_with fail
          go_ret
          exact ⟨ret_int HV.out.symm, HB.out.1⟩

theorem run_fldK0 (p : Nat) (w : World) : (Instr.fieldAt 72 (.pointer (some ⟨p, 0, none⟩)) 0).run Try.prog w = .ok (.pointer (some ⟨p, 0, none⟩)) w := by kernel_rfl
theorem run_fldK2 (p : Nat) (w : World) : (Instr.fieldAt 72 (.pointer (some ⟨p, 0, none⟩)) 2).run Try.prog w = .ok (.pointer (some ⟨p, 2, none⟩)) w := by kernel_rfl
theorem run_fldK3 (p : Nat) (w : World) : (Instr.fieldAt 72 (.pointer (some ⟨p, 0, none⟩)) 3).run Try.prog w = .ok (.pointer (some ⟨p, 3, none⟩)) w := by kernel_rfl
theorem fill_oneI : Instr.fill (fun i => some (i * 1, 1)) (Array.map (fun x => (Value.int .i64 0).cells[x % (Value.int .i64 0).cells.size]!) (Array.range (1 * 1))) #[(0, .int .i64 (-1))].toList = some #[.int .i64 (-1)] := by kernel_rfl
theorem run_oneI (w : World) : ((do pure (.value (← Instr.buildSlice 22 1 #[(0, .int .i64 (-1))])) : Sem Next)).run Try.prog w = .ok (.value (.slice (some ⟨w.heap.size, 0, none⟩) 1 1)) (w.alloc (.cells #[.int .i64 (-1)] 3)) := by
  obtain ⟨i, hi, hz, hs, hb⟩ := info_parts infoI
  rw [Sem.run_bind, run_buildSlice w _ _ 1 #[(0, .int .i64 (-1))] #[.int .i64 (-1)] i _ Try.underlying22 hi hz (by rw [hs]; decide) (by rw [hs]; decide) (by rw [hs]; exact fill_oneI)]
  rfl
theorem run_bldW (n : Int) (A B C : Option Addr) (n1 c1 n2 c2 n3 c3 : Nat) (w : World) : ((do pure (.value (← Instr.build 25 #[(0, .int .i64 n), (1, .slice A n1 c1), (2, .slice B n2 c2), (3, .slice C n3 c3)])) : Sem Next)).run Try.prog w = .ok (.value (.agg #[.int .i64 n, .slice A n1 c1, .slice B n2 c2, .slice C n3 c3])) w := by kernel_rfl
section
variable {P : Program} {ops : Array Oper} {Q : Exit → Act → World → Prop} {G : Told} {o : Oper} {a : Act} {w : World}
theorem StepI.len {t e : TypeId} {x : Operand} {A : Option Addr} {n c : Nat} (ho : o.op = .call { callee := .builtin .len, args := #[x], argTypes := #[t] }) (ht : P.underlying t = some (.slice e)) (hw : wants ops o a = true) (hx : a.eval x = .slice A n c) (hg : G (.int .i64 (n : Int)) w) : StepI P ops Q o G a w :=
  StepI.val (v := .int .i64 (n : Int)) hw (by
    revert hx
    generalize a.eval = ρ
    intro hx
    simp [execOp, ho, hx, resolve, invoke, go_sem, Builtin.len_, run_underlying ht]) hg
end
theorem neqI_same (x y : Operand) (p : Int) (w : World) : ((do eqGuard .neq 27 x y (.int .i64 p) (.int .i64 p); binOp .neq 27 (.int .i64 p) (.int .i64 p) : Sem Value)).run Try.prog w = .ok (.bool false) w := by
  go_simp
theorem neqB_same (x y : Operand) (p : Bool) (w : World) : ((do eqGuard .neq 4 x y (.bool p) (.bool p); binOp .neq 4 (.bool p) (.bool p) : Sem Value)).run Try.prog w = .ok (.bool false) w := by
  cases p <;> kernel_rfl
def isOne : Told := fun u w => ∃ g, u = .slice (some ⟨g, 0, none⟩) 1 1 ∧ Blk w g 3 #[.int .i64 (-1)]
theorem isOne_st (v : Value) (w w' : World) (h : isOne v w) (hb : Below w.heap.size w w') : isOne v w' := by
  obtain ⟨g, e, h1⟩ := h
  exact ⟨g, e, h1.belowB hb⟩
def isRp (B k : Nat) : Told := fun u w => ∃ A c, u = .slice A k c ∧ k ≤ c ∧ c ≤ 9223372036854775807 ∧ (∀ ad, A = some ad → B ≤ ad.block) ∧ IntsAt w w.heap.size A (List.replicate k (-1))
theorem isRp_st {B k : Nat} (v : Value) (w w' : World) (h : isRp B k v w) (hb : Below w.heap.size w w') : isRp B k v w' := by
  obtain ⟨A, c, e, h1, h2, h4, h3⟩ := h
  exact ⟨A, c, e, h1, h2, h4, h3.next hb⟩
def isMk (B k : Nat) : Told := fun u w => ∃ A c, u = .slice A k c ∧ k ≤ c ∧ c ≤ 9223372036854775807 ∧ (∀ ad, A = some ad → B ≤ ad.block) ∧ BoolsAt w w.heap.size A (List.replicate k false)
theorem isMk_st {B k : Nat} (v : Value) (w w' : World) (h : isMk B k v w) (hb : Below w.heap.size w w') : isMk B k v w' := by
  obtain ⟨A, c, e, h1, h2, h4, h3⟩ := h
  exact ⟨A, c, e, h1, h2, h4, h3.next hb⟩
def isWd (d : Wd) : Told := fun u w => ∃ r, u = wv d.sl r ∧ WOk w r d
theorem isWd_st {d : Wd} (v : Value) (w w' : World) (h : isWd d v w) (hb : Below w.heap.size w w') : isWd d v w' := by
  obtain ⟨r, e, h1⟩ := h
  exact ⟨r, e, h1.next hb⟩
def isWf (B : Nat) (d : Wd) : Told := fun u w => ∃ r, u = wv d.sl r ∧ WOk w r d ∧ FrB B r
theorem isWf_st {B : Nat} {d : Wd} (v : Value) (w w' : World) (h : isWf B d v w) (hb : Below w.heap.size w w') : isWf B d v w' := by
  obtain ⟨r, e, h1, h2⟩ := h
  exact ⟨r, e, h1.next hb, h2⟩
def isFc (d : Wd) : Told := fun u w => ∃ l A c, u = .slice A (List.length l) c ∧ l.length ≤ c ∧ c ≤ maxLen ∧ FactsAt w w.heap.size A l ∧ Asc l ∧ (∀ f, f ∈ l ↔ wErr d = 0 ∧ inS d f ∧ okF f = true)
theorem isFc_st {d : Wd} (v : Value) (w w' : World) (h : isFc d v w) (hb : Below w.heap.size w w') : isFc d v w' := by
  obtain ⟨l, A, c, e, h1, h2, h3, h4⟩ := h
  exact ⟨l, A, c, e, h1, h2, h3.next hb, h4⟩
theorem fc_told {f : Nat} {vs : Array Value} {d : Wd} {w : World} (h : Calls Try.prog f vs w (FcPost d w)) : Calls Try.prog f vs w fun e w' => ∃ v, e = .returned v ∧ isFc d v w' ∧ Below w.heap.size w w' :=
  h.mono fun e w' ⟨l, A, c, e1, h1, h2, h3, h4, h5, h6⟩ => ⟨_, e1, ⟨l, A, c, rfl, h1, h2, h3, h4, h5⟩, h6⟩
theorem cp_told {f : Nat} {vs : Array Value} {d : Wd} {r : Raw} {w : World} (h : Calls Try.prog f vs w (CopyPost d r w)) : Calls Try.prog f vs w fun e w' => ∃ v, e = .returned v ∧ isWd d v w' ∧ Below w.heap.size w w' :=
  h.mono fun e w' ⟨r', e1, _, _, _, h2⟩ => ⟨_, e1, ⟨r', rfl, rows3_ok h2⟩, h2.below⟩
theorem rp_told {f : Nat} {vs : Array Value} {B k : Nat} {w : World} (hB : B ≤ w.heap.size) (h : Calls Try.prog f vs w (ClonePost 3 k (cellsI (List.replicate k (-1))) w)) : Calls Try.prog f vs w fun e w' => ∃ v, e = .returned v ∧ isRp B k v w' ∧ Below w.heap.size w w' :=
  h.mono fun e w' ⟨v, e1, h1, h2⟩ => by
    obtain ⟨hn, A, c, rfl, h3, h4, h5⟩ := IntsAt.of_ownN h1
    unfold maxLen at h4
    exact ⟨_, e1, ⟨A, c, rfl, h3, h4, fun ad ha => Nat.le_trans hB (own_above h1 ha), h5⟩, h2⟩
theorem mk_told (B k : Nat) (hk : k ≤ 6) (w : World) (hB : B ≤ w.heap.size) : ∃ v w', (Instr.makeSlice 23 (.int .i64 (k : Int)) (.int .i64 (k : Int))).run Try.prog w = .ok v w' ∧ isMk B k v w' ∧ Below w.heap.size w w' := by
  obtain ⟨i0, hi0, hz0, hz1, hz2⟩ := info_parts infoBo
  have hmk := run_make_one (P := Try.prog) Try.underlying23 hi0 hz0 hz1 rfl k (by rw [hz2]; omega) (by omega) w
  refine ⟨_, _, hmk, ⟨_, _, rfl, Nat.le_refl _, by omega, fun ad ha => by cases ha; exact hB, ?_⟩, (Below.refl _ _).alloc (Nat.le_refl _) _⟩
  intro j x hx
  have hj := (List.getElem?_eq_some_iff.1 hx).1
  have hB := Blk.new w 4 (Array.replicate k (.bool false))
  refine ⟨w.heap.size, 0, rfl, hB.lt, ?_⟩
  rw [List.length_replicate] at hj
  rw [List.getElem?_replicate, if_pos hj] at hx
  cases hx
  have h9 := hB.cell j
  rw [Nat.zero_add, h9]
  simp [hj]
theorem bld_told {n : Nat} {d : Wd} {v1 v2 v3 : Value} {w : World} {B np na : Nat} (h1 : isRp B np v1 w) (h2 : isMk B np v2 w) (h3 : isRp B na v3 w) (hd : d = ⟨(n : Int), List.replicate np (-1), List.replicate np false, List.replicate na (-1)⟩) : ∃ v, ((do pure (.value (← Instr.build 25 #[(0, .int .i64 (n : Int)), (1, v1), (2, v2), (3, v3)])) : Sem Next)).run Try.prog w = .ok (.value v) w ∧ isWf B d v w := by
  obtain ⟨A1, c1, rfl, a1, a2, a4, a3⟩ := h1
  obtain ⟨A2, c2, rfl, b1, b2, b4, b3⟩ := h2
  obtain ⟨A3, c3, rfl, e1, e2, e4, e3⟩ := h3
  subst hd
  exact ⟨_, run_bldW _ _ _ _ _ _ _ _ _ _ _, ⟨A1, np, c1, A2, np, c2, A3, na, c3⟩, rfl, ⟨List.length_replicate.symm, List.length_replicate.symm, List.length_replicate.symm, a1, b1, e1, a2, b2, e2, a3, b3, e3⟩, fun ad ha => by rcases ha with ha | ha | ha; exact a4 ad ha; exact b4 ad ha; exact e4 ad ha⟩
/-- while the law works -/
structure LaS (w : World) (kc : Array Value) (sa : Int) (ra : Raw) (sb : Int) (rb : Raw) (pa : Nat) (D : Wd) (r1 : Raw) (wr : World) : Prop where
  bel : Below w.heap.size w wr
  wks : Blk wr w.heap.size 72 kc
  ba : Blk wr (w.heap.size + 1) 25 (wcs sa ra)
  bb : Blk wr (w.heap.size + 2) 25 (wcs sb rb)
  nxt : Blk wr pa 25 (wcs D.sl r1)
  ok1 : WOk wr r1 D
structure L0S (w : World) (kc : Array Value) (sa : Int) (ra : Raw) (sb : Int) (rb : Raw) (wr : World) : Prop where
  bel : Below w.heap.size w wr
  wks : Blk wr w.heap.size 72 kc
  ba : Blk wr (w.heap.size + 1) 25 (wcs sa ra)
  bb : Blk wr (w.heap.size + 2) 25 (wcs sb rb)
structure LbS (w : World) (kc : Array Value) (sa : Int) (ra : Raw) (sb : Int) (rb : Raw) (pa pb : Nat) (D : Wd) (r1 : Raw) (wr : World) : Prop where
  l : LaS w kc sa ra sb rb pa D r1 wr
  ne : w.heap.size + 2 < pb ∧ pa < pb
  off : Off pb r1 D
  res : ∃ x y z u, Blk wr pb 25 #[x, y, z, u]
structure LcS (w : World) (kc : Array Value) (sa : Int) (ra : Raw) (sb : Int) (rb : Raw) (pa pb : Nat) (D : Wd) (r1 q1 : Raw) (wr : World) : Prop where
  l : LaS w kc sa ra sb rb pa D r1 wr
  wnt : Blk wr pb 25 (wcs D.sl q1)
  ok2 : WOk wr q1 D
section
variable {w wr w' : World} {kc : Array Value} {sa sb : Int} {ra rb r1 q1 : Raw} {pa pb : Nat} {D : Wd}
theorem L0S.start (w : World) (kc : Array Value) (sa sb : Int) (ra rb : Raw) : L0S w kc sa ra sb rb (((w.alloc (.cells kc 72)).alloc (.cells (wcs sa ra) 25)).alloc (.cells (wcs sb rb) 25)) := by
  have z1 : (w.alloc (.cells kc 72)).heap.size = w.heap.size + 1 := by simp
  have z2 : ((w.alloc (.cells kc 72)).alloc (.cells (wcs sa ra) 25)).heap.size = w.heap.size + 2 := by simp
  exact ⟨(((Below.refl _ _).alloc (Nat.le_refl _) _).alloc (by simp) _).alloc (by simp; omega) _, ((Blk.new _ _ _).alloc _).alloc _, (Blk.at_ z1.symm).alloc _, Blk.at_ z2.symm⟩
theorem L0S.next (h : L0S w kc sa ra sb rb wr) (hb : Below wr.heap.size wr w') : L0S w kc sa ra sb rb w' :=
  ⟨h.bel.trans (hb.mono h.bel.size), h.wks.belowB hb, h.ba.belowB hb, h.bb.belowB hb⟩
theorem LaS.of (h : L0S w kc sa ra sb rb wr) (ho : WOk wr r1 D) : LaS w kc sa ra sb rb wr.heap.size D r1 (wr.alloc (.cells (wcs D.sl r1) 25)) :=
  ⟨h.bel.alloc h.bel.size _, h.wks.alloc _, h.ba.alloc _, h.bb.alloc _, Blk.new _ _ _, ho.next ((Below.refl _ _).alloc (Nat.le_refl _) _)⟩
theorem LaS.next (h : LaS w kc sa ra sb rb pa D r1 wr) (hb : Below wr.heap.size wr w') : LaS w kc sa ra sb rb pa D r1 w' :=
  ⟨h.bel.trans (hb.mono h.bel.size), h.wks.belowB hb, h.ba.belowB hb, h.bb.belowB hb, h.nxt.belowB hb, h.ok1.next hb⟩
theorem LbS.of (h : LaS w kc sa ra sb rb pa D r1 wr) : LbS w kc sa ra sb rb pa wr.heap.size D r1 (wr.alloc (.cells #[.int .i64 0, .slice none 0 0, .slice none 0 0, .slice none 0 0] 25)) :=
  ⟨h.next ((Below.refl _ _).alloc (Nat.le_refl _) _), ⟨h.bb.lt, h.nxt.lt⟩, Off.of_in h.ok1 (Nat.le_refl _), ⟨_, _, _, _, Blk.new _ _ _⟩⟩
theorem LbS.next (h : LbS w kc sa ra sb rb pa pb D r1 wr) (hb : Below wr.heap.size wr w') : LbS w kc sa ra sb rb pa pb D r1 w' := by
  obtain ⟨h1, h2, h4, x, y, z, u, h3⟩ := h
  exact ⟨h1.next hb, h2, h4, x, y, z, u, h3.belowB hb⟩
theorem LbS.lt (h : LbS w kc sa ra sb rb pa pb D r1 wr) : pb + 1 ≤ wr.heap.size := by
  obtain ⟨h1, h2, h4, x, y, z, u, h3⟩ := h
  exact h3.lt
theorem LcS.next (h : LcS w kc sa ra sb rb pa pb D r1 q1 wr) (hb : Below wr.heap.size wr w') : LcS w kc sa ra sb rb pa pb D r1 q1 w' :=
  ⟨h.l.next hb, h.wnt.belowB hb, h.ok2.next hb⟩
theorem LcS.zero (hD : D = noWd) (h : LaS w kc sa ra sb rb pa D r1 wr) : LcS w kc sa ra sb rb pa wr.heap.size D r1 noRaw (wr.alloc (.cells #[.int .i64 0, .slice none 0 0, .slice none 0 0, .slice none 0 0] 25)) := by
  subst hD
  exact ⟨h.next ((Below.refl _ _).alloc (Nat.le_refl _) _), Blk.new _ _ _, WOk.no _⟩
theorem LbS.room (h : LbS w kc sa ra sb rb pa pb D r1 wr) : Room pb wr := by
  obtain ⟨h1, h2, h4, x, y, z, u, h3⟩ := h
  exact room_of h3
end
end Go.Proofs.Ytnaiflokmihmeaa
