/- Walks: lies, goes, grasp (reference). -/
import Derived.Test.YtnaiflokmihmeaaActK
import Derived.Test.YtnaiflokmihmeaaMgH
import Derived.Test.YtnaiflokmihmeaaMgJ
namespace Go.Proofs.Ytnaiflokmihmeaa
open Go.RowKit
set_option linter.unusedVariables false
set_option linter.unusedSimpArgs false

theorem inS_in {d : Wd} {a b : Int} : inS d ⟨1, a, b⟩ ↔ 0 ≤ b ∧ ∃ q : Nat, a = q ∧ d.pl[q]? = some b := by
  unfold inS stF
  simp
  intro _
  constructor
  · rintro ⟨q, h1, h2, h3⟩; exact ⟨q, h1, h3⟩
  · rintro ⟨q, h1, h3⟩; exact ⟨q, h1, (List.getElem?_eq_some_iff.1 h3).1, h3⟩
theorem inS_holds {d : Wd} {a b : Int} : inS d ⟨2, a, b⟩ ↔ 0 ≤ a ∧ ∃ q : Nat, b = q ∧ d.pl[q]? = some (-2 - a) := by
  unfold inS stF
  simp
  intro _
  constructor
  · rintro ⟨q, h1, h2, h3⟩; exact ⟨q, h1, h3⟩
  · rintro ⟨q, h1, h3⟩; exact ⟨q, h1, (List.getElem?_eq_some_iff.1 h3).1, h3⟩
theorem inS_at {d : Wd} {a b : Int} : inS d ⟨6, a, b⟩ ↔ 0 ≤ b ∧ ∃ q : Nat, a = q ∧ d.sp[q]? = some b := by
  unfold inS stF
  simp
  intro _
  constructor
  · rintro ⟨q, h1, h2, h3⟩; exact ⟨q, h1, h3⟩
  · rintro ⟨q, h1, h3⟩; exact ⟨q, h1, (List.getElem?_eq_some_iff.1 h3).1, h3⟩
theorem inS_seen {d : Wd} {a : Int} (hse : d.se.length = d.pl.length) : inS d ⟨5, a, 0⟩ ↔ ∃ q : Nat, a = q ∧ d.se[q]? = some true := by
  unfold inS stF
  simp
  constructor
  · rintro ⟨q, h1, h2, h3⟩; exact ⟨q, h1, h3⟩
  · rintro ⟨q, h1, h3⟩; exact ⟨q, h1, by have := (List.getElem?_eq_some_iff.1 h3).1; omega, h3⟩
theorem inS_free {d : Wd} {a : Int} : inS d ⟨3, a, 0⟩ ↔ 0 ≤ a ∧ a < (d.sp.length : Int) ∧ (-2 - a) ∉ d.pl := by
  unfold inS stF
  simp
theorem inS_empty {d : Wd} {a : Int} (h0 : 0 ≤ d.sl) : inS d ⟨4, a, 0⟩ ↔ 0 ≤ a ∧ a < d.sl ∧ a ∉ d.pl := by
  unfold inS stF
  simp
  omega
/-- where a part is told to lie, of the facts done -/
def LieOk (d : Wd) (kp : Nat) (done : List Ft) (out : Int) : Prop :=
  (∀ a, (⟨2, a, (kp : Int)⟩ : Ft) ∉ done) ∧ ((∃ v, (⟨1, (kp : Int), v⟩ : Ft) ∈ done ∧ out = v) ∨ ((∀ v, (⟨1, (kp : Int), v⟩ : Ft) ∉ done) ∧ out = 8 + (kp : Int)))
theorem lie_end {d : Wd} {kp : Nat} {s done : List Ft} {out x : Int} (hs : Tells s (inS d)) (hp : s.Perm done) (hx : d.pl[kp]? = some x) (h : LieOk d kp done out) : whr d (kp : Int) = out := by
  rw [whr_at hx]
  have hm : ∀ f, f ∈ done ↔ inS d f := fun f => by rw [← hp.mem_iff, hs.2 f]
  have e : ((kp : Int)) = ((kp : Nat) : Int) := rfl
  by_cases h1 : x < -1
  · exact absurd ((hm _).2 (inS_holds.2 ⟨by omega, kp, rfl, by rw [hx]; congr 1; omega⟩)) (h.1 (-2 - x))
  · rw [if_neg h1]
    rcases h.2 with ⟨v, h2, h3⟩ | ⟨h2, h3⟩
    · obtain ⟨h4, q, h5, h6⟩ := inS_in.1 ((hm _).1 h2)
      have : q = kp := by omega
      subst this
      rw [hx] at h6
      have h7 := Option.some.inj h6
      subst h7
      rw [if_neg (by omega), h3]
    · by_cases h4 : x = -1
      · rw [if_pos h4, h3]
      · exact absurd ((hm _).2 (inS_in.2 ⟨by omega, kp, rfl, hx⟩)) (h2 x)
theorem lie_held {d : Wd} {kp : Nat} {s : List Ft} {a x : Int} (hs : Tells s (inS d)) (hx : d.pl[kp]? = some x) (h : (⟨2, a, (kp : Int)⟩ : Ft) ∈ s) : whr d (kp : Int) = -1 := by
  obtain ⟨h4, q, h5, h6⟩ := inS_holds.1 ((hs.2 _).1 h)
  have : q = kp := by omega
  subst this
  rw [hx] at h6
  have h7 := Option.some.inj h6
  rw [whr_at hx, if_pos (by omega)]
theorem LieOk.skip {d : Wd} {kp : Nat} {done : List Ft} {out : Int} {f : Ft} (h : LieOk d kp done out) (h1 : ¬ (f.k = 1 ∧ f.a = (kp : Int))) (h2 : ¬ (f.k = 2 ∧ f.b = (kp : Int))) : LieOk d kp (f :: done) out := by
  refine ⟨fun a hm => ?_, ?_⟩
  · rcases List.mem_cons.1 hm with e | hm
    · subst e; exact h2 ⟨rfl, rfl⟩
    · exact h.1 a hm
  · rcases h.2 with ⟨v, h3, h4⟩ | ⟨h3, h4⟩
    · exact .inl ⟨v, List.mem_cons_of_mem _ h3, h4⟩
    · refine .inr ⟨fun v hm => ?_, h4⟩
      rcases List.mem_cons.1 hm with e | hm
      · subst e; exact h1 ⟨rfl, rfl⟩
      · exact h3 v hm
theorem LieOk.take {d : Wd} {kp : Nat} {done : List Ft} {out v : Int} (h : LieOk d kp done out) : LieOk d kp (⟨1, (kp : Int), v⟩ :: done) v := by
  refine ⟨fun a hm => ?_, .inl ⟨v, List.mem_cons_self, rfl⟩⟩
  rcases List.mem_cons.1 hm with e | hm
  · cases e
  · exact h.1 a hm

set_option maxHeartbeats 4000000 in
set_option maxRecDepth 20000 in
theorem lies_any (d : Wd) (b kp : Nat) (w : World) (h : StAt d b w) (hv : Vd d) (hk : kp < d.pl.length) :
    Calls Try.prog 85 #[.map (some b), .int .i64 kp] w fun e w' => e = .returned (.int .i64 (whr d kp)) ∧ Below w.heap.size w w' := by
  obtain ⟨s, hset, hnd, hin⟩ := h
  have HT : Hid (Tells s (inS d)) := Lib.hid ⟨hnd, hin⟩
  obtain ⟨x, hx⟩ : ∃ x, d.pl[kp]? = some x := ⟨_, List.getElem?_eq_getElem hk⟩
  have HX := Lib.hid hx
  have hk6 : kp ≤ 6 := by have := hv.p6; omega
  have HSET := Lib.hid hset
  have hblt := hset.lt
  clear hset hnd hin hx hk hv
  have hw := i64_w (8 + (kp : Int)) (by omega) (by omega)
  generalize hsn : s.length = m2
  have HSN := Lib.hid hsn; clear hsn
  go_enter Try.func85, Try.ntmps85
  go_wp2_with (at_range; refine wpList_set_range _ rfl _ 114 rfl Try.underlying114 HSET.out rfl ?_; intro w4 hi4 hb4 hz4)
  have HI4 := Lib.hid hi4
  have HB4 := Lib.hid hb4
  have HZ4 := Lib.hid hz4
  clear hi4 hb4 hz4
  go_frame
  go_loopg [5] m2 (fun k o wr => ∃ (left done : List Ft) (out : Int), k = left.length ∧ o = .int .i64 out ∧ Hid (s.Perm (done ++ left)) ∧ Hid (SIter valF wr w.heap.size b left) ∧ Hid (Below w.heap.size w wr) ∧ Hid (LieOk d kp done out))
  case atStart => exact ⟨s, [], _, HSN.out.symm, rfl, Lib.hid (List.Perm.refl _), HI4, HB4, Lib.hid ⟨fun a h => by simp at h, .inr ⟨fun v h => by simp at h, rfl⟩⟩⟩
  case round =>
    clear HI4 HB4 HZ4
    obtain ⟨left, done, out, hgk, rfl, hperm, hit, hbel, hok⟩ := hrel
    have HGK := Lib.hid hgk; clear hgk
    go_wp2_with (at_next; refine wpList_fset_next _ rfl _ rfl hit.out rfl ?_ ?_)
    · intro hl0
      have HV := Lib.hid (lie_end HT.out (by have := hperm.out; rw [hl0, List.append_nil] at this; exact this) HX.out hok.out)
      clear hl0
      go_wp2_with fail
      go_ret
      exact ⟨ret_int HV.out.symm, hbel.out⟩
    · intro fk fa fb left' w5 hp5 hi5 hg5 hz5 hen
      have HB5 : Hid (Below w.heap.size w w5) := Lib.hid (hbel.out.grown hg5 hbel.out.size (fun k hk => by cases hk; exact Nat.le_refl _))
      have hbx : Below w5.heap.size w5 (w5.alloc (.cells #[.int .i64 fk, .int .i64 fa, .int .i64 fb] 45)) := (Below.refl _ _).alloc (Nat.le_refl _) _
      have HI6 := Lib.hid (hi5.next hbx)
      have HB6 := Lib.hid (HB5.out.alloc HB5.out.size (.cells #[.int .i64 fk, .int .i64 fa, .int .i64 fb] 45))
      have HX6 := Lib.hid (Blk.new w5 45 #[.int .i64 fk, .int .i64 fa, .int .i64 fb])
      have HP6 : Hid (s.Perm (((⟨fk, fa, fb⟩ : Ft) :: done) ++ left')) := Lib.hid (hperm.out.trans ((hp5.append_left done).trans List.perm_middle))
      have HLN : Hid (left.length = left'.length + 1) := Lib.hid (by have := hp5.length_eq; simpa using this)
      have HMS : Hid ((⟨fk, fa, fb⟩ : Ft) ∈ s) := Lib.hid (hperm.out.mem_iff.2 (List.mem_append.2 (.inr (hp5.mem_iff.2 (by simp)))))
      clear hbx hp5 hi5 hg5 hz5 hperm hit hbel
      have k0 := HX6.out.cell 0
      have k1 := HX6.out.cell 1
      have k2 := HX6.out.cell 2
      simp at k0 k1 k2
      have hcs : (fk = 1 ∧ fa = (kp : Int)) ∨ (fk = 2 ∧ fb = (kp : Int)) ∨ (fk = 1 ∧ (fa == (kp : Int)) = false) ∨ (fk = 2 ∧ (fb == (kp : Int)) = false) ∨ ((fk == 1) = false ∧ (fk == 2) = false) := by simp; omega
      rcases hcs with ⟨rfl, rfl⟩ | ⟨rfl, rfl⟩ | ⟨rfl, h2⟩ | ⟨rfl, h2⟩ | ⟨h2, h3⟩
      · have HOK := Lib.hid (hok.out.take (v := fb))
        go_wp2_with fail
        go_roundg left'.length
        case measure => rw [HGK.out, HLN.out]; omega
        case rel => exact ⟨left', _, _, rfl, rfl, HP6, HI6, HB6, HOK⟩
      · have HV := Lib.hid (lie_held HT.out HX.out HMS.out)
        go_wp2_with fail
        go_ret
        exact ⟨ret_int HV.out.symm, HB6.out⟩
      · have HOK := Lib.hid (hok.out.skip (f := ⟨1, fa, fb⟩) (fun g => by have g2 := g.2; dsimp only at g2; simp [g2] at h2) (fun g => by have g1 := g.1; dsimp only at g1; omega))
        go_wp2_with fail
        go_roundg left'.length
        case measure => rw [HGK.out, HLN.out]; omega
        case rel => exact ⟨left', _, _, rfl, rfl, HP6, HI6, HB6, HOK⟩
      · have HOK := Lib.hid (hok.out.skip (f := ⟨2, fa, fb⟩) (fun g => by have g1 := g.1; dsimp only at g1; omega) (fun g => by have g2 := g.2; dsimp only at g2; simp [g2] at h2))
        go_wp2_with fail
        go_roundg left'.length
        case measure => rw [HGK.out, HLN.out]; omega
        case rel => exact ⟨left', _, _, rfl, rfl, HP6, HI6, HB6, HOK⟩
      · have HOK := Lib.hid (hok.out.skip (f := ⟨fk, fa, fb⟩) (fun g => by have g1 := g.1; dsimp only at g1; simp [g1] at h2) (fun g => by have g1 := g.1; dsimp only at g1; simp [g1] at h3))
        go_wp2_with fail
        go_roundg left'.length
        case measure => rw [HGK.out, HLN.out]; omega
        case rel => exact ⟨left', _, _, rfl, rfl, HP6, HI6, HB6, HOK⟩

def goesV (p spot : Int) (free here clash : Bool) : Int := if 0 ≤ p ∧ free = false then 6 else if spot < 0 then 7 else if here = true then 5 else if clash = true then 10 else 0
set_option maxHeartbeats 4000000 in
set_option maxRecDepth 20000 in
theorem goes_any (d : Wd) (b : Nat) (s : Stp) (spot : Int) (free here : Bool) (w : World) (h : StAt d b w) (hv : Vd d) :
    Calls Try.prog 86 #[.map (some b), sv s, .int .i64 spot, .bool free, .bool here] w fun e w' => e = .returned (.int .i64 (goesV s.p spot free here (decide (spot ∈ d.sp)))) ∧ Below w.heap.size w w' := by
  obtain ⟨S, hset, hnd, hin⟩ := h
  have HSET := Lib.hid (SetN.next hset (sboxed w (scs s)).1)
  have HIN : Hid (∀ f, f ∈ S ↔ inS d f) := Lib.hid hin
  have HB := Lib.hid (sboxed w (scs s)).1
  have hlen := hv.s4
  have HLEN := Lib.hid hlen
  obtain ⟨k, a, p, s0, t⟩ := s
  unfold sv
  unfold scs at HB HSET
  dsimp only at HB HSET ⊢
  clear hset hnd hin hv hlen
  by_cases h1 : 0 ≤ p ∧ free = false
  · have HV : Hid (goesV p spot free here (decide (spot ∈ d.sp)) = 6) := Lib.hid (by unfold goesV; rw [if_pos h1])
    obtain ⟨h1, rfl⟩ := h1
    go_enter Try.func86, Try.ntmps86
    go_wp2_with fail
    go_ret
    exact ⟨ret_int HV.out.symm, HB.out⟩
  · have h1' : p < 0 ∨ (0 ≤ p ∧ free = true) := by cases free <;> simp_all <;> omega
    have HV : Hid (goesV p spot free here (decide (spot ∈ d.sp)) = if spot < 0 then 7 else if here = true then 5 else if decide (spot ∈ d.sp) = true then 10 else 0) := Lib.hid (by unfold goesV; rw [if_neg h1])
    clear h1
    by_cases h2 : spot < 0
    · rw [if_pos h2] at HV
      rcases h1' with h | ⟨h, rfl⟩
      all_goals
        go_enter Try.func86, Try.ntmps86
        go_wp2_with fail
        go_ret
        exact ⟨ret_int HV.out.symm, HB.out⟩
    · rw [if_neg h2] at HV
      have h2' : 0 ≤ spot := by omega
      clear h2
      cases here with
      | true =>
        rw [if_pos rfl] at HV
        rcases h1' with h | ⟨h, rfl⟩
        all_goals
          go_enter Try.func86, Try.ntmps86
          go_wp2_with fail
          go_ret
          exact ⟨ret_int HV.out.symm, HB.out⟩
      | false =>
        rw [if_neg (by simp)] at HV
        rcases h1' with h | ⟨h, rfl⟩
        all_goals
          go_enter Try.func86, Try.ntmps86
          go_wp2_with fail
          go_loop [25] (fun i => ∃ q : Nat, q ≤ 4 ∧ i = .int .i64 q ∧ Hid (∀ a, a < q → (⟨6, (a : Int), spot⟩ : Ft) ∉ S)) (fun i => 4 - (intOf i).toNat)
          case atStart => exact ⟨0, by omega, rfl, Lib.hid (fun a ha => by omega)⟩
          case round =>
            obtain ⟨q, hq, rfl, hall⟩ := hrel
            by_cases hlt : q < 4
            · cases hm : decide ((⟨6, (q : Int), spot⟩ : Ft) ∈ S) with
              | true =>
                have HV2 : Hid (goesV p spot _ false (decide (spot ∈ d.sp)) = 10) := Lib.hid (by
                  rw [HV.out, if_pos]
                  obtain ⟨_, q', h3, h4⟩ := inS_at.1 ((HIN.out _).1 (of_decide_eq_true hm))
                  exact decide_eq_true (List.mem_of_getElem? h4))
                have HM := Lib.hid hm
                clear hm
                go_wp2_with (at_lookup; refine wpList_set_get _ rfl _ _ 114 rfl klaw_ft Try.underlying114 (zB _) HSET.out ⟨6, (q : Int), spot⟩ HM.out rfl rfl ?_)
                go_ret
                exact ⟨ret_int HV2.out.symm, HB.out⟩
              | false =>
                have HM := Lib.hid hm
                have HN : Hid ((⟨6, (q : Int), spot⟩ : Ft) ∉ S) := Lib.hid (of_decide_eq_false hm)
                clear hm
                go_wp2_with (at_lookup; refine wpList_set_get _ rfl _ _ 114 rfl klaw_ft Try.underlying114 (zB _) HSET.out ⟨6, (q : Int), spot⟩ HM.out rfl rfl ?_)
                go_round
                case rel => exact ⟨q+1, by omega, by go_num, Lib.hid (fun a ha => by
                  rcases Nat.lt_succ_iff_lt_or_eq.1 ha with h | h
                  · exact hall.out a h
                  · rw [h]; exact HN.out)⟩
                case measure => simp [intOf]; omega
            · obtain rfl : q = 4 := by omega
              have HV2 : Hid (goesV p spot _ false (decide (spot ∈ d.sp)) = 0) := Lib.hid (by
                rw [HV.out, if_neg]
                intro h3
                obtain ⟨i, hi⟩ := List.mem_iff_getElem?.1 (of_decide_eq_true h3)
                have hil := (List.getElem?_eq_some_iff.1 hi).1
                exact hall.out i (by have := HLEN.out; omega) ((HIN.out _).2 (inS_at.2 ⟨h2', i, rfl, hi⟩)))
              go_wp2_with fail
              go_ret
              exact ⟨ret_int HV2.out.symm, HB.out⟩
theorem grasp_any (free here : Bool) (w : World) : Calls Try.prog 87 #[.bool free, .bool here] w fun e w' => e = .returned (.int .i64 (if free = false then 6 else if here = false then 7 else 0)) ∧ w' = w := by
  cases free <;> cases here
  all_goals
    go_enter Try.func87, Try.ntmps87
    go_wp2_with fail
    go_ret
    exact ⟨rfl, rfl⟩
end Go.Proofs.Ytnaiflokmihmeaa
