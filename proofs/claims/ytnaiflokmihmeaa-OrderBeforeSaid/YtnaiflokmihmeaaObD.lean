/- Walk: thingsOf (reference). -/
import Derived.Test.YtnaiflokmihmeaaObC
import Derived.ChangeKeysEq
namespace Go.Proofs.Ytnaiflokmihmeaa
open Go.RowKit
set_option linter.unusedVariables false
set_option linter.unusedSimpArgs false

def encT (q : Int × Int) : Value := .agg #[.int .i64 q.1, .int .i64 q.2]
theorem cellsI1 : Try.prog.cellsOf 3 = 1 := by kernel_rfl
theorem partT0 (x y : Int) (w : World) : (part 3 #[.int .i64 x, .int .i64 y] 0).run Try.prog w = .ok (.int .i64 x) w := by kernel_rfl
theorem partT1 (x y : Int) (w : World) : (part 3 #[.int .i64 x, .int .i64 y] 1).run Try.prog w = .ok (.int .i64 y) w := by kernel_rfl
theorem eqT0 (x y : Int) (w : World) : (Op.equalIn 9999 3 (.int .i64 x) (.int .i64 y)).run Try.prog w = .ok (x == y) w := by kernel_rfl
theorem equal_t2 (x y p q : Int) (w : World) : (Op.equalIn 10000 103 (.agg #[.int .i64 x, .int .i64 y]) (.agg #[.int .i64 p, .int .i64 q])).run Try.prog w = .ok (x == p && y == q) w := by
  obtain ⟨i0, hi, _⟩ := info_parts infoI
  have h := run_equalIn_array (P := Try.prog) (w := w) 9999 #[.int .i64 x, .int .i64 y] #[.int .i64 p, .int .i64 q] Try.underlying103 hi
  rw [h, cellsI1]
  simp only [Op.eqItems, List.range, List.range.loop, Sem.run_bind, Nat.zero_mul, Nat.one_mul, partT0, eqT0, Result.andThen_ok]
  cases hx : x == p <;> cases hy : y == q <;> simp [partT1, eqT0, hy]
theorem equalT (f g : Int × Int) (w : World) : (Op.equal 103 (encT f) (encT g)).run Try.prog w = .ok (decide (f = g)) w := by
  obtain ⟨x, y⟩ := f
  obtain ⟨p, q⟩ := g
  have h := equal_t2 x y p q w
  have e : decide ((x, y) = (p, q)) = (x == p && y == q) := by rw [Bool.eq_iff_iff]; simp
  rw [e]
  exact h
theorem checkT (e : Bool) (x y : Int) (w : World) : (Instr.checkKey e 10000 103 (.agg #[.int .i64 x, .int .i64 y])).run Try.prog w = .ok () w := by kernel_rfl
theorem klaw_th : KLaw Try.prog 103 encT := by
  refine ⟨fun e a w => checkT e _ _ w, fun en es l hl a w => ?_, fun a w => ?_⟩
  · have key : ∀ (es : List MapEntry) (l : List ((Int × Int) × _)) (i : Nat) (all : List MapEntry), es.map (fun e => (e.key, e.val)) = l.map (fun p => (encT p.1, en p.2)) → (∀ j, all[i + j]? = es[j]?) →
        (Instr.findAsking 103 (encT a) es i).run Try.prog w = .ok ((afind l a i).map fun i => (i, ((all[i]?).map (·.val)).getD undef)) w := by
      intro es
      induction es with
      | nil =>
        intro l i all hl _
        cases l with
        | nil => rfl
        | cons p r => simp at hl
      | cons x es ih =>
        intro l i all hl hall
        cases l with
        | nil => simp at hl
        | cons p r =>
          simp only [List.map_cons, List.cons.injEq, Prod.mk.injEq] at hl
          obtain ⟨⟨h1, h2⟩, h3⟩ := hl
          have h0 := hall 0
          simp only [Nat.add_zero, List.getElem?_cons_zero] at h0
          rw [Instr.findAsking, h1]
          simp only [Sem.run_bind, equalT, Result.andThen_ok]
          by_cases hap : a = p.1
          · simp [hap, afind, h0]
          · simp only [hap, decide_false, Bool.false_eq_true, if_false, afind]
            exact ih r (i + 1) all h3 (fun j => by have := hall (j + 1); rw [show i + 1 + j = i + (j + 1) by omega]; simpa using this)
    unfold Instr.findKey
    rw [Sem.run_bind, run_underlying Try.underlying103 w]
    simp only [Result.andThen_ok]
    cases es with
    | nil =>
      cases l with
      | nil => rfl
      | cons p r => simp at hl
    | cons x r =>
      show (Instr.findAsking 103 (encT a) (x :: r) 0).run Try.prog w = _
      exact key (x :: r) l 0 (x :: r) hl (fun j => by rw [Nat.zero_add])
  · simp [Instr.keyThatStays, Instr.sameBits, encT]
/-- while thingsOf works -/
structure TOS (w0 : World) (d : Wd) (r : Raw) (s : Stp) (l : List (Int × Int)) (wr : World) : Prop where
  bel : Below w0.heap.size w0 wr
  b2 : Blk wr w0.heap.size 25 (wcs d.sl r)
  b3 : Blk wr (w0.heap.size + 1) 39 #[.int .i64 s.k, .int .i64 s.a, .int .i64 s.p, .int .i64 s.s, .int .i64 s.t]
  set : SetN encT wr (w0.heap.size + 2) l
  nd : l.Nodup
section
variable {w0 wr w' : World} {d : Wd} {r : Raw} {s : Stp} {l : List (Int × Int)}
theorem TOS.put (h : TOS w0 d r s l wr) {k : Int × Int} (hs : SetN encT w' (w0.heap.size + 2) (sput l k)) (hg : wr.grownBy w' (some (w0.heap.size + 2))) : TOS w0 d r s (sput l k) w' :=
  ⟨h.bel.grown hg h.bel.size (fun k hk => by cases hk; omega), h.b2.grown hg (by simp), h.b3.grown hg (by simp), hs, sput_nodup h.nd⟩
theorem TOS.all (h : TOS w0 d r s l wr) : wr.cell? ⟨w0.heap.size, 0, none⟩ = some (.int .i64 d.sl) ∧ wr.cell? ⟨w0.heap.size, 1, none⟩ = some (.slice r.A1 r.n1 r.c1) ∧ wr.cell? ⟨w0.heap.size, 3, none⟩ = some (.slice r.A3 r.n3 r.c3) ∧
    wr.cell? ⟨w0.heap.size + 1, 0, none⟩ = some (.int .i64 s.k) ∧ wr.cell? ⟨w0.heap.size + 1, 1, none⟩ = some (.int .i64 s.a) ∧ wr.cell? ⟨w0.heap.size + 1, 2, none⟩ = some (.int .i64 s.p) ∧ wr.cell? ⟨w0.heap.size + 1, 3, none⟩ = some (.int .i64 s.s) :=
  ⟨h.b2.cell 0, h.b2.cell 1, h.b2.cell 3, h.b3.cell 0, h.b3.cell 1, h.b3.cell 2, h.b3.cell 3⟩
end
theorem tos_start (w : World) (d : Wd) (r : Raw) (s : Stp) {wm : World} (hs : SetN encT wm (w.heap.size + 2) (sput [] (0, s.a)))
    (hg : (((w.alloc (.cells (wcs d.sl r) 25)).alloc (.cells #[.int .i64 s.k, .int .i64 s.a, .int .i64 s.p, .int .i64 s.s, .int .i64 s.t] 39)).alloc (.map #[] 0)).grownBy wm (some (w.heap.size + 2))) : TOS w d r s [(0, s.a)] wm := by
  have e1 : Below w.heap.size w (w.alloc (.cells (wcs d.sl r) 25)) := (Below.refl _ _).alloc (Nat.le_refl _) _
  have b1 := Blk.new w 25 (wcs d.sl r)
  generalize hw1 : w.alloc (.cells (wcs d.sl r) 25) = w1 at *
  have s1 : w1.heap.size = w.heap.size + 1 := by rw [← hw1]; simp
  have e2 : Below w1.heap.size w1 (w1.alloc (.cells #[.int .i64 s.k, .int .i64 s.a, .int .i64 s.p, .int .i64 s.s, .int .i64 s.t] 39)) := (Below.refl _ _).alloc (Nat.le_refl _) _
  have b2 := Blk.new w1 39 #[.int .i64 s.k, .int .i64 s.a, .int .i64 s.p, .int .i64 s.s, .int .i64 s.t]
  generalize hw2 : w1.alloc (.cells #[.int .i64 s.k, .int .i64 s.a, .int .i64 s.p, .int .i64 s.s, .int .i64 s.t] 39) = w2 at *
  have s2 : w2.heap.size = w.heap.size + 2 := by rw [← hw2]; simp [s1]
  have e3 : Below w2.heap.size w2 (w2.alloc (.map #[] 0)) := (Below.refl _ _).alloc (Nat.le_refl _) _
  rw [s1] at b2
  have b1' := (b1.belowB e2).belowB e3
  have b2' := b2.belowB e3
  exact ⟨((e1.trans (e2.mono (by omega))).trans (e3.mono (by omega))).grown hg (by simp; omega) (fun k hk => by cases hk; omega), b1'.grown hg (by simp), b2'.grown hg (by simp), hs, by simp⟩
theorem made2 (w : World) (d : Wd) (r : Raw) (s : Stp) : SetN encT (((w.alloc (.cells (wcs d.sl r) 25)).alloc (.cells #[.int .i64 s.k, .int .i64 s.a, .int .i64 s.p, .int .i64 s.s, .int .i64 s.t] 39)).alloc (.map #[] 0)) (w.heap.size + 2) [] := by
  have h := SetN.made (enc := encT) ((w.alloc (.cells (wcs d.sl r) 25)).alloc (.cells #[.int .i64 s.k, .int .i64 s.a, .int .i64 s.p, .int .i64 s.s, .int .i64 s.t] 39))
  have e : ((w.alloc (.cells (wcs d.sl r) 25)).alloc (.cells #[.int .i64 s.k, .int .i64 s.a, .int .i64 s.p, .int .i64 s.s, .int .i64 s.t] 39)).heap.size = w.heap.size + 2 := by simp
  rwa [e] at h
theorem kyN_no {s : Stp} {n : Nat} {x : Int} (h1 : (n : Int) ≠ s.p) (h2 : ¬ (s.k = 2 ∧ x = -2 - s.a)) (q : Int × Int) : kyN s n x q ↔ False := by unfold kyN; grind
theorem kyN_held {s : Stp} {n : Nat} {x : Int} (h1 : (n : Int) ≠ s.p) (h2 : s.k = 2 ∧ x = -2 - s.a) (q : Int × Int) : kyN s n x q ↔ q = (1, (n : Int)) := by unfold kyN; grind
theorem kyN_free {s : Stp} {n : Nat} {x : Int} (h1 : (n : Int) = s.p) (h2 : s.k ≠ 2) (h3 : x = -1) (q : Int × Int) : kyN s n x q ↔ q = (1, (n : Int)) ∨ q = (2, 8 + (n : Int)) := by unfold kyN; grind
theorem kyN_slot {s : Stp} {n : Nat} {x : Int} (h1 : (n : Int) = s.p) (h2 : s.k ≠ 2) (h3 : 0 ≤ x) (q : Int × Int) : kyN s n x q ↔ q = (1, (n : Int)) ∨ q = (2, x) := by unfold kyN; grind
theorem kyN_arm {s : Stp} {n : Nat} {x : Int} (h1 : (n : Int) = s.p) (h2 : s.k ≠ 2) (h3 : x < -1) (q : Int × Int) : kyN s n x q ↔ q = (1, (n : Int)) := by unfold kyN; grind
theorem memP0 {l : List (Int × Int)} {P Q : Int × Int → Prop} (h : ∀ q, q ∈ l ↔ P q) (hq : ∀ q, Q q ↔ P q) : ∀ q, q ∈ l ↔ Q q := fun q => by rw [h, hq]
theorem memP1 {l : List (Int × Int)} {a : Int × Int} {P Q : Int × Int → Prop} (h : ∀ q, q ∈ l ↔ P q) (hq : ∀ q, Q q ↔ P q ∨ q = a) : ∀ q, q ∈ sput l a ↔ Q q := fun q => by rw [sput_mem, h, hq]
theorem memP2 {l : List (Int × Int)} {a b : Int × Int} {P Q : Int × Int → Prop} (h : ∀ q, q ∈ l ↔ P q) (hq : ∀ q, Q q ↔ P q ∨ (q = a ∨ q = b)) : ∀ q, q ∈ sput (sput l a) b ↔ Q q := fun q => by rw [sput_mem, sput_mem, h, hq, or_assoc]
/-- the things of a step, as pairs -/
def ToPost (d : Wd) (s : Stp) (w : World) (e : Ending) (w' : World) : Prop := ∃ b l, e = .returned (.map (some b)) ∧ SetN encT w' b l ∧ l.Nodup ∧ (∀ q, q ∈ l ↔ kyC d s q) ∧ Below w.heap.size w w' ∧ w.heap.size ≤ b
set_option maxHeartbeats 8000000 in
set_option maxRecDepth 20000 in
theorem thingsof_any (d : Wd) (r : Raw) (s : Stp) (w : World) (h : WOk w r d) (hc : canE d s = 0) : Calls Try.prog 74 #[wv d.sl r, sv s] w (ToPost d s w) := by
  have hk := okd_of hc
  obtain ⟨_, hf, _⟩ := canE_inv hc
  obtain ⟨f1, f2, f3, f4⟩ := formB_inv hf
  have hk2 : s.k = 2 → s.p < 0 := fun h9 => by omega
  have hn1 : r.n1 ≤ 6 := by have h8 := hk.v.p6; have h9 := h.h1; omega
  have hn3 : r.n3 ≤ 4 := by have h8 := hk.v.s4; have h9 := h.h3; omega
  have hab : s.a ≤ 4 := by have h8 := hk.v.s4; have h9 := hk.a1; omega
  have HH := Lib.hid h
  have HL1 : Hid (r.n1 = d.pl.length) := Lib.hid h.h1
  have HL3 : Hid (r.n3 = d.sp.length) := Lib.hid h.h3
  obtain ⟨wm, hmu, hms, hmg, _⟩ := MapN.update (en := enB) (made2 w d r s) klaw_th Try.underlying101 (0, s.a) true
  have hmm := @run_makeMap Try.prog
  have HS0 := Lib.hid (tos_start w d r s (by rw [aput_set] at hms; exact hms) hmg)
  clear hk hf hc h f4 hms hmg
  obtain ⟨A1, n1, c1, A2, n2, c2, A3, n3, c3⟩ := r
  obtain ⟨k, a0, p, q0, t⟩ := s
  unfold wv wcs sv
  unfold wcs encT enB at hmu
  dsimp only at hmu HS0 f1 f2 f3 hk2 hn1 hn3 hab HL1 HL3 ⊢
  generalize hsl : d.sl = sl at *
  go_enter Try.func74, Try.ntmps74
  go_upto_region 2 with (fail)
  clear hmu hmm
  have HF := HS0
  have HM : Hid (∀ q, q ∈ [((0 : Int), a0)] ↔ kyA d ⟨k, a0, p, q0, t⟩ 0 q) := Lib.hid (fun q => by rw [kyA_zero]; simp)
  generalize [((0 : Int), a0)] = l0 at *
  obtain ⟨k0, k1, k3, g0, g1, g2, g3⟩ := HF.out.all
  dsimp only at k0 k1 k3 g0 g1 g2 g3
  go_wp2_with fail
  clear k0 k1 k3 g0 g1 g2 g3
  go_loopg [18] n3 (fun kx i wr => ∃ (j : Nat) (l : List (Int × Int)), kx = n3 - j ∧ j ≤ n3 ∧ i = .int .i64 (j : Int) ∧ Hid (TOS w d ⟨A1, n1, c1, A2, n2, c2, A3, n3, c3⟩ ⟨k, a0, p, q0, t⟩ l wr) ∧ Hid (∀ q, q ∈ l ↔ kyA d ⟨k, a0, p, q0, t⟩ j q))
  case atStart => exact ⟨0, _, by omega, Nat.zero_le _, rfl, HF, HM⟩
  case round =>
    clear HF HM
    obtain ⟨j, l, hgk, hj, rfl, HF, HM⟩ := hrel
    have HGK := Lib.hid hgk; clear hgk
    by_cases hlt : j < n3
    · obtain ⟨x, hx⟩ := get_of_lt HL3.out hlt
      obtain ⟨b, off, hA, hb, hcc⟩ := HH.out.i3 j x hx
      dsimp only at hA
      subst hA
      have HX := Lib.hid hx
      clear hx
      have sx := (HF.out.bel.cell (p := ⟨b, off + j, none⟩) hb).trans hcc
      clear hcc hb
      have i1 : (0 : Int) ≤ (j : Int) := by omega
      have i2 : (j : Int) < (n3 : Int) := by omega
      obtain ⟨k0, k1, k3, g0, g1, g2, g3⟩ := HF.out.all
      dsimp only at k0 k1 k3 g0 g1 g2 g3
      by_cases h1 : (j : Int) = a0
      · have q1 : ((j : Int) == a0) = true := by simp [h1]
        by_cases h2 : 0 ≤ x
        · have q2 : decide (0 ≤ x) = true := by simp [h2]
          by_cases h3 : k = 0
          · have q3 : (k == 0) = true := by simp [h3]
            have HM2 := Lib.hid (memP1 HM.out (kyA_yes (s := ⟨k, a0, p, q0, t⟩) HX.out ⟨h1, h3, h2⟩))
            clear h1 h2 h3
            go_upto_region 7 with (at_mapUpdate; refine wpList_set_put _ rfl _ _ _ 101 rfl klaw_th Try.underlying101 HF.out.set (2, x) rfl rfl rfl ?_; intro w3 hs3 hg3 hz3)
            have HF3 := Lib.hid (HF.out.put hs3 hg3)
            clear hs3 hg3 hz3 HF
            have HF := HF3
            clear HF3
            go_wp2_with fail
            go_roundg (n3 - (j + 1))
            case measure => rw [HGK.out]; omega
            case rel => exact ⟨j + 1, _, rfl, by omega, by go_num, HF, HM2⟩
          · have q3 : (k == 0) = false := by simp [h3]
            have HM2 := Lib.hid (memP0 HM.out (kyA_no (s := ⟨k, a0, p, q0, t⟩) HX.out (fun h9 => h3 h9.2.1)))
            clear h1 h2 h3
            go_wp2_with fail
            go_roundg (n3 - (j + 1))
            case measure => rw [HGK.out]; omega
            case rel => exact ⟨j + 1, _, rfl, by omega, by go_num, HF, HM2⟩
        · have q2 : decide (0 ≤ x) = false := by simp; omega
          have q4 : ¬ (0 ≤ x) := h2
          have HM2 := Lib.hid (memP0 HM.out (kyA_no (s := ⟨k, a0, p, q0, t⟩) HX.out (fun h9 => h2 h9.2.2)))
          clear h1 h2
          go_wp2_with fail
          go_roundg (n3 - (j + 1))
          case measure => rw [HGK.out]; omega
          case rel => exact ⟨j + 1, _, rfl, by omega, by go_num, HF, HM2⟩
      · have q1 : ((j : Int) == a0) = false := by simp [h1]
        have HM2 := Lib.hid (memP0 HM.out (kyA_no (s := ⟨k, a0, p, q0, t⟩) HX.out (fun h9 => h1 h9.1)))
        clear h1
        go_wp2_with fail
        go_roundg (n3 - (j + 1))
        case measure => rw [HGK.out]; omega
        case rel => exact ⟨j + 1, _, rfl, by omega, by go_num, HF, HM2⟩
    · obtain rfl : j = n3 := by omega
      clear hlt
      have HM2 : Hid (∀ q, q ∈ l ↔ kyB d ⟨k, a0, p, q0, t⟩ j 0 q) := Lib.hid (memP0 HM.out (fun q => kyB_zero))
      clear HM
      have HM := HM2
      clear HM2
      obtain ⟨k0, k1, k3, g0, g1, g2, g3⟩ := HF.out.all
      dsimp only at k0 k1 k3 g0 g1 g2 g3
      go_wp2_with fail
      clear k0 k1 k3 g0 g1 g2 g3
      go_loopg [43] n1 (fun kx i wr => ∃ (m : Nat) (l : List (Int × Int)), kx = n1 - m ∧ m ≤ n1 ∧ i = .int .i64 (m : Int) ∧ Hid (TOS w d ⟨A1, n1, c1, A2, n2, c2, A3, j, c3⟩ ⟨k, a0, p, q0, t⟩ l wr) ∧ Hid (∀ q, q ∈ l ↔ kyB d ⟨k, a0, p, q0, t⟩ j m q))
      case atStart => exact ⟨0, _, by omega, Nat.zero_le _, rfl, HF, HM⟩
      case round =>
        clear HF HM
        obtain ⟨m, l, hgk, hj, rfl, HF, HM⟩ := hrel
        have HGK := Lib.hid hgk; clear hgk
        by_cases hlt : m < n1
        · obtain ⟨x, hx⟩ := get_of_lt HL1.out hlt
          obtain ⟨b, off, hA, hb, hcc⟩ := HH.out.i1 m x hx
          dsimp only at hA
          subst hA
          have HX := Lib.hid hx
          clear hx
          have sx := (HF.out.bel.cell (p := ⟨b, off + m, none⟩) hb).trans hcc
          clear hcc hb
          have i1 : (0 : Int) ≤ (m : Int) := by omega
          have i2 : (m : Int) < (n1 : Int) := by omega
          have w8 := i64_w (8 + (m : Int)) (by omega) (by omega)
          have w2 := i64_w (-2 - a0) (by omega) (by omega)
          obtain ⟨k0, k1, k3, g0, g1, g2, g3⟩ := HF.out.all
          dsimp only at k0 k1 k3 g0 g1 g2 g3
          by_cases h1 : (m : Int) = p
          · have q1 : ((m : Int) == p) = true := by simp [h1]
            have h2 : k ≠ 2 := fun h9 => by have := hk2 h9; omega
            have q2 : (k == 2) = false := by simp [h2]
            rcases (show x < -1 ∨ x = -1 ∨ 0 ≤ x from by omega) with h3 | h3 | h3
            · have q3 : (x == -1) = false := by simp; omega
              have q4 : decide (0 ≤ x) = false := by simp; omega
              have q5 : ¬ (0 ≤ x) := by omega
              have HM2 := Lib.hid (memP1 HM.out (fun q => (kyB_succ (s := ⟨k, a0, p, q0, t⟩) HX.out q).trans (or_congr_right (kyN_arm (s := ⟨k, a0, p, q0, t⟩) h1 h2 h3 q))))
              clear h1 h2 h3
              go_upto_region 13 with (at_mapUpdate; refine wpList_set_put _ rfl _ _ _ 101 rfl klaw_th Try.underlying101 HF.out.set (1, (m : Int)) rfl rfl rfl ?_; intro w3 hs3 hg3 hz3)
              have HF3 := Lib.hid (HF.out.put hs3 hg3)
              clear hs3 hg3 hz3 HF
              have HF := HF3
              clear HF3
              clear k0 k1 k3 g0 g1 g2 g3
              obtain ⟨k0, k1, k3, g0, g1, g2, g3⟩ := HF.out.all
              dsimp only at k0 k1 k3 g0 g1 g2 g3
              go_wp2_with fail
              go_roundg (n1 - (m + 1))
              case measure => rw [HGK.out]; omega
              case rel => exact ⟨m + 1, _, rfl, by omega, by go_num, HF, HM2⟩
            · have q3 : (x == -1) = true := by simp [h3]
              have HM2 := Lib.hid (memP2 HM.out (fun q => (kyB_succ (s := ⟨k, a0, p, q0, t⟩) HX.out q).trans (or_congr_right (kyN_free (s := ⟨k, a0, p, q0, t⟩) h1 h2 h3 q))))
              clear h1 h2
              go_upto_region 13 with (at_mapUpdate; refine wpList_set_put _ rfl _ _ _ 101 rfl klaw_th Try.underlying101 HF.out.set (1, (m : Int)) rfl rfl rfl ?_; intro w3 hs3 hg3 hz3)
              have HF3 := Lib.hid (HF.out.put hs3 hg3)
              clear hs3 hg3 hz3 HF
              have HF := HF3
              clear HF3
              clear k0 k1 k3 g0 g1 g2 g3
              obtain ⟨k0, k1, k3, g0, g1, g2, g3⟩ := HF.out.all
              dsimp only at k0 k1 k3 g0 g1 g2 g3
              go_upto_region 17 with (at_mapUpdate; refine wpList_set_put _ rfl _ _ _ 101 rfl klaw_th Try.underlying101 HF.out.set (2, 8 + (m : Int)) rfl rfl rfl ?_; intro w3 hs3 hg3 hz3)
              have HF3 := Lib.hid (HF.out.put hs3 hg3)
              clear hs3 hg3 hz3 HF
              have HF := HF3
              clear HF3
              clear k0 k1 k3 g0 g1 g2 g3
              obtain ⟨k0, k1, k3, g0, g1, g2, g3⟩ := HF.out.all
              dsimp only at k0 k1 k3 g0 g1 g2 g3
              go_wp2_with fail
              go_roundg (n1 - (m + 1))
              case measure => rw [HGK.out]; omega
              case rel => exact ⟨m + 1, _, rfl, by omega, by go_num, HF, HM2⟩
            · have q3 : (x == -1) = false := by simp; omega
              have q4 : decide (0 ≤ x) = true := by simp [h3]
              have HM2 := Lib.hid (memP2 HM.out (fun q => (kyB_succ (s := ⟨k, a0, p, q0, t⟩) HX.out q).trans (or_congr_right (kyN_slot (s := ⟨k, a0, p, q0, t⟩) h1 h2 h3 q))))
              clear h1 h2
              go_upto_region 13 with (at_mapUpdate; refine wpList_set_put _ rfl _ _ _ 101 rfl klaw_th Try.underlying101 HF.out.set (1, (m : Int)) rfl rfl rfl ?_; intro w3 hs3 hg3 hz3)
              have HF3 := Lib.hid (HF.out.put hs3 hg3)
              clear hs3 hg3 hz3 HF
              have HF := HF3
              clear HF3
              clear k0 k1 k3 g0 g1 g2 g3
              obtain ⟨k0, k1, k3, g0, g1, g2, g3⟩ := HF.out.all
              dsimp only at k0 k1 k3 g0 g1 g2 g3
              go_upto_region 17 with (at_mapUpdate; refine wpList_set_put _ rfl _ _ _ 101 rfl klaw_th Try.underlying101 HF.out.set (2, x) rfl rfl rfl ?_; intro w3 hs3 hg3 hz3)
              have HF3 := Lib.hid (HF.out.put hs3 hg3)
              clear hs3 hg3 hz3 HF
              have HF := HF3
              clear HF3
              clear k0 k1 k3 g0 g1 g2 g3
              obtain ⟨k0, k1, k3, g0, g1, g2, g3⟩ := HF.out.all
              dsimp only at k0 k1 k3 g0 g1 g2 g3
              go_wp2_with fail
              go_roundg (n1 - (m + 1))
              case measure => rw [HGK.out]; omega
              case rel => exact ⟨m + 1, _, rfl, by omega, by go_num, HF, HM2⟩
          · have q1 : ((m : Int) == p) = false := by simp [h1]
            by_cases h2 : k = 2
            · have q2 : (k == 2) = true := by simp [h2]
              by_cases h3 : x = -2 - a0
              · have q3 : (x == -2 - a0) = true := by simp [h3]
                have HM2 := Lib.hid (memP1 HM.out (fun q => (kyB_succ (s := ⟨k, a0, p, q0, t⟩) HX.out q).trans (or_congr_right (kyN_held (s := ⟨k, a0, p, q0, t⟩) h1 ⟨h2, h3⟩ q))))
                clear h1 h2 h3
                go_upto_region 19 with (at_mapUpdate; refine wpList_set_put _ rfl _ _ _ 101 rfl klaw_th Try.underlying101 HF.out.set (1, (m : Int)) rfl rfl rfl ?_; intro w3 hs3 hg3 hz3)
                have HF3 := Lib.hid (HF.out.put hs3 hg3)
                clear hs3 hg3 hz3 HF
                have HF := HF3
                clear HF3
                clear k0 k1 k3 g0 g1 g2 g3
                go_wp2_with fail
                go_roundg (n1 - (m + 1))
                case measure => rw [HGK.out]; omega
                case rel => exact ⟨m + 1, _, rfl, by omega, by go_num, HF, HM2⟩
              · have q3 : (x == -2 - a0) = false := by simp; omega
                have HM2 := Lib.hid (memP0 HM.out (fun q => ((kyB_succ (s := ⟨k, a0, p, q0, t⟩) HX.out q).trans (or_congr_right (kyN_no (s := ⟨k, a0, p, q0, t⟩) h1 (fun h9 => h3 h9.2) q))).trans (or_iff_left id)))
                clear h1 h2 h3
                go_wp2_with fail
                go_roundg (n1 - (m + 1))
                case measure => rw [HGK.out]; omega
                case rel => exact ⟨m + 1, _, rfl, by omega, by go_num, HF, HM2⟩
            · have q2 : (k == 2) = false := by simp [h2]
              have HM2 := Lib.hid (memP0 HM.out (fun q => ((kyB_succ (s := ⟨k, a0, p, q0, t⟩) HX.out q).trans (or_congr_right (kyN_no (s := ⟨k, a0, p, q0, t⟩) h1 (fun h9 => h2 h9.1) q))).trans (or_iff_left id)))
              clear h1 h2
              go_wp2_with fail
              go_roundg (n1 - (m + 1))
              case measure => rw [HGK.out]; omega
              case rel => exact ⟨m + 1, _, rfl, by omega, by go_num, HF, HM2⟩
        · obtain rfl : m = n1 := by omega
          clear hlt
          obtain ⟨k0, k1, k3, g0, g1, g2, g3⟩ := HF.out.all
          dsimp only at k0 k1 k3 g0 g1 g2 g3
          by_cases h1 : 0 ≤ q0
          · have q1 : decide (0 ≤ q0) = true := by simp [h1]
            have HM2 : Hid (∀ q, q ∈ sput l (2, q0) ↔ kyC d ⟨k, a0, p, q0, t⟩ q) := Lib.hid (memP1 HM.out (fun q => by unfold kyC; rw [HL1.out, HL3.out]; simp [h1]))
            go_wp2_with (at_mapUpdate; refine wpList_set_put _ rfl _ _ _ 101 rfl klaw_th Try.underlying101 HF.out.set (2, q0) rfl rfl rfl ?_; intro w3 hs3 hg3 hz3)
            go_ret
            exact ⟨_, _, rfl, hs3, (HF.out.put hs3 hg3).nd, HM2.out, (HF.out.put hs3 hg3).bel, by omega⟩
          · have q1 : decide (0 ≤ q0) = false := by simp; omega
            have q2 : ¬ (0 ≤ q0) := h1
            have HM2 : Hid (∀ q, q ∈ l ↔ kyC d ⟨k, a0, p, q0, t⟩ q) := Lib.hid (memP0 HM.out (fun q => by unfold kyC; rw [HL1.out, HL3.out]; simp [h1]))
            go_wp2_with fail
            go_ret
            exact ⟨_, _, rfl, HF.out.set, HF.out.nd, HM2.out, HF.out.bel, by omega⟩
end Go.Proofs.Ytnaiflokmihmeaa
