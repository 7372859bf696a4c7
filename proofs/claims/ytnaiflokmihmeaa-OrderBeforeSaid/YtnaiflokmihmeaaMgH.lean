/- Facts as keys of maps. -/
/- Facts: FactsOf (reference). -/
/- Facts: FactsOf (reference): the walk. -/
import Derived.Test.YtnaiflokmihmeaaMgG
import Derived.Test.YtnaiflokmihmeaaMgC
import Derived.Laws.MakeOwn
import Derived.Deep.DeepCutAuto
import Derived.Test.YtnaiflokmihmeaaMgE
namespace Go.Proofs.Ytnaiflokmihmeaa
open Go.RowKit
set_option linter.unusedVariables false
set_option linter.unusedSimpArgs false

theorem checkF (e : Bool) (x y z : Int) (w : World) : (Instr.checkKey e 10000 45 (.agg #[.int .i64 x, .int .i64 y, .int .i64 z])).run Try.prog w = .ok () w := by kernel_rfl
theorem equalF (f g : Ft) (w : World) : (Op.equal 45 (valF f) (valF g)).run Try.prog w = .ok (decide (f = g)) w := equal_ft _ _ _ _ _ _ rfl w
theorem klaw_ft : KLaw Try.prog 45 valF := by
  refine ⟨fun e a w => checkF e _ _ _ w, fun en es l hl a w => ?_, fun a w => ?_⟩
  · have key : ∀ (es : List MapEntry) (l : List (Ft × _)) (i : Nat) (all : List MapEntry), es.map (fun e => (e.key, e.val)) = l.map (fun p => (valF p.1, en p.2)) → (∀ j, all[i + j]? = es[j]?) →
        (Instr.findAsking 45 (valF a) es i).run Try.prog w = .ok ((afind l a i).map fun i => (i, ((all[i]?).map (·.val)).getD undef)) w := by
      intro es
      induction es with
      | nil =>
        intro l i all hl _
        cases l with
        | nil => rfl
        | cons p r => simp at hl
      | cons x es ih =>
        intro l i all hl hall
        cases l with
        | nil => simp at hl
        | cons p r =>
          simp only [List.map_cons, List.cons.injEq, Prod.mk.injEq] at hl
          obtain ⟨⟨h1, h2⟩, h3⟩ := hl
          have h0 := hall 0
          simp only [Nat.add_zero, List.getElem?_cons_zero] at h0
          rw [Instr.findAsking, h1]
          simp only [Sem.run_bind, equalF, Result.andThen_ok]
          by_cases hap : a = p.1
          · simp [hap, afind, h0]
          · simp only [hap, decide_false, Bool.false_eq_true, if_false, afind]
            exact ih r (i + 1) all h3 (fun j => by have := hall (j + 1); rw [show i + 1 + j = i + (j + 1) by omega]; simpa using this)
    have hnow : es = [] ∨ Instr.findNow (.struct #[{ name := "Kind", type := 3, offset := 0, embedded := false, tag := "", pkgPath := "", byteOffset := 0 }]) (valF a) es 0 = none := by
      cases es with
      | nil => exact .inl rfl
      | cons x r => exact .inr rfl
    unfold Instr.findKey
    rw [Sem.run_bind, run_underlying Try.underlying45 w]
    simp only [Result.andThen_ok]
    cases es with
    | nil =>
      cases l with
      | nil => rfl
      | cons p r => simp at hl
    | cons x r =>
      show (Instr.findAsking 45 (valF a) (x :: r) 0).run Try.prog w = _
      exact key (x :: r) l 0 (x :: r) hl (fun j => by rw [Nat.zero_add])
  · simp [Instr.keyThatStays, Instr.sameBits, valF]
theorem zB (w : World) : (zeroValue 4).run Try.prog w = .ok (.bool false) w := by kernel_rfl
end Go.Proofs.Ytnaiflokmihmeaa

namespace Go.Proofs.Ytnaiflokmihmeaa
open Go.RowKit
set_option linter.unusedVariables false
set_option linter.unusedSimpArgs false

/-! ### the plain law -/
def rank (s : List Ft) (f : Ft) : Nat := (s.filter fun g => decide (FLt g f)).length
theorem rank_lt {s : List Ft} {f : Ft} (h : f ∈ s) : rank s f < s.length := by
  unfold rank
  rcases Nat.lt_or_ge (s.filter fun g => decide (FLt g f)).length s.length with h1 | h1
  · exact h1
  · have h2 := List.length_filter_eq_length_iff.1 (Nat.le_antisymm (List.length_filter_le _ _) h1)
    have := h2 f h
    simp at this
    exact absurd this (flt_irrefl f)
theorem rank_perm {s r : List Ft} (h : s.Perm r) (f : Ft) : rank s f = rank r f := (h.filter _).length_eq
theorem rank_asc : ∀ {r : List Ft} {i : Nat} {f : Ft}, Asc r → r[i]? = some f → rank r f = i
  | [], _, _, _, h => by simp at h
  | x :: r, 0, f, ha, h => by
    simp at h; subst h
    have ha' := List.pairwise_cons.1 ha
    unfold rank
    rw [List.length_eq_zero_iff, List.filter_eq_nil_iff]
    intro y hy
    simp only [decide_eq_true_eq]
    rcases List.mem_cons.1 hy with rfl | hy
    · exact flt_irrefl _
    · exact fun h2 => flt_irrefl _ (flt_trans h2 (ha'.1 y hy))
  | x :: r, i + 1, f, ha, h => by
    have ha' := List.pairwise_cons.1 ha
    simp at h
    have hx := ha'.1 f (List.mem_of_getElem? h)
    have ih := rank_asc ha'.2 h
    unfold rank at ih ⊢
    rw [List.filter_cons, if_pos (by simpa using hx), List.length_cons, ih]
/-- where each stands at its rank, there stands the ascending list -/
theorem ranked {s r : List Ft} {d : Array Ft} (hp : s.Perm r) (hr : Asc r) (hs : d.size = s.length) (h : ∀ f ∈ s, d[rank s f]! = f) : d.toList = r := by
  apply List.ext_getElem?
  intro i
  rcases Nat.lt_or_ge i r.length with hi | hi
  · obtain ⟨f, hf⟩ := get_of_lt rfl hi
    have h1 := h f (hp.mem_iff.2 (List.mem_of_getElem? hf))
    rw [rank_perm hp, rank_asc hr hf] at h1
    have hid : i < d.size := by rw [hs, hp.length_eq]; exact hi
    rw [hf, Array.getElem?_toList, Array.getElem?_eq_getElem hid, ← h1, getElem!_pos d i hid]
  · rw [List.getElem?_eq_none hi, List.getElem?_eq_none (by rw [Array.length_toList, hs, hp.length_eq]; exact hi)]
theorem ofL_perm {l s : List Ft} (hn : s.Nodup) (hm : ∀ x, x ∈ s ↔ x ∈ l ∧ okF x = true) : s.Perm (ofL l) := by
  refine (List.perm_ext_iff_of_nodup hn ?_).2 (fun x => by rw [hm, ofL_mem])
  exact (ofL_asc l).imp (fun {a b} hab e => by subst e; exact flt_irrefl a hab)

/-! ### the walks -/
set_option maxHeartbeats 2000000 in
theorem fless_any (f g : Ft) (w : World) : Calls Try.prog 21 #[valF f, valF g] w fun e w' => e = .returned (.bool (decide (FLt f g))) ∧ Below w.heap.size w w' := by
  have HT := Lib.hid (two_boxes w f g)
  obtain ⟨k, a, b⟩ := f
  obtain ⟨kk, aa, bb⟩ := g
  show Calls Try.prog 21 #[.agg #[.int .i64 k, .int .i64 a, .int .i64 b], .agg #[.int .i64 kk, .int .i64 aa, .int .i64 bb]] w fun e w' => e = .returned (.bool (decide (FLt ⟨k, a, b⟩ ⟨kk, aa, bb⟩))) ∧ Below w.heap.size w w'
  by_cases h1 : k = kk
  · subst h1
    by_cases h2 : a = aa
    · subst h2
      have HV := Lib.hid (show decide (FLt ⟨k, a, b⟩ ⟨k, a, bb⟩) = decide (b < bb) by simp [FLt])
      go_enter Try.func21, Try.ntmps21
      go_wp2_with fail
      go_ret
      exact ⟨by rw [HV.out]; rfl, HT.out.1⟩
    · have HV := Lib.hid (show decide (FLt ⟨k, a, b⟩ ⟨k, aa, bb⟩) = decide (a < aa) by simp [FLt, h2])
      have e2 : (a != aa) = true := by simp [h2]
      clear h2
      go_enter Try.func21, Try.ntmps21
      go_wp2_with fail
      go_ret
      exact ⟨by rw [HV.out]; rfl, HT.out.1⟩
  · have HV := Lib.hid (show decide (FLt ⟨k, a, b⟩ ⟨kk, aa, bb⟩) = decide (k < kk) by simp [FLt, h1])
    have e2 : (k != kk) = true := by simp [h1]
    clear h1
    go_enter Try.func21, Try.ntmps21
    go_wp2_with fail
    go_ret
    exact ⟨by rw [HV.out]; rfl, HT.out.1⟩

theorem made_ft (n : Nat) (hb : 24 * n ≤ 281474976710656) (w : World) :
    ∃ w', (Instr.makeSlice 43 (.int .i64 (n : Int)) (.int .i64 (n : Int))).run Try.prog w = .ok (.slice (some ⟨w.heap.size, 0, none⟩) n n) w' ∧ FBlk w' w.heap.size n (Array.replicate n ⟨0, 0, 0⟩) ∧ Below w.heap.size w w' ∧ w'.heap.size = w.heap.size + 1 := by
  obtain ⟨i, hi, hz, hs, hby⟩ := info_parts infoFt
  have hb' : (i.bytes : Int) * (n : Int) ≤ 281474976710656 := by rw [hby]; omega
  have hr := run_make (P := Try.prog) w 43 45 i _ Try.underlying43 hi hz .i64 .i64 n n (by omega) (by omega) hb' (by omega)
  simp only [Int.toNat_natCast] at hr
  refine ⟨_, hr, ⟨_, Blk.new _ _ _, ?_, by simp, fun t ht => ?_⟩, (Below.refl _ _).alloc (Nat.le_refl _) _, by simp⟩
  · rw [size_madeCells, hs]
  · simp only [Array.size_replicate] at ht
    rw [hs]
    have hd : (Array.replicate n (⟨0, 0, 0⟩ : Ft))[t / 3]! = ⟨0, 0, 0⟩ := by
      rw [getElem!_pos _ _ (by simp; omega)]; simp
    rw [hd]
    have hm : t % 3 = 0 ∨ t % 3 = 1 ∨ t % 3 = 2 := by omega
    rcases hm with hm | hm | hm <;> simp [madeCells, Value.cells, ht, hm, valG]
def FInv (w : World) (b g n : Nat) (s : List Ft) (wr : World) : Prop := SetN valF wr b s ∧ Below w.heap.size w wr ∧ w.heap.size ≤ b
end Go.Proofs.Ytnaiflokmihmeaa

namespace Go.Proofs.Ytnaiflokmihmeaa
open Go.RowKit
set_option linter.unusedVariables false
set_option linter.unusedSimpArgs false

theorem rank_inj {s r : List Ft} (hp : s.Perm r) (hr : Asc r) {f g : Ft} (hf : f ∈ s) (hg : g ∈ s) (h : rank s f = rank s g) : f = g := by
  obtain ⟨i, hi⟩ := List.mem_iff_getElem?.1 (hp.mem_iff.1 hf)
  obtain ⟨j, hj⟩ := List.mem_iff_getElem?.1 (hp.mem_iff.1 hg)
  rw [rank_perm hp, rank_perm hp, rank_asc hr hi, rank_asc hr hj] at h
  subst h
  rw [hi] at hj
  exact Option.some.inj hj
/-- the step of a loop over a set of facts -/
theorem wpList_fset_next {P : Program} (w : World) {ops : Array Oper} {rest : List Oper} {o : Oper} {a : Act} {Q : Exit → Act → World → Prop} (hg : o.guard = none) (it : Operand) (hop : o.op = Op.next it false) {r b : Nat} {left : List Ft} (h : SIter valF w r b left) (hit : a.eval it = .pointer (some ⟨r, 0, none⟩))
    (hDone : left = [] → wpList P ops Q rest (a.put o.dst (.tuple #[.bool false])) w)
    (hMore : ∀ (k x y : Int) (left' : List Ft) (w' : World), left.Perm (⟨k, x, y⟩ :: left') → SIter valF w' r b left' → w.grownBy w' (some r) → w'.heap.size = w.heap.size →
      (Instr.entry (.pointer (some ⟨r, 0, none⟩))).run P w' = .ok (.tuple #[.agg #[.int .i64 k, .int .i64 x, .int .i64 y], .bool true]) w' → wpList P ops Q rest (a.put o.dst (.tuple #[.bool true, .agg #[.int .i64 k, .int .i64 x, .int .i64 y], .bool true])) w') : wpList P ops Q (o :: rest) a w :=
  wpList_set_next w hg it hop h hit hDone fun k left' w' h1 h2 h3 h4 h5 => hMore k.k k.a k.b left' w' h1 h2 h3 h4 h5

/-- what stands while facts are counted -/
structure FJ (w : World) (b g n r1 p1 : Nat) (s left : List Ft) (d : Array Ft) (f : Ft) (wr : World) : Prop where
  set : SetN valF wr b s
  it : SIter valF wr r1 b left
  out : FBlk wr g n d
  box : Blk wr p1 45 (celF f)
  bel : Below w.heap.size w wr
section
variable {w wr w' : World} {b g n r1 p1 r : Nat} {s left : List Ft} {d : Array Ft} {f : Ft}
theorem FJ.next (h : FJ w b g n r1 p1 s left d f wr) (hb : Below wr.heap.size wr w') : FJ w b g n r1 p1 s left d f w' :=
  ⟨h.set.next hb, h.it.next hb, h.out.below hb h.out.lt, h.box.belowB hb, h.bel.trans (hb.mono h.bel.size)⟩
theorem FJ.grown (h : FJ w b g n r1 p1 s left d f wr) (hg : wr.grownBy w' (some r)) (h1 : b < r ∧ r1 < r ∧ g < r ∧ p1 < r ∧ w.heap.size ≤ r) : FJ w b g n r1 p1 s left d f w' := by
  obtain ⟨a1, a2, a3, a4, a5⟩ := h1
  have ne : ∀ x, x < r → some x ≠ some r := fun x hx e => by cases e; omega
  exact ⟨h.set.grown hg (ne _ a1), h.it.grown hg (ne _ a2) (ne _ a1), h.out.next (hg.block g h.out.lt (ne _ a3)), h.box.grown hg (ne _ a4), h.bel.grown hg h.bel.size (fun k hk => by cases hk; exact a5)⟩
end
/-- a slot of the outcome is set -/
theorem FJ.store {w wr : World} {b g n r1 p1 : Nat} {s left : List Ft} {d : Array Ft} {f : Ft} (h : FJ w b g n r1 p1 s left d f wr) {q : Nat} (hq : q < d.size) (hbg : b < g) (hgr : g < r1) (hwg : w.heap.size ≤ g) :
    SetN valF (((wr.setCell ⟨g, q*3, none⟩ (.int .i64 f.k)).setCell ⟨g, q*3+1, none⟩ (.int .i64 f.a)).setCell ⟨g, q*3+2, none⟩ (.int .i64 f.b)) b s ∧
    SIter valF (((wr.setCell ⟨g, q*3, none⟩ (.int .i64 f.k)).setCell ⟨g, q*3+1, none⟩ (.int .i64 f.a)).setCell ⟨g, q*3+2, none⟩ (.int .i64 f.b)) r1 b left ∧
    FBlk (((wr.setCell ⟨g, q*3, none⟩ (.int .i64 f.k)).setCell ⟨g, q*3+1, none⟩ (.int .i64 f.a)).setCell ⟨g, q*3+2, none⟩ (.int .i64 f.b)) g n (d.setIfInBounds q f) ∧
    Below w.heap.size w (((wr.setCell ⟨g, q*3, none⟩ (.int .i64 f.k)).setCell ⟨g, q*3+1, none⟩ (.int .i64 f.a)).setCell ⟨g, q*3+2, none⟩ (.int .i64 f.b)) := by
  have hb : ∀ i, b ≠ (⟨g, i, none⟩ : Addr).block := fun i => by show b ≠ g; omega
  have hr : ∀ i, r1 ≠ (⟨g, i, none⟩ : Addr).block := fun i => by show r1 ≠ g; omega
  exact ⟨((h.set.setCell (hb _) _).setCell (hb _) _).setCell (hb _) _, ((h.it.setCell (hr _) (hb _) _).setCell (hr _) (hb _) _).setCell (hr _) (hb _) _, h.out.store hq f, ((h.bel.setCell hwg _).setCell hwg _).setCell hwg _⟩
theorem set_get {d : Array Ft} {q i : Nat} {f : Ft} (hq : q < d.size) : (d.setIfInBounds q f)[i]! = if q = i then f else d[i]! := by
  by_cases hi : i < d.size
  · rw [getElem!_pos _ i (by simpa using hi), Array.getElem_setIfInBounds (by simpa using hi), getElem!_pos d i hi]
  · rw [if_neg (by omega), getElem!_neg _ i (by simpa using hi), getElem!_neg d i hi]
theorem rank_snoc {done : List Ft} {x f : Ft} : rank (x :: done) f = rank done f + if FLt x f then 1 else 0 := by
  unfold rank
  rw [List.filter_cons]
  by_cases h : FLt x f
  · rw [if_pos (by simpa using h), if_pos h, List.length_cons]
  · rw [if_neg (by simpa using h), if_neg h]; rfl

set_option maxHeartbeats 4000000 in
set_option maxRecDepth 20000 in
theorem factsof_any (l : List Ft) (A : Option Addr) (n c : Nat) (w : World) (hn : n = l.length) (hm : n * 24 ≤ 140737488351232) (h : FactsAt w w.heap.size A l) :
    Calls Try.prog 27 #[.slice A n c] w (OfPost l w) := by
  have HN := Lib.hid hn; clear hn
  have H := Lib.hid h; clear h
  have hm0 : n ≤ 9223372036854775807 := by omega
  have HS0 : Hid (SetN valF (w.alloc (.map #[] 0)) w.heap.size []) := Lib.hid (SetN.made w)
  have HB0 := Lib.hid ((Below.refl w.heap.size w).alloc (Nat.le_refl _) (.map #[] 0))
  have hmm := @run_makeMap Try.prog
  go_enter Try.func27, Try.ntmps27
  go_wp2_with fail
  clear hmm
  generalize World.alloc w _ = w0 at *
  go_loopg [13] n (fun kx i wr => ∃ (j : Nat) (s : List Ft), kx = n - j ∧ j ≤ n ∧ i = .int .i64 j ∧ Hid (SetN valF wr w.heap.size s) ∧ Hid (Below w.heap.size w wr) ∧ Hid (s.Nodup ∧ s.length ≤ j ∧ ∀ x, x ∈ s ↔ x ∈ l.take j ∧ okF x = true))
  case atStart => exact ⟨0, [], by omega, Nat.zero_le _, rfl, HS0.out, HB0.out, Lib.hid ⟨List.nodup_nil, Nat.le_refl _, fun x => by simp⟩⟩
  case round =>
    obtain ⟨j, s, hgk, hj, rfl, hset, hbel, hinv⟩ := hrel
    have HGK := Lib.hid hgk; clear hgk
    by_cases hlt : j < n
    · obtain ⟨⟨fk, fa, fb⟩, hf⟩ := get_of_lt HN.out hlt
      obtain ⟨b', off, rfl, hb, h0, h1, h2⟩ := H.out.three hf
      have g0 := (hbel.out.cell (p := ⟨b', off + j*3, none⟩) hb).trans h0
      have g1 := (hbel.out.cell (p := ⟨b', off + j*3+1, none⟩) hb).trans h1
      have g2 := (hbel.out.cell (p := ⟨b', off + j*3+2, none⟩) hb).trans h2
      dsimp only at g0 g1 g2
      have HF := Lib.hid hf; clear hf h0 h1 h2
      have HV := Lib.hid (fun W => factis_any ⟨fk, fa, fb⟩ W)
      unfold valF at HV
      dsimp only at HV
      go_wp2_with fail
      clear g0 g1 g2
      have HS1 := Lib.hid (hset.out.alloc (.cells #[.int .i64 fk, .int .i64 fa, .int .i64 fb] 45))
      have HL1 := Lib.hid (hbel.out.alloc hbel.out.size (.cells #[.int .i64 fk, .int .i64 fa, .int .i64 fb] 45))
      have HB1 := Lib.hid (Blk.new wr 45 #[.int .i64 fk, .int .i64 fa, .int .i64 fb])
      generalize wr.heap.size = p at *
      generalize World.alloc wr _ = w1 at *
      clear hset hbel
      have k0 := HB1.out.cell 0
      have k1 := HB1.out.cell 1
      have k2 := HB1.out.cell 2
      simp at k0 k1 k2
      have htk : l.take (j+1) = l.take j ++ [⟨fk, fa, fb⟩] := by rw [List.take_add_one, HF.out]; rfl
      cases hok : okF ⟨fk, fa, fb⟩ with
      | false =>
        have HI : Hid (s.Nodup ∧ s.length ≤ j + 1 ∧ ∀ x, x ∈ s ↔ x ∈ l.take (j+1) ∧ okF x = true) := Lib.hid ⟨hinv.out.1, by have := hinv.out.2.1; omega, fun x => by
          rw [hinv.out.2.2 x, htk, List.mem_append]
          constructor
          · rintro ⟨h1, h2⟩; exact ⟨.inl h1, h2⟩
          · rintro ⟨h1 | h1, h2⟩
            · exact ⟨h1, h2⟩
            · simp at h1; subst h1; rw [hok] at h2; cases h2⟩
        rw [hok] at HV
        clear hok htk
        go_wp2_with fail
        refine (HV.out _).mono ?_
        rintro e w2 ⟨rfl, hb2⟩
        have HS2 := Lib.hid (HS1.out.next hb2)
        have HL2 := Lib.hid (HL1.out.trans (hb2.mono HL1.out.size)); clear hb2
        go_wp2_with fail
        go_roundg (n - (j + 1))
        case measure => rw [HGK.out]; omega
        case rel => exact ⟨j+1, s, rfl, hlt, by go_num, HS2.out, HL2.out, HI.out⟩
      | true =>
        have HI : Hid ((sput s ⟨fk, fa, fb⟩).Nodup ∧ (sput s ⟨fk, fa, fb⟩).length ≤ j + 1 ∧ ∀ x, x ∈ sput s ⟨fk, fa, fb⟩ ↔ x ∈ l.take (j+1) ∧ okF x = true) := Lib.hid ⟨sput_nodup hinv.out.1, by have := hinv.out.2.1; have := sput_len s ⟨fk, fa, fb⟩; omega, fun x => by
          rw [sput_mem, hinv.out.2.2 x, htk, List.mem_append]
          constructor
          · rintro (⟨h1, h2⟩ | rfl)
            · exact ⟨.inl h1, h2⟩
            · exact ⟨.inr (by simp), hok⟩
          · rintro ⟨h1 | h1, h2⟩
            · exact .inl ⟨h1, h2⟩
            · simp at h1; exact .inr h1⟩
        rw [hok] at HV
        clear hok htk
        go_wp2_with fail
        refine (HV.out _).mono ?_
        rintro e w2 ⟨rfl, hb2⟩
        have HS2 := Lib.hid (HS1.out.next hb2)
        have HL2 := Lib.hid (HL1.out.trans (hb2.mono HL1.out.size))
        have HB2 := Lib.hid (HB1.out.belowB hb2); clear hb2 k0 k1 k2
        have k0 := HB2.out.cell 0
        have k1 := HB2.out.cell 1
        have k2 := HB2.out.cell 2
        simp at k0 k1 k2
        go_wp2_with (at_mapUpdate; refine wpList_set_put _ rfl _ _ _ 96 rfl klaw_ft Try.underlying96 HS2.out ⟨fk, fa, fb⟩ rfl rfl rfl ?_; intro w3 hs3 hg3 hz3)
        have HL3 := Lib.hid (HL2.out.grown hg3 HL2.out.size (fun k hk => by cases hk; exact Nat.le_refl _))
        go_roundg (n - (j + 1))
        case measure => rw [HGK.out]; omega
        case rel => exact ⟨j+1, _, rfl, hlt, by go_num, hs3, HL3.out, HI.out⟩
    · obtain rfl : j = n := by omega
      have HP : Hid (s.Perm (ofL l)) := Lib.hid (ofL_perm hinv.out.1 (fun x => by rw [hinv.out.2.2 x, HN.out, List.take_length]))
      have hsl := hinv.out.2.1
      clear hinv
      obtain ⟨wm, hmk, hfb, hbm, hzm⟩ := made_ft s.length (by omega) wr
      have HSL := Lib.hid (rfl : s.length = s.length)
      generalize hsn : s.length = m2 at hmk hfb hsl
      have HSN := Lib.hid hsn; clear hsn HSL
      have HSM := Lib.hid (hset.out.next hbm)
      have HLM := Lib.hid (hbel.out.trans (hbm.mono hbel.out.size))
      have HFB := Lib.hid hfb
      have hbg : w.heap.size < wr.heap.size := hset.out.lt
      have HZM := Lib.hid hzm
      clear hfb hbm hzm
      go_wp2_with (first
        | (at_len; refine wpList_set_len _ rfl _ 96 rfl Try.underlying96 hset.out rfl ?_; rw [HSN.out])
        | (at_range; refine wpList_set_range _ rfl _ 96 rfl Try.underlying96 HSM.out rfl ?_; intro w4 hi4 hb4 hz4))
      rw [HZM.out] at hz4 hi4 hb4 ⊢
      generalize hgg : wr.heap.size = g at *
      go_frame
      have HF4 := Lib.hid (HFB.out.below hb4 (Nat.lt_succ_self g))
      have HS4 := Lib.hid (HSM.out.next (by rw [HZM.out]; exact hb4))
      have HL4 := Lib.hid (HLM.out.trans (hb4.mono (by omega)))
      clear hb4 hz4 hset hbel HFB HSM HLM hgg
      have HI4 := Lib.hid hi4; clear hi4
      go_loopg [8] m2 (fun k _ wr => ∃ (left done : List Ft) (d : Array Ft), k = left.length ∧ Hid (s.Perm (done ++ left)) ∧ Hid (SetN valF wr w.heap.size s ∧ SIter valF wr (g + 1) w.heap.size left ∧ FBlk wr g m2 d ∧ Below w.heap.size w wr) ∧ Hid (d.size = m2 ∧ ∀ f ∈ done, d[rank s f]! = f))
      case atStart => exact ⟨s, [], _, HSN.out.symm, Lib.hid (List.Perm.refl _), Lib.hid ⟨HS4.out, HI4.out, HF4.out, HL4.out⟩, Lib.hid ⟨by simp, fun f hf => by simp at hf⟩⟩
      case round =>
        obtain ⟨left, done, d, hgk2, hperm, hall, hd⟩ := hrel
        have HGK2 := Lib.hid hgk2; clear hgk2
        go_wp2_with (at_next; refine wpList_fset_next _ rfl _ rfl hall.out.2.1 rfl ?_ ?_)
        · intro hl0
          have hp0 : s.Perm done := by have := hperm.out; rw [hl0, List.append_nil] at this; exact this
          have hE : d.toList = ofL l := ranked HP.out (ofL_asc l) (by rw [hd.out.1, HSN.out]) (fun f hf => hd.out.2 f (hp0.mem_iff.1 hf))
          have HLE : Hid ((ofL l).length = m2) := Lib.hid (by rw [← hE, Array.length_toList]; exact hd.out.1)
          have HFA : Hid (FactsAt wr wr.heap.size (some ⟨g, 0, none⟩) (ofL l)) := Lib.hid (by rw [← hE]; exact hall.out.2.2.1.factsAll)
          clear hE hp0 hl0
          go_wp2_with fail
          go_ret
          exact ⟨_, _, by rw [HLE.out]; rfl, by rw [HLE.out]; exact Nat.le_refl _, by unfold maxLen; omega, HFA.out, hall.out.2.2.2⟩
        · intro fk fa fb left' w5 hp5 hi5 hg5 hz5 hen
          have hr1 : g + 1 < w5.heap.size := by rw [hz5]; exact hall.out.2.1.lt.1
          have hJ0 : SetN valF w5 w.heap.size s ∧ FBlk w5 g m2 d ∧ Below w.heap.size w w5 :=
            ⟨hall.out.1.grown hg5 (fun e => by injection e with e; omega), hall.out.2.2.1.next (hg5.block g hall.out.2.2.1.lt (fun e => by injection e with e; omega)), hall.out.2.2.2.grown hg5 hall.out.2.2.2.size (fun k hk => by cases hk; omega)⟩
          have hbx : Below w5.heap.size w5 (w5.alloc (.cells #[.int .i64 fk, .int .i64 fa, .int .i64 fb] 45)) := (Below.refl _ _).alloc (Nat.le_refl _) _
          have HJ6 : Hid (FJ w w.heap.size g m2 (g + 1) w5.heap.size s left' d ⟨fk, fa, fb⟩ (w5.alloc (.cells #[.int .i64 fk, .int .i64 fa, .int .i64 fb] 45))) :=
            Lib.hid ⟨hJ0.1.next hbx, hi5.next hbx, hJ0.2.1.below hbx hJ0.2.1.lt, Blk.new _ _ _, hJ0.2.2.alloc hJ0.2.2.size _⟩
          have HZ6 : Hid ((w5.alloc (.cells #[.int .i64 fk, .int .i64 fa, .int .i64 fb] 45)).heap.size = w5.heap.size + 1) := Lib.hid (by simp)
          have HP5 := Lib.hid hp5
          have hFs : (⟨fk, fa, fb⟩ : Ft) ∈ s := hperm.out.mem_iff.2 (List.mem_append.2 (.inr (hp5.mem_iff.2 (by simp))))
          have hqm : rank s ⟨fk, fa, fb⟩ < m2 := by rw [← HSN.out]; exact rank_lt hFs
          have HFS := Lib.hid hFs
          clear hp5 hi5 hg5 hJ0 hbx hFs hz5
          go_wp2_with (at_range; refine wpList_set_range _ rfl _ 96 rfl Try.underlying96 HJ6.out.set rfl ?_; intro w7 hi7 hb7 hz7)
          rw [HZ6.out] at hi7 hb7 hz7 ⊢
          have HJ7 := Lib.hid (HJ6.out.next (by rw [HZ6.out]; exact hb7))
          have HI7 := Lib.hid hi7
          clear hen hi7 hb7 hz7 HJ6 HZ6 hall
          generalize w5.heap.size = p1 at *
          go_frame
          go_loopg [8] m2 (fun k s8 wr => ∃ (left2 done2 : List Ft), k = left2.length ∧ s8 = .int .i64 (rank done2 ⟨fk, fa, fb⟩ : Nat) ∧ Hid (s.Perm (done2 ++ left2)) ∧ Hid (FJ w w.heap.size g m2 (g + 1) p1 s left' d ⟨fk, fa, fb⟩ wr ∧ SIter valF wr (p1 + 1) w.heap.size left2))
          case atStart => exact ⟨s, [], HSN.out.symm, rfl, Lib.hid (List.Perm.refl _), Lib.hid ⟨HJ7.out, HI7.out⟩⟩
          case round =>
            obtain ⟨left2, done2, hgk3, rfl, hperm2, hj⟩ := hrel
            have HGK3 := Lib.hid hgk3; clear hgk3
            have hrk : rank done2 ⟨fk, fa, fb⟩ ≤ done2.length := List.length_filter_le _ _
            have hdl : done2.length ≤ m2 := by have := hperm2.out.length_eq; rw [HSN.out, List.length_append] at this; omega
            go_wp2_with (at_next; refine wpList_fset_next _ rfl _ rfl hj.out.2 rfl ?_ ?_)
            · intro hl0
              have hp0 : s.Perm done2 := by have := hperm2.out; rw [hl0, List.append_nil] at this; exact this
              rw [← rank_perm hp0] at hrk ⊢
              have hqd : rank s ⟨fk, fa, fb⟩ < d.size := by rw [hd.out.1]; exact hqm
              have HST := Lib.hid (hj.out.1.store hqd (by omega) (Nat.lt_succ_self g) (by omega))
              have HD2 : Hid ((d.setIfInBounds (rank s ⟨fk, fa, fb⟩) ⟨fk, fa, fb⟩).size = m2 ∧ ∀ f ∈ (⟨fk, fa, fb⟩ : Ft) :: done, (d.setIfInBounds (rank s ⟨fk, fa, fb⟩) ⟨fk, fa, fb⟩)[rank s f]! = f) := Lib.hid ⟨by simpa using hd.out.1, fun f hf => by
                rw [set_get hqd]
                by_cases he : rank s ⟨fk, fa, fb⟩ = rank s f
                · have hfs : f ∈ s := by
                    rcases List.mem_cons.1 hf with rfl | hf
                    · exact HFS.out
                    · exact hperm.out.mem_iff.2 (List.mem_append.2 (.inl hf))
                  rw [if_pos he]
                  exact rank_inj HP.out (ofL_asc l) HFS.out hfs he
                · rw [if_neg he]
                  rcases List.mem_cons.1 hf with rfl | hf
                  · exact absurd rfl he
                  · exact hd.out.2 f hf⟩
              have HPE : Hid (s.Perm (((⟨fk, fa, fb⟩ : Ft) :: done) ++ left')) := Lib.hid (hperm.out.trans ((HP5.out.append_left done).trans List.perm_middle))
              have k0 := hj.out.1.box.cell 0
              have k1 := hj.out.1.box.cell 1
              have k2 := hj.out.1.box.cell 2
              simp at k0 k1 k2
              obtain ⟨o0, o1, o2⟩ := hj.out.1.out.cells hqd
              have f0 := hj.out.1.out.frozen (rank s ⟨fk, fa, fb⟩ * 3)
              have f1 := hj.out.1.out.frozen (rank s ⟨fk, fa, fb⟩ * 3 + 1)
              have f2 := hj.out.1.out.frozen (rank s ⟨fk, fa, fb⟩ * 3 + 2)
              generalize rank s ⟨fk, fa, fb⟩ = q at *
              generalize d[q]! = old at o0 o1 o2
              have hlen : left.length = left'.length + 1 := by have := HP5.out.length_eq; simpa using this
              clear hp0 hl0 hqd
              go_wp2_with fail
              go_roundg left'.length
              case measure => rw [HGK2.out]; omega
              case rel => exact ⟨left', _, _, rfl, HPE.out, ⟨HST.out.1, HST.out.2.1, HST.out.2.2.1, HST.out.2.2.2⟩, HD2.out⟩
            · intro gk' ga' gb' left2' w8 hp8 hi8 hg8 hz8 hen8
              have hr2 : p1 + 1 < w8.heap.size := by rw [hz8]; exact hj.out.2.lt.1
              have hj8 := hj.out.1.grown hg8 ⟨by omega, by omega, by omega, by omega, by omega⟩
              have hbx : Below w8.heap.size w8 (w8.alloc (.cells #[.int .i64 gk', .int .i64 ga', .int .i64 gb'] 45)) := (Below.refl _ _).alloc (Nat.le_refl _) _
              have HJ9 := Lib.hid (hj8.next hbx)
              have HI9 := Lib.hid (hi8.next hbx)
              have HB9 := Lib.hid (Blk.new w8 45 #[.int .i64 gk', .int .i64 ga', .int .i64 gb'])
              have HP8 : Hid (s.Perm (((⟨gk', ga', gb'⟩ : Ft) :: done2) ++ left2')) := Lib.hid (hperm2.out.trans ((hp8.append_left done2).trans List.perm_middle))
              have hlen : left2.length = left2'.length + 1 := by have := hp8.length_eq; simpa using this
              have HLN := Lib.hid hlen
              have hd1 : rank done2 ⟨fk, fa, fb⟩ + 1 ≤ m2 := by
                have := hperm2.out.length_eq; rw [HSN.out, List.length_append] at this; omega
              clear hj8 hbx hi8 hp8 hg8 hz8 hlen
              have HC := Lib.hid (fun W => fless_any ⟨gk', ga', gb'⟩ ⟨fk, fa, fb⟩ W)
              unfold valF at HC
              dsimp only at HC
              by_cases hlt9 : FLt ⟨gk', ga', gb'⟩ ⟨fk, fa, fb⟩
              · have HR : Hid (rank ((⟨gk', ga', gb'⟩ : Ft) :: done2) ⟨fk, fa, fb⟩ = rank done2 ⟨fk, fa, fb⟩ + 1) := Lib.hid (by rw [rank_snoc, if_pos hlt9])
                rw [decide_eq_true hlt9] at HC
                clear hlt9
                generalize rank done2 ⟨fk, fa, fb⟩ = q at *
                have k0 := HJ9.out.box.cell 0
                have k1 := HJ9.out.box.cell 1
                have k2 := HJ9.out.box.cell 2
                simp at k0 k1 k2
                go_wp2_with fail
                clear hen8 k0 k1 k2
                refine (HC.out _).mono ?_
                rintro e w10 ⟨rfl, hb10⟩
                have HJ10 := Lib.hid (HJ9.out.next hb10)
                have HI10 := Lib.hid (HI9.out.next hb10)
                clear hb10
                go_wp2_with fail
                go_roundg left2'.length
                case measure => rw [HGK3.out, HLN.out]; omega
                case rel => exact ⟨left2', _, rfl, by rw [HR.out]; go_num, HP8.out, HJ10.out, HI10.out⟩
              · have HR : Hid (rank ((⟨gk', ga', gb'⟩ : Ft) :: done2) ⟨fk, fa, fb⟩ = rank done2 ⟨fk, fa, fb⟩) := Lib.hid (by rw [rank_snoc, if_neg hlt9]; rfl)
                rw [decide_eq_false hlt9] at HC
                clear hlt9
                generalize rank done2 ⟨fk, fa, fb⟩ = q at *
                have k0 := HJ9.out.box.cell 0
                have k1 := HJ9.out.box.cell 1
                have k2 := HJ9.out.box.cell 2
                simp at k0 k1 k2
                go_wp2_with fail
                clear hen8 k0 k1 k2
                refine (HC.out _).mono ?_
                rintro e w10 ⟨rfl, hb10⟩
                have HJ10 := Lib.hid (HJ9.out.next hb10)
                have HI10 := Lib.hid (HI9.out.next hb10)
                clear hb10
                go_wp2_with fail
                go_roundg left2'.length
                case measure => rw [HGK3.out, HLN.out]; omega
                case rel => exact ⟨left2', _, rfl, by rw [HR.out], HP8.out, HJ10.out, HI10.out⟩
end Go.Proofs.Ytnaiflokmihmeaa

