/- Walk: Read (package word). -/
import Derived.Test.YtdhhbpnnahdofaaDoorWnG

namespace Go.Proofs.YtdhhbpnnahdofaaDoor
open Go.RowKit
set_option linter.unusedVariables false
set_option linter.unusedSimpArgs false

theorem kind_end {l : List UInt8} {p : Nat} {x : UInt8} (h : l[p]? = some x) : p < endOf l p x.toNat := by
  unfold endOf
  split
  · rename_i hL
    have := runN_at h hL
    omega
  · split
    · rename_i hD
      have := runN_at h hD
      unfold numE
      split <;> omega
    · omega
/-- the word's end and the blanks behind it -/
def nextP (l : List UInt8) (p n : Nat) : Nat := endOf l p n + skipL (l.drop (endOf l p n)) false
theorem nextP_gt {l : List UInt8} {p : Nat} {x : UInt8} (h : l[p]? = some x) : p < nextP l p x.toNat := by
  have := kind_end h
  unfold nextP; omega
theorem nextP_le {l : List UInt8} {p : Nat} {x : UInt8} (h : l[p]? = some x) : nextP l p x.toNat ≤ l.length := by
  have h1 := endOf_le (n := x.toNat) (List.getElem?_eq_some_iff.1 h).1
  have h2 := skipL_le (l.drop (endOf l p x.toNat)) false
  rw [List.length_drop] at h2
  unfold nextP; omega
theorem oneR_zero {s : ByteArray} {p n : Nat} (h : (oneR s p n).2 = 0) : kindC n ≠ 0 ∧ badW (kindC n) (bl (s.extract p (endOf (bl s) p n))) = false ∧ (oneR s p n).1 = ⟨kindC n, p, s.extract p (endOf (bl s) p n)⟩ := by
  unfold oneR at h ⊢
  split at h
  · cases h
  · rename_i h1
    split at h
    · cases h
    · rename_i h2
      rw [if_neg h1, if_neg h2]
      exact ⟨h1, by simpa using h2, rfl⟩
/-- the words from a place on -/
def readG (s : ByteArray) : Nat → Nat → List Wrd → List Wrd × Nat
  | 0, _, acc => (acc, 0)
  | k + 1, p, acc => match (bl s)[p]? with
    | none => (acc, 0)
    | some x => if (oneR s p x.toNat).2 = 0 then readG s k (nextP (bl s) p x.toNat) (acc ++ [(oneR s p x.toNat).1]) else ([], (oneR s p x.toNat).2)
def readR (s : ByteArray) : List Wrd × Nat := if 4096 < s.size then ([], 2) else readG s (s.size + 1) (skipL (bl s) false) []
theorem readG_end {s : ByteArray} {k p : Nat} {acc : List Wrd} (h : s.size ≤ p) : readG s k p acc = (acc, 0) := by
  cases k with
  | zero => rfl
  | succ k => unfold readG; rw [List.getElem?_eq_none (by rw [bl_len]; exact h)]
theorem readG_bad {s : ByteArray} {k p : Nat} {acc : List Wrd} {x : UInt8} (hk : s.size < k + p) (h : (bl s)[p]? = some x) {R : Wrd} {er : Nat} (hR : oneR s p x.toNat = (R, er)) (he : er ≠ 0) : readG s k p acc = ([], er) := by
  have hp := (List.getElem?_eq_some_iff.1 h).1
  rw [bl_len] at hp
  cases k with
  | zero => omega
  | succ k => unfold readG; rw [h]; simp only; rw [hR, if_neg he]
theorem readG_go {s : ByteArray} {k p : Nat} {acc : List Wrd} {x : UInt8} (hk : s.size < k + p) (h : (bl s)[p]? = some x) {R : Wrd} (hR : oneR s p x.toNat = (R, 0)) : ∃ k', s.size < k' + nextP (bl s) p x.toNat ∧ readG s k p acc = readG s k' (nextP (bl s) p x.toNat) (acc ++ [R]) := by
  have hp := (List.getElem?_eq_some_iff.1 h).1
  rw [bl_len] at hp
  have hn := nextP_gt h
  cases k with
  | zero => omega
  | succ k =>
    refine ⟨k, by omega, ?_⟩
    conv => lhs; unfold readG
    rw [h]; simp only; rw [hR, if_pos rfl]
/-- what a function that returns words and an error leaves -/
def WsPost (R : List Wrd × Nat) (w : World) (e : Ending) (w' : World) : Prop :=
  ∃ A c, e = .returned (.tuple #[.slice A R.1.length c, .int .i64 (R.2 : Int)]) ∧ R.1.length ≤ c ∧ c ≤ maxLen ∧ WordsAt w' w'.heap.size A R.1 ∧ Below w.heap.size w w'
theorem WsPost.err {R : List Wrd × Nat} {w w' : World} {er : Nat} (h : R = ([], er)) (hb : Below w.heap.size w w') : WsPost R w (.returned (.tuple #[.slice none 0 0, .int .i64 (er : Int)])) w' := by
  subst h
  exact ⟨none, 0, rfl, Nat.le_refl _, by unfold maxLen; omega, WordsAt.nil, hb⟩
theorem ownsRow_no {w : World} {v : Value} {xs : List Wrd} {wr : World} (h : WRow w v xs wr) : some wr.heap.size ≠ v.ownBlock := fun e => by
  have := ((Rws.head h).lt _ e.symm).2
  omega

set_option maxHeartbeats 4000000 in
set_option maxRecDepth 20000 in
theorem read_any (s : ByteArray) (w : World) (hM : MaxL w) :
    Calls Tryd.prog 69 #[.string s] w (WsPost (readR s) w) := by
  rcases Nat.lt_or_ge 4096 s.size with hs | hs
  · have HR := Lib.hid (show readR s = ([], 2) by unfold readR; rw [if_pos hs])
    go_enter Tryd.func69, Tryd.ntmps69
    go_wp2_with fail
    go_ret2
    exact WsPost.err (er := 2) HR.out (Below.refl _ _)
  have hR : readG s (s.size + 1) (skipL (bl s) false) [] = readR s := by unfold readR; rw [if_neg (by omega)]
  have hsk := skipL_le (bl s) false
  rw [bl_len] at hsk
  have HSK := Lib.hid (skip_any s 0 w (by omega) (by omega))
  rw [List.drop_zero, Nat.zero_add] at HSK
  generalize hp0 : skipL (bl s) false = p0 at *
  generalize hR0 : readR s = R at *
  have HRR := Lib.hid hR
  have HM := Lib.hid hM
  clear hp0 hR0 hR hM
  go_enter Tryd.func69, Tryd.ntmps69
  go_wp2_with (go_at_call 129; refine HSK.out.mono ?_; rintro e w' ⟨rfl, hw⟩; rw [hw])
  clear HSK
  go_loopg [4, 5] (s.size - p0) (fun kx o i wr => ∃ (p k : Nat) (acc : List Wrd), kx = s.size - p ∧ p ≤ s.size ∧ i = .int .i64 p ∧ Hid (WRow w o acc wr) ∧ Hid (readG s k p acc = R ∧ s.size < k + p ∧ acc.length ≤ p))
  case atStart => exact ⟨p0, s.size + 1, [], rfl, hsk, rfl, WRow.nil (Below.refl _ _), HRR.out, by omega, Nat.zero_le _⟩
  case round =>
    clear HRR
    obtain ⟨p, k, acc, hgk, hp, rfl, hrow, hst⟩ := hrel
    have HGK := Lib.hid hgk; clear hgk
    by_cases hlt : p < s.size
    · have HB := Lib.hid (bl_at s hlt)
      obtain ⟨x, hx⟩ : ∃ x, s[p]'hlt = x := ⟨_, rfl⟩
      rw [hx] at HB
      have hone := one_any s p x.toNat wr hs hlt (by rw [hx]) (HM.out.below hrow.out.bel)
      have HNX := Lib.hid (And.intro (nextP_gt HB.out) (And.intro (nextP_le HB.out) (And.intro (kind_end HB.out) (endOf_le (n := x.toNat) (List.getElem?_eq_some_iff.1 HB.out).1))))
      rw [bl_len] at HNX
      obtain ⟨⟨⟨wk, wa, wb⟩, er⟩, hR1⟩ : ∃ R1, oneR s p x.toNat = R1 := ⟨_, rfl⟩
      rw [hR1] at hone
      unfold valE at hone
      dsimp only at hone
      have HONE := Lib.hid hone
      have HR1 := Lib.hid hR1
      clear hone hR1 hx
      rcases Nat.eq_zero_or_pos er with he | he
      · subst he
        have hok := oneR_zero (s := s) (p := p) (n := x.toNat) (by rw [HR1.out])
        rw [HR1.out] at hok
        have hwb : wb = s.extract p (endOf (bl s) p x.toNat) := by have := hok.2.2; injection this
        have hwz : wb.size = endOf (bl s) p x.toNat - p := by
          have := HNX.out.2.2.2
          rw [hwb, ByteArray.size_extract]; omega
        obtain ⟨E, hE⟩ : ∃ E, endOf (bl s) p x.toNat = E := ⟨_, rfl⟩
        have HSK := Lib.hid (fun w => skip_any s E w (by omega) (by have := HNX.out.2.2.2; omega))
        have HNP : Hid (E + skipL ((bl s).drop E) false = nextP (bl s) p x.toNat) := Lib.hid (by unfold nextP; rw [hE])
        rw [HNP.out] at HSK
        rw [hE] at hwz HNX
        obtain ⟨k', hk', hgo⟩ := readG_go (acc := acc) hst.out.2.1 HB.out HR1.out
        have HST := Lib.hid (And.intro (hgo.symm.trans hst.out.1) (And.intro hk' (show (acc ++ [(⟨wk, wa, wb⟩ : Wrd)]).length ≤ nextP (bl s) p x.toNat by rw [List.length_append]; have h1 := hst.out.2.2; have h2 := HNX.out.1; simp; omega)))
        have hal : acc.length ≤ 4096 := by have := hst.out.2.2; omega
        clear hgo hk' hE hwb hok hst
        obtain ⟨q, hq⟩ : ∃ q, nextP (bl s) p x.toNat = q := ⟨_, rfl⟩
        rw [hq] at HSK HST HNX
        have hwz2 : ((p : Int) + (wb.size : Int)) = (E : Int) := by have := HNX.out.2.2.1; omega
        have hEs : E ≤ 4096 := by have := HNX.out.2.2.2; omega
        have HQ := Lib.hid (And.intro HNX.out.1 HNX.out.2.1)
        clear hq HNP HNX hwz
        obtain ⟨A5, c5, rfl, hl5, hm5, hI5⟩ := hrow.out.words
        clear hI5
        unfold maxLen at hm5
        generalize hn5 : acc.length = n5 at *
        have HN5 := Lib.hid hn5; clear hn5
        go_upto_region 7 with (go_at_call 130; refine HONE.out.mono ?_; rintro e w2 ⟨rfl, hb2⟩; have HB2 := Lib.hid hb2; clear hb2)
        have HR2 := Lib.hid (hrow.out.next HB2.out)
        have HB2' := Lib.hid (hrow.out.bel.trans (HB2.out.mono hrow.out.bel.size))
        have HNE := Lib.hid (ownsRow_no HR2.out)
        have HR3 := Lib.hid (HR2.out.next ((Below.refl _ _).alloc (Nat.le_refl _) (.cells #[.int .i64 wk, .int .i64 wa, .string wb] 27)))
        have HB3 := Lib.hid (Blk.new w2 27 #[.int .i64 wk, .int .i64 wa, .string wb])
        clear HB2' hrow HB2 HR2
        generalize w2.heap.size = g at *
        generalize hw3 : World.alloc w2 _ = w3 at *
        clear hw3
        have k0 := HB3.out.cell 0
        have k1 := HB3.out.cell 1
        have k2 := HB3.out.cell 2
        simp at k0 k1 k2
        have hnm : n5 + 1 ≤ 4294967296 := by omega
        go_upto_region 10 with (
          at_builtin
          refine wpList_append_oneG rfl (.tmp 26) (.tmp 28) _ rfl Tryd.underlying22 infoW rfl rfl (HR3.out.row HN5.out) rfl rfl rfl (one_w ⟨wk, wa, wb⟩) hnm ?_
          intro v' w4 hR4 hb4 hg4)
        have HR4 := Lib.hid (WRow.add (x := ⟨wk, wa, wb⟩) HN5.out hR4)
        have HB4 := Lib.hid ((HB3.out.belowB ((Below.refl _ _).alloc (Nat.le_refl _) _)).grown hg4 HNE.out)
        clear hR4 hb4 hg4 k0 k1 k2
        have k2 := HB4.out.cell 2
        simp at k2
        go_wp2_with (go_at_call 129; refine (HSK.out _).mono ?_; rintro e w' ⟨rfl, hw⟩; rw [hw])
        go_roundg (s.size - q)
        case measure => rw [HGK.out]; have := HQ.out; omega
        case rel => exact ⟨q, k', acc ++ [⟨wk, wa, wb⟩], rfl, HQ.out.2, rfl, HR4, HST⟩
      · have HRB := Lib.hid (hst.out.1.symm.trans (readG_bad (acc := acc) hst.out.2.1 HB.out HR1.out (by omega)))
        have hez : (((er : Int)) == 0) = false := by rw [beq_eq_false_iff_ne]; omega
        go_wp2_with (go_at_call 130; refine HONE.out.mono ?_; rintro e w2 ⟨rfl, hb2⟩; have HB2 := Lib.hid hb2; clear hb2)
        go_ret2
        refine WsPost.err HRB.out ?_
        have hz := hrow.out.bel
        exact (hz.trans (HB2.out.mono hz.size)).alloc (Nat.le_trans hz.size HB2.out.size) _
    · have HRE := Lib.hid (hst.out.1.symm.trans (readG_end (by omega)))
      obtain ⟨A5, c5, rfl, hl5, hm5, hI5⟩ := hrow.out.words
      have HI := Lib.hid hI5
      clear hI5
      generalize hn5 : acc.length = n5 at *
      have HN5 := Lib.hid hn5; clear hn5
      go_wp2_with fail
      go_ret2
      rw [HRE.out]
      exact ⟨A5, c5, by rw [← HN5.out]; rfl, by rw [HN5.out]; exact hl5, hm5, HI.out, hrow.out.bel⟩
end Go.Proofs.YtdhhbpnnahdofaaDoor
