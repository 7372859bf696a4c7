/- Joined texts: GrP GrX GrB. -/
import Derived.Test.YtoejojfjiikogaaGreatDoorGrO
import Derived.Deep.LoopGhost
import Derived.Deep.QuietTactic
import Derived.BigQuiet
import Derived.WalkSpells
import Derived.ChangeKeysEq
import Derived.Test.YtoejojfjiikogaaGreatDoorGrG
import Derived.Lib.AppendZerosOnto
import Derived.Lib.AppendZeros
import Derived.OwnWalk
namespace Go.Proofs.YtoejojfjiikogaaGreatDoor
open Go.RowKit Go.Lib
set_option linter.unusedVariables false
set_option linter.unusedSimpArgs false

theorem blk_setCells {g : Nat} {t : TypeId} : ∀ (vs : List Value) (o : Nat) (w : World) (cs : Array Value), Blk w g t cs → ∃ cs', Blk (w.setCells g o vs) g t cs' ∧ cs'.size = cs.size ∧ ∀ q, q < o → cs'[q]? = cs[q]?
  | [], o, w, cs, h => ⟨cs, h, rfl, fun _ _ => rfl⟩
  | v :: r, o, w, cs, h => by
    obtain ⟨cs', h1, h2, h3⟩ := blk_setCells r (o + 1) (w.setCell ⟨g, o, none⟩ v) _ (h.set_ o v)
    refine ⟨cs', h1, by rw [h2]; simp, fun q hq => ?_⟩
    rw [h3 q (by omega), Array.getElem?_setIfInBounds, if_neg (by omega)]
theorem FBlk.cut {w : World} {g cap : Nat} {dk : Array Ft} {K : List Ft} (h : FBlk w g cap dk) (hk : K.length ≤ dk.size) (hK : ∀ q, q < K.length → K[q]? = some dk[q]!) (vs : List Value) : FBlk (w.setCells g (K.length * 2) vs) g cap K.toArray := by
  obtain ⟨cs, h1, h2, h3, h4⟩ := h
  obtain ⟨cs', g1, g2, g3⟩ := blk_setCells vs (K.length * 2) w cs h1
  refine ⟨cs', g1, by rw [g2, h2], by simpa using Nat.le_trans hk h3, fun t ht => ?_⟩
  have ht' : t < K.length * 2 := by simpa using ht
  rw [g3 t ht', h4 t (by omega)]
  have hq := hK (t / 2) (by omega)
  have : K.toArray[t / 2]! = dk[t / 2]! := by
    rw [getElem!_pos K.toArray (t / 2) (by simpa using (by omega : t / 2 < K.length))]
    have h9 := (List.getElem?_eq_some_iff.1 hq).2
    simpa using h9
  rw [this]
/-- v is a slice in a block of the call's own (from base on), which holds xs -/
def FOwn (base : Nat) (v : Value) (xs : List Ft) (w : World) : Prop :=
  (v = .slice none 0 0 ∧ xs = []) ∨ ∃ g cap, v = .slice (some ⟨g, 0, none⟩) xs.length cap ∧ base ≤ g ∧ cap ≤ maxLen ∧ FBlk w g cap xs.toArray
theorem FOwn.facts {base : Nat} {v : Value} {xs : List Ft} {w : World} (h : FOwn base v xs w) : ∃ A c, v = .slice A xs.length c ∧ xs.length ≤ c ∧ c ≤ maxLen ∧ FactsAt w w.heap.size A xs := by
  rcases h with ⟨rfl, rfl⟩ | ⟨g, cap, rfl, hg, hm, hb⟩
  · exact ⟨none, 0, rfl, Nat.le_refl _, by unfold maxLen; omega, FactsAt.nil⟩
  · exact ⟨_, cap, rfl, by simpa using hb.le, hm, hb.factsAll⟩
theorem FOwn.next {base : Nat} {v : Value} {xs : List Ft} {w w' : World} (h : FOwn base v xs w) (hb : Below w.heap.size w w') : FOwn base v xs w' := by
  rcases h with h | ⟨g, cap, h1, h2, h3, h4⟩
  · exact .inl h
  · exact .inr ⟨g, cap, h1, h2, h3, h4.below hb h4.lt⟩
theorem FRow.own {w wr : World} {v : Value} {xs : List Ft} (h : FRow w v xs wr) : FOwn w.heap.size v xs wr := by
  have h0 := Rws.head h
  obtain ⟨h1, h2⟩ := h0
  rcases h2 with ⟨hv, hx⟩ | ⟨g, cap, cur, hv, hg, hh, hnc, hmx, hs, hc⟩
  · dsimp only at hv hx
    left
    have e := List.eq_nil_of_length_eq_zero hx
    subst e
    exact ⟨hv, rfl⟩
  · dsimp only at hv hg hh hnc hmx hs hc
    right
    have hown := FBlk.of_own (w := wr) (base := w.heap.size) (g := g) (c := cap) (l := xs) ⟨h1, .inr ⟨g, cap, cur, rfl, hg, hh, hnc, hmx, hs, hc⟩⟩ rfl
    exact ⟨g, cap, hv, hg, hmx, hown.1⟩
end Go.Proofs.YtoejojfjiikogaaGreatDoor
namespace Go.Proofs.YtoejojfjiikogaaGreatDoor
open Go.RowKit
set_option linter.unusedVariables false
set_option linter.unusedSimpArgs false

theorem FactsAt.reads {w : World} {B : Nat} {A : Option Addr} {xs : List Ft} (h : FactsAt w B A xs) : Reads w B 2 A xs.length (cellsF xs) := by
  refine ⟨by rw [cellsF_length], fun hn => ?_⟩
  obtain ⟨u0, hu0⟩ := get_of_lt rfl hn
  obtain ⟨b, off, hA, hb, _⟩ := h 0 u0 hu0
  refine ⟨_, hA, hb, fun j v hv => ?_⟩
  have hjl : j < xs.length*2 := by have := (List.getElem?_eq_some_iff.1 hv).1; rwa [cellsF_length] at this
  obtain ⟨u, hu⟩ := get_of_lt (k := j / 2) (l := xs) rfl (by omega)
  obtain ⟨b', off', hA', _, hc⟩ := h _ u hu
  rw [hA] at hA'; cases hA'
  have hm : j % 2 < (valG u).length := by simp [valG]; omega
  have hg := cellsF_get hu (List.getElem?_eq_getElem hm)
  rw [show j / 2*2 + j % 2 = j by omega] at hg
  rw [hv] at hg
  have := hc (j % 2) v (by rw [List.getElem?_eq_getElem hm]; exact hg.symm)
  rw [Addr.add_lit]
  rwa [show j / 2*2 + j % 2 = j by omega] at this

end Go.Proofs.YtoejojfjiikogaaGreatDoor
namespace Go.Proofs.YtoejojfjiikogaaGreatDoor
open Go.RowKit
set_option linter.unusedVariables false
set_option linter.unusedSimpArgs false

/-- v is a slice that holds l -/
def Fs (v : Value) (l : List Ft) (w : World) : Prop := ∃ A c, v = .slice A l.length c ∧ l.length ≤ c ∧ c ≤ maxLen ∧ FactsAt w w.heap.size A l
theorem Fs.next {v : Value} {l : List Ft} {w w' : World} (h : Fs v l w) (hb : Below w.heap.size w w') : Fs v l w' := by
  obtain ⟨A, c, h1, h2, h3, h4⟩ := h
  exact ⟨A, c, h1, h2, h3, h4.next hb⟩
end Go.Proofs.YtoejojfjiikogaaGreatDoor
