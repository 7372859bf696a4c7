/- Facts: what a fact takes (reference); pairs in a slice. -/
import Derived.Test.YtogjfmgecnoceaaFacA
import Derived.ChangeKeysEq
namespace Go.Proofs.Ytogjfmgecnoceaa
open Go.RowKit
set_option linter.unusedVariables false
set_option linter.unusedSimpArgs false

def takeL (f : Ft) : List (Int × Int) :=
  if f.k = 1 then [(1, f.a), (2, f.b)] else if f.k = 2 then [(1, f.b), (3, f.a)] else if f.k = 3 then [(3, f.a)] else if f.k = 4 then [(2, f.a)] else if f.k = 6 then [(4, f.a), (5, f.b)] else []
theorem takeL_len (f : Ft) : (takeL f).length ≤ 2 := by
  unfold takeL
  repeat' split
  all_goals simp
/-- the slice at A holds the pairs -/
def PairsAt (w : World) (B : Nat) (A : Option Addr) (ps : List (Int × Int)) : Prop :=
  ∀ k p, ps[k]? = some p → ∃ b off, A = some ⟨b, off, none⟩ ∧ b < B ∧ w.cell? ⟨b, off + k*2, none⟩ = some (.int .i64 p.1) ∧ w.cell? ⟨b, off + k*2+1, none⟩ = some (.int .i64 p.2)
section
variable {w w' : World} {B B' : Nat} {A : Option Addr} {ps : List (Int × Int)}
theorem PairsAt.below (h : PairsAt w B A ps) (hb : Below B' w w') (hB : B ≤ B') : PairsAt w' B A ps := by
  intro k x hx
  obtain ⟨b, off, hA, hlt, h0, h1⟩ := h k x hx
  exact ⟨b, off, hA, hlt, (hb.cell (p := ⟨b, _, none⟩) (Nat.lt_of_lt_of_le hlt hB)).trans h0, (hb.cell (p := ⟨b, _, none⟩) (Nat.lt_of_lt_of_le hlt hB)).trans h1⟩
theorem PairsAt.more (h : PairsAt w B A ps) (hB : B ≤ B') : PairsAt w B' A ps := by
  intro k x hx
  obtain ⟨b, off, hA, hlt, h0⟩ := h k x hx
  exact ⟨b, off, hA, Nat.lt_of_lt_of_le hlt hB, h0⟩
theorem PairsAt.next (h : PairsAt w w.heap.size A ps) (hb : Below w.heap.size w w') : PairsAt w' w'.heap.size A ps := (h.below hb (Nat.le_refl _)).more hb.size
theorem PairsAt.nil : PairsAt w B A [] := fun k x h => by simp at h
end
theorem pairs_one {w : World} {g : Nat} {t : TypeId} {x y : Int} (h : Blk w g t #[.int .i64 x, .int .i64 y]) : PairsAt w w.heap.size (some ⟨g, 0, none⟩) [(x, y)] := by
  intro k p hk
  refine ⟨g, 0, rfl, h.lt, ?_⟩
  rw [h.cell, h.cell]
  rcases k with _ | k
  · simp at hk; subst hk; exact ⟨rfl, rfl⟩
  · simp at hk
theorem pairs_two {w : World} {g : Nat} {t : TypeId} {x y z u : Int} (h : Blk w g t #[.int .i64 x, .int .i64 y, .int .i64 z, .int .i64 u]) : PairsAt w w.heap.size (some ⟨g, 0, none⟩) [(x, y), (z, u)] := by
  intro k p hk
  refine ⟨g, 0, rfl, h.lt, ?_⟩
  rw [h.cell, h.cell]
  rcases k with _ | _ | k
  · simp at hk; subst hk; exact ⟨rfl, rfl⟩
  · simp at hk; subst hk; exact ⟨rfl, rfl⟩
  · simp at hk
theorem info3f : (Try.prog.info? 3).map (fun i => (i.zero, i.size, i.bytes)) = some (some (.int .i64 0), 1, 8) := by kernel_rfl
theorem cells3f : Try.prog.cellsOf 3 = 1 := by kernel_rfl
theorem part0 (x y : Int) (w : World) : (part 3 #[.int .i64 x, .int .i64 y] 0).run Try.prog w = .ok (.int .i64 x) w := by kernel_rfl
theorem part1 (x y : Int) (w : World) : (part 3 #[.int .i64 x, .int .i64 y] 1).run Try.prog w = .ok (.int .i64 y) w := by kernel_rfl
theorem eqI (x y : Int) (w : World) : (Op.equalIn 9999 3 (.int .i64 x) (.int .i64 y)).run Try.prog w = .ok (x == y) w := by kernel_rfl
theorem equal_pair (x y p q : Int) (w : World) : (Op.equal 113 (.agg #[.int .i64 x, .int .i64 y]) (.agg #[.int .i64 p, .int .i64 q])).run Try.prog w = .ok (x == p && y == q) w := by
  obtain ⟨i0, hi, _⟩ := info_parts info3f
  have h := run_equalIn_array (P := Try.prog) (w := w) 9999 #[.int .i64 x, .int .i64 y] #[.int .i64 p, .int .i64 q] Try.underlying113 hi
  have e : (Op.equal 113 (.agg #[.int .i64 x, .int .i64 y]) (.agg #[.int .i64 p, .int .i64 q])).run Try.prog w = (Op.equalIn 10000 113 (.agg #[.int .i64 x, .int .i64 y]) (.agg #[.int .i64 p, .int .i64 q])).run Try.prog w := rfl
  rw [e, h, cells3f]
  simp only [Op.eqItems, List.range, List.range.loop, Sem.run_bind, Nat.zero_mul, Nat.one_mul, part0, eqI, Result.andThen_ok]
  cases hx : x == p <;> cases hy : y == q <;> simp [part1, eqI, hy]
theorem equal_pair2 (x y p q : Int) (w : World) : (Op.equalIn 10000 113 (.agg #[.int .i64 x, .int .i64 y]) (.agg #[.int .i64 p, .int .i64 q])).run Try.prog w = .ok (x == p && y == q) w := equal_pair x y p q w
def TakesPost (f : Ft) (w : World) (e : Ending) (w' : World) : Prop := ∃ A c, e = .returned (.slice A (takeL f).length c) ∧ PairsAt w' w'.heap.size A (takeL f) ∧ Below w.heap.size w w'
theorem takes_nil {f : Ft} {w w' : World} (h : takeL f = []) (hb : Below w.heap.size w w') : TakesPost f w (.returned (.slice none 0 0)) w' := ⟨none, 0, by rw [h]; rfl, by rw [h]; exact PairsAt.nil, hb⟩
theorem takes_one {f : Ft} {w w1 : World} {x y : Int} {g : Nat} (hg : g = w1.heap.size) (h : takeL f = [(x, y)]) (hb : Below w.heap.size w w1) : TakesPost f w (.returned (.slice (some ⟨g, 0, none⟩) 1 1)) (w1.alloc (.cells #[.int .i64 x, .int .i64 y] 113)) :=
  ⟨_, _, by rw [h]; rfl, by rw [h]; exact pairs_one (Blk.at_ hg), hb.alloc hb.size _⟩
theorem takes_two {f : Ft} {w w1 : World} {x y z u : Int} {g : Nat} (hg : g = w1.heap.size) (h : takeL f = [(x, y), (z, u)]) (hb : Below w.heap.size w w1) : TakesPost f w (.returned (.slice (some ⟨g, 0, none⟩) 2 2)) (w1.alloc (.cells #[.int .i64 x, .int .i64 y, .int .i64 z, .int .i64 u] 113)) :=
  ⟨_, _, by rw [h]; rfl, by rw [h]; exact pairs_two (Blk.at_ hg), hb.alloc hb.size _⟩

set_option maxHeartbeats 2000000 in
theorem takes_any (f : Ft) (w : World) : Calls Try.prog 96 #[valF f] w (TakesPost f w) := by
  obtain ⟨k, a, b⟩ := f
  show Calls Try.prog 96 #[.agg #[.int .i64 k, .int .i64 a, .int .i64 b]] w (TakesPost ⟨k, a, b⟩ w)
  have HB := Lib.hid ((Below.refl w.heap.size w).alloc (Nat.le_refl _) (.cells #[.int .i64 k, .int .i64 a, .int .i64 b] 62))
  rcases kinds k with rfl | rfl | rfl | rfl | rfl | rfl | ⟨e1, e2, e3, e4, e5, e6⟩
  · go_enter Try.func96, Try.ntmps96
    go_wp2_with fail
    go_ret
    exact takes_two (by simp) rfl HB.out
  · go_enter Try.func96, Try.ntmps96
    go_wp2_with fail
    go_ret
    exact takes_two (by simp) rfl HB.out
  · go_enter Try.func96, Try.ntmps96
    go_wp2_with fail
    go_ret
    exact takes_one (by simp) rfl HB.out
  · go_enter Try.func96, Try.ntmps96
    go_wp2_with fail
    go_ret
    exact takes_one (by simp) rfl HB.out
  · go_enter Try.func96, Try.ntmps96
    go_wp2_with fail
    go_ret
    exact takes_nil rfl HB.out
  · go_enter Try.func96, Try.ntmps96
    go_wp2_with fail
    go_ret
    exact takes_two (by simp) rfl HB.out
  · have HN := Lib.hid (show takeL ⟨k, a, b⟩ = [] by simp at e1 e2 e3 e4 e5 e6; simp [takeL, e1, e2, e3, e4, e6])
    go_enter Try.func96, Try.ntmps96
    go_wp2_with fail
    go_ret
    exact takes_nil HN.out HB.out

def IdxPost (ps : List (Int × Int)) (x : Int × Int) (w : World) (e : Ending) (w' : World) : Prop := ∃ r : Int, e = .returned (.int .i64 r) ∧ (0 ≤ r ↔ x ∈ ps) ∧ Below w.heap.size w w'
set_option maxHeartbeats 2000000 in
theorem indexP_any (ps : List (Int × Int)) (A : Option Addr) (n c : Nat) (x y : Int) (w : World) (hn : n = ps.length) (hm : n ≤ 9223372036854775807) (h : PairsAt w w.heap.size A ps) :
    Calls Try.prog 132 #[.slice A n c, .agg #[.int .i64 x, .int .i64 y]] w (IdxPost ps (x, y) w) := by
  have HN := Lib.hid hn; clear hn
  have H := Lib.hid h; clear h
  go_enter Try.func132, Try.ntmps132
  go_wp2_with fail
  have HW := Lib.hid (And.intro ((Below.refl w.heap.size w).alloc (Nat.le_refl _) (.cells #[.int .i64 x, .int .i64 y] 113)) (Blk.new w 113 #[.int .i64 x, .int .i64 y]))
  go_loopg [8] n (fun k i wr => ∃ j : Nat, k = n - j ∧ j ≤ n ∧ i = .int .i64 j ∧ Hid (Below w.heap.size w wr ∧ Blk wr w.heap.size 113 #[.int .i64 x, .int .i64 y]) ∧ Hid (∀ i, i < j → ∀ p, ps[i]? = some p → p ≠ (x, y)))
  case atStart => exact ⟨0, by omega, Nat.zero_le _, rfl, HW.out, Lib.hid (fun i hi => by omega)⟩
  case round =>
    clear HW
    obtain ⟨j, hgk, hj, rfl, hbk, hall⟩ := hrel
    have HGK := Lib.hid hgk; clear hgk
    by_cases hlt : j < n
    · obtain ⟨⟨p, q⟩, hp⟩ := get_of_lt HN.out hlt
      obtain ⟨b, off, rfl, hb, h0, h1⟩ := H.out j _ hp
      have g0 := (hbk.out.1.cell (p := ⟨b, off + j*2, none⟩) hb).trans h0
      have g1 := (hbk.out.1.cell (p := ⟨b, off + j*2+1, none⟩) hb).trans h1
      have g2 := hbk.out.2.cell 0
      have g3 := hbk.out.2.cell 1
      simp at g2 g3
      have HP := Lib.hid hp; clear hp h0 h1
      dsimp only at g0 g1
      have i1 : (0 : Int) ≤ (j : Int) := by omega
      have i2 : (j : Int) < (n : Int) := by omega
      by_cases hx : x = p
      · by_cases hy : y = q
        · subst hx hy
          have heq := equal_pair x y x y
          have heq2 := equal_pair2 x y x y
          simp only [beq_self_eq_true, Bool.and_self] at heq heq2
          go_wp2_with fail
          go_quiet (fail)
          go_wp2_with fail
          go_ret
          exact ⟨(j : Int), rfl, ⟨fun _ => List.mem_of_getElem? HP.out, fun _ => by omega⟩, below_drewN hbk.out.1 _⟩
        · have e2 : (y == q) = false := by simp [hy]
          have HNE : Hid (∀ z, ps[j]? = some z → z ≠ (x, y)) := Lib.hid (fun z hz e => by rw [HP.out] at hz; rw [← Option.some.inj hz] at e; exact hy (congrArg Prod.snd e).symm)
          subst hx
          clear hy
          have heq := equal_pair x y x q
          have heq2 := equal_pair2 x y x q
          rw [e2, beq_self_eq_true, Bool.and_false] at heq heq2
          go_wp2_with fail
          go_quiet (fail)
          go_wp2_with fail
          go_roundg (n - (j + 1))
          case measure => rw [HGK.out]; omega
          case rel => exact ⟨j+1, rfl, by omega, by go_num, ⟨below_drewN hbk.out.1 _, hbk.out.2.drewN _⟩, Lib.hid (forall_lt_succ hall.out HNE.out)⟩
      · have e2 : (x == p) = false := by simp [hx]
        have HNE : Hid (∀ z, ps[j]? = some z → z ≠ (x, y)) := Lib.hid (fun z hz e => by rw [HP.out] at hz; rw [← Option.some.inj hz] at e; exact hx (congrArg Prod.fst e).symm)
        clear hx
        have heq := equal_pair x y p q
        have heq2 := equal_pair2 x y p q
        rw [e2, Bool.false_and] at heq heq2
        go_wp2_with fail
        go_quiet (fail)
        go_wp2_with fail
        go_roundg (n - (j + 1))
        case measure => rw [HGK.out]; omega
        case rel => exact ⟨j+1, rfl, by omega, by go_num, ⟨below_drewN hbk.out.1 _, hbk.out.2.drewN _⟩, Lib.hid (forall_lt_succ hall.out HNE.out)⟩
    · obtain rfl : j = n := by omega
      have HNM : Hid ((x, y) ∉ ps) := Lib.hid (fun hm => by
        obtain ⟨i, hi⟩ := List.mem_iff_getElem?.1 hm
        exact hall.out i (by rw [HN.out]; exact (List.getElem?_eq_some_iff.1 hi).1) _ hi rfl)
      go_wp2_with fail
      go_ret
      exact ⟨-1, rfl, ⟨fun h => by omega, fun h => absurd h HNM.out⟩, hbk.out.1⟩
set_option maxHeartbeats 2000000 in
theorem containsP_any (ps : List (Int × Int)) (A : Option Addr) (n c : Nat) (x y : Int) (w : World) (hn : n = ps.length) (hm : n ≤ 9223372036854775807) (h : PairsAt w w.heap.size A ps) :
    Calls Try.prog 97 #[.slice A n c, .agg #[.int .i64 x, .int .i64 y]] w fun e w' => e = .returned (.bool (decide ((x, y) ∈ ps))) ∧ Below w.heap.size w w' := by
  have HC := Lib.hid (fun W (hb : Below w.heap.size w W) => indexP_any ps A n c x y W hn hm (h.next hb))
  have HB := Lib.hid ((Below.refl w.heap.size w).alloc (Nat.le_refl _) (.cells #[.int .i64 x, .int .i64 y] 113))
  clear hn h
  go_enter Try.func97, Try.ntmps97
  go_wp2_with fail
  refine (HC.out _ HB.out).mono ?_
  rintro e w' ⟨r, rfl, hr, hb⟩
  have HR := Lib.hid hr; clear hr
  have HB2 := Lib.hid (HB.out.trans (hb.mono HB.out.size)); clear hb
  go_wp2_with fail
  go_ret
  exact ⟨ret_bool (by simp [HR.out]), HB2.out⟩
end Go.Proofs.Ytogjfmgecnoceaa
