/- Cells: slices.Compact. -/
import Derived.Test.YtoejojfjiikogaaDoorGrO
import Derived.Deep.LoopGhost
import Derived.Deep.QuietTactic
import Derived.BigQuiet
import Derived.WalkSpells
import Derived.ChangeKeysEq

namespace Go.Proofs.YtoejojfjiikogaaDoor
open Go.RowKit Go.Lib
set_option linter.unusedVariables false
set_option linter.unusedSimpArgs false

theorem upTo_all {d : Array Ft} (h : ∀ j, j < d.size → keeps d j = true) : compactUpTo d d.size = d.toList := by rw [compactUpTo_all d _ h, range_map_get]
def CompPost (g cap : Nat) (d : Array Ft) (w : World) (e : Ending) (w' : World) : Prop :=
  e = .returned (.slice (some ⟨g, 0, none⟩) (compactUpTo d d.size).length cap) ∧ FBlk w' g cap (compactUpTo d d.size).toArray ∧ Below g w w'
theorem compPost_all {g cap n : Nat} {d : Array Ft} {w w' : World} (h : FBlk w' g cap d ∧ Below g w w') (hn : d.size = n) (hk : ∀ j, j < n → keeps d j = true) : CompPost g cap d w (.returned (.slice (some ⟨g, 0, none⟩) n cap)) w' := by
  subst hn
  exact ⟨by rw [upTo_all hk]; simp, by rw [upTo_all hk]; exact h.1, h.2⟩
theorem below_setCells {B b : Nat} (hB : B ≤ b) : ∀ (vs : List Value) (o : Nat) (w : World), Below B w (w.setCells b o vs)
  | [], _, w => Below.refl _ _
  | v :: r, o, w => ((Below.refl B w).setCell (p := ⟨b, o, none⟩) hB v).trans (below_setCells hB r (o + 1) _)
theorem blk_setCells {g : Nat} {t : TypeId} : ∀ (vs : List Value) (o : Nat) (w : World) (cs : Array Value), Blk w g t cs → ∃ cs', Blk (w.setCells g o vs) g t cs' ∧ cs'.size = cs.size ∧ ∀ q, q < o → cs'[q]? = cs[q]?
  | [], o, w, cs, h => ⟨cs, h, rfl, fun _ _ => rfl⟩
  | v :: r, o, w, cs, h => by
    obtain ⟨cs', h1, h2, h3⟩ := blk_setCells r (o + 1) (w.setCell ⟨g, o, none⟩ v) _ (h.set_ o v)
    refine ⟨cs', h1, by rw [h2]; simp, fun q hq => ?_⟩
    rw [h3 q (by omega), Array.getElem?_setIfInBounds, if_neg (by omega)]
theorem FBlk.cut {w : World} {g cap : Nat} {dk : Array Ft} {K : List Ft} (h : FBlk w g cap dk) (hk : K.length ≤ dk.size) (hK : ∀ q, q < K.length → K[q]? = some dk[q]!) (vs : List Value) : FBlk (w.setCells g (K.length * 2) vs) g cap K.toArray := by
  obtain ⟨cs, h1, h2, h3, h4⟩ := h
  obtain ⟨cs', g1, g2, g3⟩ := blk_setCells vs (K.length * 2) w cs h1
  refine ⟨cs', g1, by rw [g2, h2], by simpa using Nat.le_trans hk h3, fun t ht => ?_⟩
  have ht' : t < K.length * 2 := by simpa using ht
  rw [g3 t ht', h4 t (by omega)]
  have hq := hK (t / 2) (by omega)
  have : K.toArray[t / 2]! = dk[t / 2]! := by
    rw [getElem!_pos K.toArray (t / 2) (by simpa using (by omega : t / 2 < K.length))]
    have h9 := (List.getElem?_eq_some_iff.1 hq).2
    simpa using h9
  rw [this]
theorem run_clear_ft (g o n c cap : Nat) (ty : TypeId) (d : Array Ft) (w : World) (hd : FBlk w g cap d) (ho : o + (n + 1)*2 ≤ cap*2) :
    ∃ vs : List Value, (Builtin.clear_ #[56] ty #[.slice (some ⟨g, o, none⟩) (n + 1) c]).run Tryd.prog w = .ok (.tuple #[]) (w.setCells g o vs) := by
  have hz : (zeroValue 60).run Tryd.prog w = .ok (.agg #[.int .i64 0, .int .i64 0]) w := by kernel_rfl
  have hlen : (Builtin.zeroCells (Value.agg #[.int .i64 0, .int .i64 0]).cells (n + 1)).toList.length = (n + 1)*2 := by
    simp [Builtin.zeroCells, Value.cells]
  have h1 : ∀ v ∈ (Builtin.zeroCells (Value.agg #[.int .i64 0, .int .i64 0]).cells (n + 1)).toList, v.oneCell' = true := by
    intro v hv
    have hv' : v = .int .i64 0 := by
      simp only [Builtin.zeroCells, Value.cells] at hv
      obtain ⟨i, hi, he⟩ := List.mem_iff_getElem.1 hv
      have h3 : i % 2 = 0 ∨ i % 2 = 1 := by omega
      rcases h3 with h3 | h3 <;> simp [h3] at he <;> exact he.symm
    subst hv'
    rfl
  have hst := run_storeCells_cells (P := Tryd.prog) g o _ 0 w (fun j hj => by rw [hlen] at hj; exact hd.some_ (by omega)) (fun j hj => hd.frozen _) h1
  rw [Nat.add_zero] at hst
  refine ⟨(Builtin.zeroCells (Value.agg #[.int .i64 0, .int .i64 0]).cells (n + 1)).toList, ?_⟩
  simp [Builtin.clear_, run_underlying Tryd.underlying56, hz, hst]
theorem compPost_end {g cap kk n : Nat} {d dk : Array Ft} {w wi : World} (h : FBlk wi g cap dk ∧ Below g w wi) (hI : CompInv d n kk dk) (hn : d.size = n) (vs : List Value) :
    CompPost g cap d w (.returned (.slice (some ⟨g, 0, none⟩) kk cap)) (wi.setCells g (kk*2) vs) := by
  subst hn
  have hsz := hI.size
  have hlt := hI.lt
  refine ⟨by rw [hI.len], ?_, h.2.trans (below_setCells (Nat.le_refl _) vs _ _)⟩
  have := h.1.cut (K := compactUpTo d d.size) (by rw [hI.len]; omega) (fun q hq => hI.low q (by rw [hI.len] at hq; exact hq)) vs
  rwa [hI.len] at this
set_option maxHeartbeats 2000000 in
set_option maxRecDepth 20000 in
theorem compactF_any (g cap : Nat) (d : Array Ft) (w : World) (hd : FBlk w g cap d) (hsz : d.size ≤ 9223372036854775807) :
    Calls Tryd.prog 96 #[.slice (some ⟨g, 0, none⟩) d.size cap] w (CompPost g cap d w) := by
  have hle := hd.le
  have HD := Lib.hid (And.intro hd (Below.refl g w)); clear hd
  have hn0 := hsz
  by_cases h2 : d.size < 2
  · have HK : Hid (∀ j, j < d.size → keeps d j = true) := Lib.hid (fun j hj => keeps_lt_one d j (Nat.lt_of_lt_of_le hj (by omega)))
    go_enter Tryd.func96, Tryd.ntmps96
    go_wp2_with fail
    go_ret
    exact compPost_all HD.out rfl HK.out
  · generalize hz : d.size = n at *
    have HZ := Lib.hid hz; clear hz
    go_enter Tryd.func96, Tryd.ntmps96
    go_wp2_with fail
    go_loopg [3] n (fun gg s3 wr => ∃ m : Nat, gg = n - m ∧ m < n ∧ s3 = .int .i64 ((m : Int) + 1) ∧ Hid (FBlk wr g cap d ∧ Below g w wr) ∧ Hid (∀ j, j < m + 1 → keeps d j = true))
    case atStart => exact ⟨0, rfl, by omega, rfl, HD.out, keeps_lt_one d⟩
    case round =>
      obtain ⟨m, hgk, hm, rfl, hfb, hall⟩ := hrel
      have HGK := Lib.hid hgk; clear hgk
      by_cases hlt : m + 1 < n
      · obtain ⟨c0, c1⟩ := hfb.out.1.cells (show m + 1 < d.size by rw [HZ.out]; exact hlt)
        obtain ⟨p0, p1⟩ := hfb.out.1.cells (show m < d.size by rw [HZ.out]; omega)
        generalize hx : d[m+1]! = x at c0 c1
        generalize hy : d[m]! = y at p0 p1
        have HX := Lib.hid hx; clear hx
        have HY := Lib.hid hy; clear hy
        obtain ⟨xk, xa⟩ := x
        obtain ⟨yk, ya⟩ := y
        dsimp only at c0 c1 p0 p1
        have i1 : (0 : Int) ≤ (m : Int) := by omega
        have i2 : (m : Int) < (n : Int) := by omega
        have i3 : (0 : Int) ≤ (m : Int) + 1 := by omega
        have i4 : (m : Int) + 1 < (n : Int) := by omega
        have i5 : ((m : Int) + 1).toNat = m + 1 := by omega
        have i6 : IntKind.i64.wrap (m : Int) = (m : Int) := IntWalk.i64_in _ (by omega)
        by_cases hxy : (⟨xk, xa⟩ : Ft) = ⟨yk, ya⟩
        · have HEQ := Lib.hid hxy
          have heq := equal_ft xk xa yk ya (decide_eq_true hxy)
          have heq2 := equal_ft2 xk xa yk ya (decide_eq_true hxy)
          clear hxy
          go_wp2_with fail
          go_quiet (fail)
          clear heq heq2
          go_wp2_with fail
          have HC0 : Hid (CompInv d (m+1+1) (m+1) d) := Lib.hid (CompInv.start hall.out (keeps_neg (by omega) (by rw [HX.out, show m + 1 - 1 = m by omega, HY.out]; exact HEQ.out)))
          have HFB0 := Lib.hid (And.intro (hfb.out.1.next (w' := wr.drewN nq) rfl) (below_drewN hfb.out.2 nq))
          clear hfb c0 c1 p0 p1 i1 i2 i5 i6
          generalize World.drewN wr nq = wx at *
          generalize hn1 : n - (m + 1) = n1 at *
          have HN1 : Hid (n = m + 1 + n1) := Lib.hid (by omega)
          have hn1' : 1 ≤ n1 := by omega
          have hb1 : n1 ≤ n := by omega
          clear hn1 hlt
          go_loopg [3, 5] n (fun gg s3 s5 wi => ∃ (kk q : Nat) (dk : Array Ft), gg = n - q ∧ s3 = .int .i64 kk ∧ s5 = .int .i64 ((q : Int) + 1) ∧ q < n1 ∧ Hid (FBlk wi g cap dk ∧ Below g w wi) ∧ Hid (CompInv d (m+1+q+1) kk dk))
          case atStart => exact ⟨m+1, 0, d, rfl, by go_num, rfl, hn1', HFB0.out, HC0.out⟩
          case round =>
            obtain ⟨kk, q, dk, hgk2, rfl, rfl, hq, hfb, hci⟩ := hrel
            have HGK2 := Lib.hid hgk2; clear hgk2
            have hkm := hci.out.lt
            by_cases hlt2 : q + 1 < n1
            · have hm1 : m + 1 + (q + 1) < d.size := by rw [HZ.out, HN1.out]; omega
              have hds : dk.size = d.size := hci.out.size
              obtain ⟨c0, c1⟩ := hfb.out.1.cells (show m + 1 + (q + 1) < dk.size by rw [hds]; exact hm1)
              obtain ⟨p0, p1⟩ := hfb.out.1.cells (show m + 1 + q < dk.size by rw [hds]; omega)
              obtain ⟨o0, o1⟩ := hfb.out.1.cells (show kk < dk.size by rw [hds]; omega)
              rw [hci.out.high _ (by omega)] at c0 c1 p0 p1
              have f0 := hfb.out.1.frozen (kk*2)
              have f1 := hfb.out.1.frozen (kk*2+1)
              have HDS := Lib.hid (show kk < dk.size by rw [hds]; omega)
              have HM1 := Lib.hid hm1
              have hkn : kk < n := by rw [HZ.out] at hm1; omega
              clear hds hm1
              generalize hx2 : d[m+1+(q+1)]! = x2 at c0 c1
              generalize hy2 : d[m+1+q]! = y2 at p0 p1
              generalize dk[kk]! = z2 at o0 o1
              have HX2 := Lib.hid hx2; clear hx2
              have HY2 := Lib.hid hy2; clear hy2
              obtain ⟨uk, ua⟩ := x2
              obtain ⟨vk, va⟩ := y2
              rw [show (m+1+(q+1))*2 = (m+1)*2 + (q+1)*2 by omega] at c0 c1
              rw [show (m+1+q)*2 = (m+1)*2 + q*2 by omega] at p0 p1
              dsimp only at c0 c1 p0 p1
              have i1 : (0 : Int) ≤ (q : Int) := by omega
              have i2 : (q : Int) < (n1 : Int) := by omega
              have i3 : (0 : Int) ≤ (q : Int) + 1 := by omega
              have i4' : (q : Int) + 1 < (n1 : Int) := by omega
              have i5 : ((q : Int) + 1).toNat = q + 1 := by omega
              have i6 : IntKind.i64.wrap (q : Int) = (q : Int) := IntWalk.i64_in _ (by omega)
              by_cases huv : (⟨uk, ua⟩ : Ft) = ⟨vk, va⟩
              · have HK : Hid (keeps d (m+1+(q+1)) = false) := Lib.hid (keeps_neg (by omega) (by rw [HX2.out, show m+1+(q+1)-1 = m+1+q by omega, HY2.out]; exact huv))
                have heq := equal_ft uk ua vk va (decide_eq_true huv)
                have heq2 := equal_ft2 uk ua vk va (decide_eq_true huv)
                have HFB := Lib.hid (fun r => And.intro (hfb.out.1.next (w' := wr.drewN r) rfl) (below_drewN hfb.out.2 r))
                clear huv o0 o1 f0 f1
                go_wp2_with fail
                go_quiet (fail)
                clear heq heq2
                go_wp2_with fail
                go_roundg (n - (q + 1))
                case measure => rw [HGK2.out]; omega
                case rel => exact ⟨kk, q+1, dk, rfl, rfl, by go_num, by omega, HFB.out _, CompInv.skip hci.out HK.out⟩
              · have HK : Hid (keeps d (m+1+(q+1)) = true) := Lib.hid (keeps_pos (by rw [HX2.out, show m+1+(q+1)-1 = m+1+q by omega, HY2.out]; exact huv))
                have heq := equal_ft uk ua vk va (decide_eq_false huv)
                have heq2 := equal_ft2 uk ua vk va (decide_eq_false huv)
                have HST := Lib.hid (fun r => (show FBlk (wr.drewN r) g cap dk from hfb.out.1.next rfl).store HDS.out ⟨uk, ua⟩)
                have HBL := Lib.hid (fun r => below_drewN hfb.out.2 r)
                have HCI : Hid (CompInv d (m+1+(q+1)+1) (kk+1) (dk.setIfInBounds kk ⟨uk, ua⟩)) := Lib.hid (by have := CompInv.keep (m := m+1+(q+1)) hci.out HM1.out HK.out; rwa [HX2.out] at this)
                clear huv
                go_wp2_with fail
                go_quiet (fail)
                clear heq heq2
                go_wp2_with fail
                go_roundg (n - (q + 1))
                case measure => rw [HGK2.out]; omega
                case rel => exact ⟨kk+1, q+1, _, rfl, by go_num, by go_num, by omega, ⟨HST.out _, ((HBL.out _).setCell (Nat.le_refl _) _).setCell (Nat.le_refl _) _⟩, HCI.out⟩
            · have hend : m + 1 + q + 1 = n := by rw [HN1.out]; omega
              have hkn : kk < n := by omega
              have HCI : Hid (CompInv d n kk dk) := Lib.hid (by rw [← hend]; exact hci.out)
              obtain ⟨n2, hn2⟩ : ∃ n2, n = kk + (n2 + 1) := ⟨n - kk - 1, by omega⟩
              obtain ⟨vs, hcl⟩ := run_clear_ft g (kk*2) n2 (cap - kk) cap 0 dk wr hfb.out.1 (by have := hle; omega)
              have HN2 : n - kk = n2 + 1 := by omega
              rw [← HN2] at hcl
              have HP := Lib.hid (compPost_end hfb.out HCI.out HZ.out vs)
              clear hn2 HN2 hend
              go_wp2_with fail
              go_ret
              exact HP.out
        · have HNE := Lib.hid hxy
          have heq := equal_ft xk xa yk ya (decide_eq_false hxy)
          have heq2 := equal_ft2 xk xa yk ya (decide_eq_false hxy)
          clear hxy
          have HK : Hid (keeps d (m+1) = true) := Lib.hid (keeps_pos (by rw [HX.out]; exact fun e => HNE.out (e.trans HY.out)))
          have HFB := Lib.hid (fun q => And.intro (hfb.out.1.next (w' := wr.drewN q) rfl) (below_drewN hfb.out.2 q))
          go_wp2_with fail
          go_quiet (fail)
          clear heq heq2
          go_wp2_with fail
          go_roundg (n - (m + 1))
          case measure => rw [HGK.out]; omega
          case rel => exact ⟨m+1, rfl, hlt, by go_num, HFB.out _, Lib.hid (forall_lt_succ hall.out HK.out)⟩
      · obtain rfl : n = m + 1 := by omega
        go_wp2_with fail
        go_ret
        exact compPost_all hfb.out HZ.out hall.out
/-- v is a slice in a block of the call's own (from base on), which holds xs -/
def FOwn (base : Nat) (v : Value) (xs : List Ft) (w : World) : Prop :=
  (v = .slice none 0 0 ∧ xs = []) ∨ ∃ g cap, v = .slice (some ⟨g, 0, none⟩) xs.length cap ∧ base ≤ g ∧ cap ≤ maxLen ∧ FBlk w g cap xs.toArray
theorem FOwn.facts {base : Nat} {v : Value} {xs : List Ft} {w : World} (h : FOwn base v xs w) : ∃ A c, v = .slice A xs.length c ∧ xs.length ≤ c ∧ c ≤ maxLen ∧ FactsAt w w.heap.size A xs := by
  rcases h with ⟨rfl, rfl⟩ | ⟨g, cap, rfl, hg, hm, hb⟩
  · exact ⟨none, 0, rfl, Nat.le_refl _, by unfold maxLen; omega, FactsAt.nil⟩
  · exact ⟨_, cap, rfl, by simpa using hb.le, hm, hb.factsAll⟩
theorem FOwn.next {base : Nat} {v : Value} {xs : List Ft} {w w' : World} (h : FOwn base v xs w) (hb : Below w.heap.size w w') : FOwn base v xs w' := by
  rcases h with h | ⟨g, cap, h1, h2, h3, h4⟩
  · exact .inl h
  · exact .inr ⟨g, cap, h1, h2, h3, h4.below hb h4.lt⟩
theorem FRow.own {w wr : World} {v : Value} {xs : List Ft} (h : FRow w v xs wr) : FOwn w.heap.size v xs wr := by
  have h0 := Rws.head h
  obtain ⟨h1, h2⟩ := h0
  rcases h2 with ⟨hv, hx⟩ | ⟨g, cap, cur, hv, hg, hh, hnc, hmx, hs, hc⟩
  · dsimp only at hv hx
    left
    have e := List.eq_nil_of_length_eq_zero hx
    subst e
    exact ⟨hv, rfl⟩
  · dsimp only at hv hg hh hnc hmx hs hc
    right
    have hown := FBlk.of_own (w := wr) (base := w.heap.size) (g := g) (c := cap) (l := xs) ⟨h1, .inr ⟨g, cap, cur, rfl, hg, hh, hnc, hmx, hs, hc⟩⟩ rfl
    exact ⟨g, cap, hv, hg, hmx, hown.1⟩
end Go.Proofs.YtoejojfjiikogaaDoor
