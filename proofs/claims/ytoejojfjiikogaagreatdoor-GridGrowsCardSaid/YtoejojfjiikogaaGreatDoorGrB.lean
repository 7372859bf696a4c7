/- Joined texts: GrP GrX GrB. -/
import Derived.Test.YtoejojfjiikogaaGreatDoorGrO
import Derived.Deep.LoopGhost
import Derived.Deep.QuietTactic
import Derived.BigQuiet
import Derived.WalkSpells
import Derived.ChangeKeysEq
import Derived.Test.YtoejojfjiikogaaGreatDoorGrG
import Derived.Lib.AppendZerosOnto
import Derived.Lib.AppendZeros
import Derived.OwnWalk
namespace Go.Proofs.YtoejojfjiikogaaGreatDoor
open Go.RowKit Go.Lib
set_option linter.unusedVariables false
set_option linter.unusedSimpArgs false

theorem upTo_all {d : Array Ft} (h : ∀ j, j < d.size → keeps d j = true) : compactUpTo d d.size = d.toList := by rw [compactUpTo_all d _ h, range_map_get]
def CompPost (g cap : Nat) (d : Array Ft) (w : World) (e : Ending) (w' : World) : Prop :=
  e = .returned (.slice (some ⟨g, 0, none⟩) (compactUpTo d d.size).length cap) ∧ FBlk w' g cap (compactUpTo d d.size).toArray ∧ Below g w w'
theorem compPost_all {g cap n : Nat} {d : Array Ft} {w w' : World} (h : FBlk w' g cap d ∧ Below g w w') (hn : d.size = n) (hk : ∀ j, j < n → keeps d j = true) : CompPost g cap d w (.returned (.slice (some ⟨g, 0, none⟩) n cap)) w' := by
  subst hn
  exact ⟨by rw [upTo_all hk]; simp, by rw [upTo_all hk]; exact h.1, h.2⟩
theorem below_setCells {B b : Nat} (hB : B ≤ b) : ∀ (vs : List Value) (o : Nat) (w : World), Below B w (w.setCells b o vs)
  | [], _, w => Below.refl _ _
  | v :: r, o, w => ((Below.refl B w).setCell (p := ⟨b, o, none⟩) hB v).trans (below_setCells hB r (o + 1) _)
theorem blk_setCells {g : Nat} {t : TypeId} : ∀ (vs : List Value) (o : Nat) (w : World) (cs : Array Value), Blk w g t cs → ∃ cs', Blk (w.setCells g o vs) g t cs' ∧ cs'.size = cs.size ∧ ∀ q, q < o → cs'[q]? = cs[q]?
  | [], o, w, cs, h => ⟨cs, h, rfl, fun _ _ => rfl⟩
  | v :: r, o, w, cs, h => by
    obtain ⟨cs', h1, h2, h3⟩ := blk_setCells r (o + 1) (w.setCell ⟨g, o, none⟩ v) _ (h.set_ o v)
    refine ⟨cs', h1, by rw [h2]; simp, fun q hq => ?_⟩
    rw [h3 q (by omega), Array.getElem?_setIfInBounds, if_neg (by omega)]
theorem FBlk.cut {w : World} {g cap : Nat} {dk : Array Ft} {K : List Ft} (h : FBlk w g cap dk) (hk : K.length ≤ dk.size) (hK : ∀ q, q < K.length → K[q]? = some dk[q]!) (vs : List Value) : FBlk (w.setCells g (K.length * 2) vs) g cap K.toArray := by
  obtain ⟨cs, h1, h2, h3, h4⟩ := h
  obtain ⟨cs', g1, g2, g3⟩ := blk_setCells vs (K.length * 2) w cs h1
  refine ⟨cs', g1, by rw [g2, h2], by simpa using Nat.le_trans hk h3, fun t ht => ?_⟩
  have ht' : t < K.length * 2 := by simpa using ht
  rw [g3 t ht', h4 t (by omega)]
  have hq := hK (t / 2) (by omega)
  have : K.toArray[t / 2]! = dk[t / 2]! := by
    rw [getElem!_pos K.toArray (t / 2) (by simpa using (by omega : t / 2 < K.length))]
    have h9 := (List.getElem?_eq_some_iff.1 hq).2
    simpa using h9
  rw [this]
theorem run_clear_ft (g o n c cap : Nat) (ty : TypeId) (d : Array Ft) (w : World) (hd : FBlk w g cap d) (ho : o + (n + 1)*2 ≤ cap*2) :
    ∃ vs : List Value, (Builtin.clear_ #[30] ty #[.slice (some ⟨g, o, none⟩) (n + 1) c]).run Tryz.prog w = .ok (.tuple #[]) (w.setCells g o vs) := by
  have hz : (zeroValue 36).run Tryz.prog w = .ok (.agg #[.int .i64 0, .int .i64 0]) w := by kernel_rfl
  have hlen : (Builtin.zeroCells (Value.agg #[.int .i64 0, .int .i64 0]).cells (n + 1)).toList.length = (n + 1)*2 := by
    simp [Builtin.zeroCells, Value.cells]
  have h1 : ∀ v ∈ (Builtin.zeroCells (Value.agg #[.int .i64 0, .int .i64 0]).cells (n + 1)).toList, v.oneCell' = true := by
    intro v hv
    have hv' : v = .int .i64 0 := by
      simp only [Builtin.zeroCells, Value.cells] at hv
      obtain ⟨i, hi, he⟩ := List.mem_iff_getElem.1 hv
      have h3 : i % 2 = 0 ∨ i % 2 = 1 := by omega
      rcases h3 with h3 | h3 <;> simp [h3] at he <;> exact he.symm
    subst hv'
    rfl
  have hst := run_storeCells_cells (P := Tryz.prog) g o _ 0 w (fun j hj => by rw [hlen] at hj; exact hd.some_ (by omega)) (fun j hj => hd.frozen _) h1
  rw [Nat.add_zero] at hst
  refine ⟨(Builtin.zeroCells (Value.agg #[.int .i64 0, .int .i64 0]).cells (n + 1)).toList, ?_⟩
  simp [Builtin.clear_, run_underlying Tryz.underlying30, hz, hst]
theorem compPost_end {g cap kk n : Nat} {d dk : Array Ft} {w wi : World} (h : FBlk wi g cap dk ∧ Below g w wi) (hI : CompInv d n kk dk) (hn : d.size = n) (vs : List Value) :
    CompPost g cap d w (.returned (.slice (some ⟨g, 0, none⟩) kk cap)) (wi.setCells g (kk*2) vs) := by
  subst hn
  have hsz := hI.size
  have hlt := hI.lt
  refine ⟨by rw [hI.len], ?_, h.2.trans (below_setCells (Nat.le_refl _) vs _ _)⟩
  have := h.1.cut (K := compactUpTo d d.size) (by rw [hI.len]; omega) (fun q hq => hI.low q (by rw [hI.len] at hq; exact hq)) vs
  rwa [hI.len] at this
set_option maxHeartbeats 2000000 in
set_option maxRecDepth 20000 in
theorem compactF_any (g cap : Nat) (d : Array Ft) (w : World) (hd : FBlk w g cap d) (hsz : d.size ≤ 9223372036854775807) :
    Calls Tryz.prog 100 #[.slice (some ⟨g, 0, none⟩) d.size cap] w (CompPost g cap d w) := by
  have hle := hd.le
  have HD := Lib.hid (And.intro hd (Below.refl g w)); clear hd
  have hn0 := hsz
  by_cases h2 : d.size < 2
  · have HK : Hid (∀ j, j < d.size → keeps d j = true) := Lib.hid (fun j hj => keeps_lt_one d j (Nat.lt_of_lt_of_le hj (by omega)))
    go_enter Tryz.func100, Tryz.ntmps100
    go_wp2_with fail
    go_ret
    exact compPost_all HD.out rfl HK.out
  · generalize hz : d.size = n at *
    have HZ := Lib.hid hz; clear hz
    go_enter Tryz.func100, Tryz.ntmps100
    go_wp2_with fail
    go_loopg [3] n (fun gg s3 wr => ∃ m : Nat, gg = n - m ∧ m < n ∧ s3 = .int .i64 ((m : Int) + 1) ∧ Hid (FBlk wr g cap d ∧ Below g w wr) ∧ Hid (∀ j, j < m + 1 → keeps d j = true))
    case atStart => exact ⟨0, rfl, by omega, rfl, HD.out, keeps_lt_one d⟩
    case round =>
      obtain ⟨m, hgk, hm, rfl, hfb, hall⟩ := hrel
      have HGK := Lib.hid hgk; clear hgk
      by_cases hlt : m + 1 < n
      · obtain ⟨c0, c1⟩ := hfb.out.1.cells (show m + 1 < d.size by rw [HZ.out]; exact hlt)
        obtain ⟨p0, p1⟩ := hfb.out.1.cells (show m < d.size by rw [HZ.out]; omega)
        generalize hx : d[m+1]! = x at c0 c1
        generalize hy : d[m]! = y at p0 p1
        have HX := Lib.hid hx; clear hx
        have HY := Lib.hid hy; clear hy
        obtain ⟨xk, xa⟩ := x
        obtain ⟨yk, ya⟩ := y
        dsimp only at c0 c1 p0 p1
        have i1 : (0 : Int) ≤ (m : Int) := by omega
        have i2 : (m : Int) < (n : Int) := by omega
        have i3 : (0 : Int) ≤ (m : Int) + 1 := by omega
        have i4 : (m : Int) + 1 < (n : Int) := by omega
        have i5 : ((m : Int) + 1).toNat = m + 1 := by omega
        have i6 : IntKind.i64.wrap (m : Int) = (m : Int) := IntWalk.i64_in _ (by omega)
        by_cases hxy : (⟨xk, xa⟩ : Ft) = ⟨yk, ya⟩
        · have HEQ := Lib.hid hxy
          have heq := equal_ft xk xa yk ya (decide_eq_true hxy)
          have heq2 := equal_ft2 xk xa yk ya (decide_eq_true hxy)
          clear hxy
          go_wp2_with fail
          go_quiet (fail)
          clear heq heq2
          go_wp2_with fail
          have HC0 : Hid (CompInv d (m+1+1) (m+1) d) := Lib.hid (CompInv.start hall.out (keeps_neg (by omega) (by rw [HX.out, show m + 1 - 1 = m by omega, HY.out]; exact HEQ.out)))
          have HFB0 := Lib.hid (And.intro (hfb.out.1.next (w' := wr.drewN nq) rfl) (below_drewN hfb.out.2 nq))
          clear hfb c0 c1 p0 p1 i1 i2 i5 i6
          generalize World.drewN wr nq = wx at *
          generalize hn1 : n - (m + 1) = n1 at *
          have HN1 : Hid (n = m + 1 + n1) := Lib.hid (by omega)
          have hn1' : 1 ≤ n1 := by omega
          have hb1 : n1 ≤ n := by omega
          clear hn1 hlt
          go_loopg [3, 5] n (fun gg s3 s5 wi => ∃ (kk q : Nat) (dk : Array Ft), gg = n - q ∧ s3 = .int .i64 kk ∧ s5 = .int .i64 ((q : Int) + 1) ∧ q < n1 ∧ Hid (FBlk wi g cap dk ∧ Below g w wi) ∧ Hid (CompInv d (m+1+q+1) kk dk))
          case atStart => exact ⟨m+1, 0, d, rfl, by go_num, rfl, hn1', HFB0.out, HC0.out⟩
          case round =>
            obtain ⟨kk, q, dk, hgk2, rfl, rfl, hq, hfb, hci⟩ := hrel
            have HGK2 := Lib.hid hgk2; clear hgk2
            have hkm := hci.out.lt
            by_cases hlt2 : q + 1 < n1
            · have hm1 : m + 1 + (q + 1) < d.size := by rw [HZ.out, HN1.out]; omega
              have hds : dk.size = d.size := hci.out.size
              obtain ⟨c0, c1⟩ := hfb.out.1.cells (show m + 1 + (q + 1) < dk.size by rw [hds]; exact hm1)
              obtain ⟨p0, p1⟩ := hfb.out.1.cells (show m + 1 + q < dk.size by rw [hds]; omega)
              obtain ⟨o0, o1⟩ := hfb.out.1.cells (show kk < dk.size by rw [hds]; omega)
              rw [hci.out.high _ (by omega)] at c0 c1 p0 p1
              have f0 := hfb.out.1.frozen (kk*2)
              have f1 := hfb.out.1.frozen (kk*2+1)
              have HDS := Lib.hid (show kk < dk.size by rw [hds]; omega)
              have HM1 := Lib.hid hm1
              have hkn : kk < n := by rw [HZ.out] at hm1; omega
              clear hds hm1
              generalize hx2 : d[m+1+(q+1)]! = x2 at c0 c1
              generalize hy2 : d[m+1+q]! = y2 at p0 p1
              generalize dk[kk]! = z2 at o0 o1
              have HX2 := Lib.hid hx2; clear hx2
              have HY2 := Lib.hid hy2; clear hy2
              obtain ⟨uk, ua⟩ := x2
              obtain ⟨vk, va⟩ := y2
              rw [show (m+1+(q+1))*2 = (m+1)*2 + (q+1)*2 by omega] at c0 c1
              rw [show (m+1+q)*2 = (m+1)*2 + q*2 by omega] at p0 p1
              dsimp only at c0 c1 p0 p1
              have i1 : (0 : Int) ≤ (q : Int) := by omega
              have i2 : (q : Int) < (n1 : Int) := by omega
              have i3 : (0 : Int) ≤ (q : Int) + 1 := by omega
              have i4' : (q : Int) + 1 < (n1 : Int) := by omega
              have i5 : ((q : Int) + 1).toNat = q + 1 := by omega
              have i6 : IntKind.i64.wrap (q : Int) = (q : Int) := IntWalk.i64_in _ (by omega)
              by_cases huv : (⟨uk, ua⟩ : Ft) = ⟨vk, va⟩
              · have HK : Hid (keeps d (m+1+(q+1)) = false) := Lib.hid (keeps_neg (by omega) (by rw [HX2.out, show m+1+(q+1)-1 = m+1+q by omega, HY2.out]; exact huv))
                have heq := equal_ft uk ua vk va (decide_eq_true huv)
                have heq2 := equal_ft2 uk ua vk va (decide_eq_true huv)
                have HFB := Lib.hid (fun r => And.intro (hfb.out.1.next (w' := wr.drewN r) rfl) (below_drewN hfb.out.2 r))
                clear huv o0 o1 f0 f1
                go_wp2_with fail
                go_quiet (fail)
                clear heq heq2
                go_wp2_with fail
                go_roundg (n - (q + 1))
                case measure => rw [HGK2.out]; omega
                case rel => exact ⟨kk, q+1, dk, rfl, rfl, by go_num, by omega, HFB.out _, CompInv.skip hci.out HK.out⟩
              · have HK : Hid (keeps d (m+1+(q+1)) = true) := Lib.hid (keeps_pos (by rw [HX2.out, show m+1+(q+1)-1 = m+1+q by omega, HY2.out]; exact huv))
                have heq := equal_ft uk ua vk va (decide_eq_false huv)
                have heq2 := equal_ft2 uk ua vk va (decide_eq_false huv)
                have HST := Lib.hid (fun r => (show FBlk (wr.drewN r) g cap dk from hfb.out.1.next rfl).store HDS.out ⟨uk, ua⟩)
                have HBL := Lib.hid (fun r => below_drewN hfb.out.2 r)
                have HCI : Hid (CompInv d (m+1+(q+1)+1) (kk+1) (dk.setIfInBounds kk ⟨uk, ua⟩)) := Lib.hid (by have := CompInv.keep (m := m+1+(q+1)) hci.out HM1.out HK.out; rwa [HX2.out] at this)
                clear huv
                go_wp2_with fail
                go_quiet (fail)
                clear heq heq2
                go_wp2_with fail
                go_roundg (n - (q + 1))
                case measure => rw [HGK2.out]; omega
                case rel => exact ⟨kk+1, q+1, _, rfl, by go_num, by go_num, by omega, ⟨HST.out _, ((HBL.out _).setCell (Nat.le_refl _) _).setCell (Nat.le_refl _) _⟩, HCI.out⟩
            · have hend : m + 1 + q + 1 = n := by rw [HN1.out]; omega
              have hkn : kk < n := by omega
              have HCI : Hid (CompInv d n kk dk) := Lib.hid (by rw [← hend]; exact hci.out)
              obtain ⟨n2, hn2⟩ : ∃ n2, n = kk + (n2 + 1) := ⟨n - kk - 1, by omega⟩
              obtain ⟨vs, hcl⟩ := run_clear_ft g (kk*2) n2 (cap - kk) cap 0 dk wr hfb.out.1 (by have := hle; omega)
              have HN2 : n - kk = n2 + 1 := by omega
              rw [← HN2] at hcl
              have HP := Lib.hid (compPost_end hfb.out HCI.out HZ.out vs)
              clear hn2 HN2 hend
              go_wp2_with fail
              go_ret
              exact HP.out
        · have HNE := Lib.hid hxy
          have heq := equal_ft xk xa yk ya (decide_eq_false hxy)
          have heq2 := equal_ft2 xk xa yk ya (decide_eq_false hxy)
          clear hxy
          have HK : Hid (keeps d (m+1) = true) := Lib.hid (keeps_pos (by rw [HX.out]; exact fun e => HNE.out (e.trans HY.out)))
          have HFB := Lib.hid (fun q => And.intro (hfb.out.1.next (w' := wr.drewN q) rfl) (below_drewN hfb.out.2 q))
          go_wp2_with fail
          go_quiet (fail)
          clear heq heq2
          go_wp2_with fail
          go_roundg (n - (m + 1))
          case measure => rw [HGK.out]; omega
          case rel => exact ⟨m+1, rfl, hlt, by go_num, HFB.out _, Lib.hid (forall_lt_succ hall.out HK.out)⟩
      · obtain rfl : n = m + 1 := by omega
        go_wp2_with fail
        go_ret
        exact compPost_all hfb.out HZ.out hall.out
/-- v is a slice in a block of the call's own (from base on), which holds xs -/
def FOwn (base : Nat) (v : Value) (xs : List Ft) (w : World) : Prop :=
  (v = .slice none 0 0 ∧ xs = []) ∨ ∃ g cap, v = .slice (some ⟨g, 0, none⟩) xs.length cap ∧ base ≤ g ∧ cap ≤ maxLen ∧ FBlk w g cap xs.toArray
theorem FOwn.facts {base : Nat} {v : Value} {xs : List Ft} {w : World} (h : FOwn base v xs w) : ∃ A c, v = .slice A xs.length c ∧ xs.length ≤ c ∧ c ≤ maxLen ∧ FactsAt w w.heap.size A xs := by
  rcases h with ⟨rfl, rfl⟩ | ⟨g, cap, rfl, hg, hm, hb⟩
  · exact ⟨none, 0, rfl, Nat.le_refl _, by unfold maxLen; omega, FactsAt.nil⟩
  · exact ⟨_, cap, rfl, by simpa using hb.le, hm, hb.factsAll⟩
theorem FOwn.next {base : Nat} {v : Value} {xs : List Ft} {w w' : World} (h : FOwn base v xs w) (hb : Below w.heap.size w w') : FOwn base v xs w' := by
  rcases h with h | ⟨g, cap, h1, h2, h3, h4⟩
  · exact .inl h
  · exact .inr ⟨g, cap, h1, h2, h3, h4.below hb h4.lt⟩
theorem FRow.own {w wr : World} {v : Value} {xs : List Ft} (h : FRow w v xs wr) : FOwn w.heap.size v xs wr := by
  have h0 := Rws.head h
  obtain ⟨h1, h2⟩ := h0
  rcases h2 with ⟨hv, hx⟩ | ⟨g, cap, cur, hv, hg, hh, hnc, hmx, hs, hc⟩
  · dsimp only at hv hx
    left
    have e := List.eq_nil_of_length_eq_zero hx
    subst e
    exact ⟨hv, rfl⟩
  · dsimp only at hv hg hh hnc hmx hs hc
    right
    have hown := FBlk.of_own (w := wr) (base := w.heap.size) (g := g) (c := cap) (l := xs) ⟨h1, .inr ⟨g, cap, cur, rfl, hg, hh, hnc, hmx, hs, hc⟩⟩ rfl
    exact ⟨g, cap, hv, hg, hmx, hown.1⟩
end Go.Proofs.YtoejojfjiikogaaGreatDoor
namespace Go.Proofs.YtoejojfjiikogaaGreatDoor
open Go.RowKit
set_option linter.unusedVariables false
set_option linter.unusedSimpArgs false

theorem cellsF_oneCell (xs : List Ft) : ∀ u ∈ cellsF xs, u.oneCell' = true := by
  intro u hu
  obtain ⟨x, _, hx⟩ := List.mem_flatMap.1 hu
  simp [valG] at hx
  rcases hx with rfl | rfl <;> rfl
theorem FactsAt.reads {w : World} {B : Nat} {A : Option Addr} {xs : List Ft} (h : FactsAt w B A xs) : Reads w B 2 A xs.length (cellsF xs) := by
  refine ⟨by rw [cellsF_length], fun hn => ?_⟩
  obtain ⟨u0, hu0⟩ := get_of_lt rfl hn
  obtain ⟨b, off, hA, hb, _⟩ := h 0 u0 hu0
  refine ⟨_, hA, hb, fun j v hv => ?_⟩
  have hjl : j < xs.length*2 := by have := (List.getElem?_eq_some_iff.1 hv).1; rwa [cellsF_length] at this
  obtain ⟨u, hu⟩ := get_of_lt (k := j / 2) (l := xs) rfl (by omega)
  obtain ⟨b', off', hA', _, hc⟩ := h _ u hu
  rw [hA] at hA'; cases hA'
  have hm : j % 2 < (valG u).length := by simp [valG]; omega
  have hg := cellsF_get hu (List.getElem?_eq_getElem hm)
  rw [show j / 2*2 + j % 2 = j by omega] at hg
  rw [hv] at hg
  have := hc (j % 2) v (by rw [List.getElem?_eq_getElem hm]; exact hg.symm)
  rw [Addr.add_lit]
  rwa [show j / 2*2 + j % 2 = j by omega] at this
theorem size_zeroCells (z : Array Value) (k : Nat) : (Builtin.zeroCells z k).size = k * z.size := by simp [Builtin.zeroCells]
set_option maxHeartbeats 2000000 in
set_option maxRecDepth 20000 in
/-- slices.Grow of the nil slice -/
theorem growF_any (n : Nat) (w : World) (hn : n ≤ 4000000) : Calls Tryz.prog 129 #[.slice none 0 0, .int .i64 n] w fun e w' => ∃ v, e = .returned v ∧ FRow w v [] w' := by
  by_cases h0 : n = 0
  · subst h0
    go_enter Tryz.func129, Tryz.ntmps129
    go_wp2_with fail
    go_ret
    exact ⟨_, rfl, FRow.nil (Below.refl _ _)⟩
  · obtain ⟨i0, hi0, hz0, hz1, hz2⟩ := info_parts infoFt
    have h1 : (0 : Int) < (n : Int) := by omega
    have hrz : ∀ ty, (Builtin.append_ #[30, 3] ty #[.slice none 0 0, .int .i64 (n : Int)]).run Tryz.prog w = _ := fun ty =>
      Lib.run_append_grow_zeros w 30 3 ty 36 i0 _ .i64 .i64 Tryz.underlying30 Tryz.underlying3 hi0 hz0 none 0 0 [] (run_firstCells_none w.drew i0.size 0 0 0) n (by omega) (by rw [hz1]; omega) (by omega) (by omega) (by rw [hz2]; omega) (by rw [hz2]; exact growslice_fits (by omega) (by omega))
    simp only [Nat.zero_add] at hrz
    have hge := grownCap_ge w n 0 36
    have hle := grownCap_le_maxLen w n 0 36 (by unfold maxLen; omega)
    generalize grownCap w n 0 36 = G at *
    obtain ⟨cs, hcs⟩ : ∃ cs, cs = (([] : List Value).toArray ++ Builtin.zeroCells (Value.agg #[.int .i64 0, .int .i64 0]).cells n) ++ Builtin.zeroCells (Value.agg #[.int .i64 0, .int .i64 0]).cells (G - n) := ⟨_, rfl⟩
    rw [← hcs] at hrz
    have HR : Hid (FRow w (.slice (some ⟨w.heap.size, 0, none⟩) 0 G) [] ((w.alloc (.cells cs 36)).drew)) := Lib.hid (by
      refine ⟨((Below.refl _ _).alloc (Nat.le_refl _) _).drew, fun r hr => ?_, List.pairwise_singleton _ _⟩
      simp at hr; subst hr
      refine ⟨rfl, .inr ⟨w.heap.size, G, cs, rfl, Nat.le_refl _, Blk.new w _ _, Nat.zero_le _, hle, ?_, by simp [cellsF]⟩⟩
      rw [hcs]
      simp [size_zeroCells, Value.cells]
      omega)
    clear hcs
    unfold maxLen at hle
    have hw0 := i64_w ((n : Int) - 0) (by omega) (by omega)
    go_enter Tryz.func129, Tryz.ntmps129
    go_wp2_with (at_builtin; refine Lib.wpList_append_run _ rfl _ _ _ _ rfl _ _ rfl rfl _ _ (hrz _) ?_)
    go_ret
    exact ⟨_, rfl, HR.out⟩

end Go.Proofs.YtoejojfjiikogaaGreatDoor
namespace Go.Proofs.YtoejojfjiikogaaGreatDoor
open Go.RowKit
set_option linter.unusedVariables false
set_option linter.unusedSimpArgs false

theorem compactF_nil (p : Option Addr) (c : Nat) (w : World) : Calls Tryz.prog 100 #[.slice p 0 c] w fun e w' => e = .returned (.slice p 0 c) ∧ w' = w := by
  go_enter Tryz.func100, Tryz.ntmps100
  go_wp2_with fail
  go_ret
  exact ⟨rfl, rfl⟩
def SortPost (l : List Ft) (w : World) (e : Ending) (w' : World) : Prop := ∃ v, e = .returned v ∧ FOwn w.heap.size v (ofL l) w' ∧ Below w.heap.size w w'
set_option maxHeartbeats 2000000 in
set_option maxRecDepth 20000 in
/-- grid.sorted: what slices.Concat gives, sorted, each cell once -/
theorem sorted_any (V : Value) (l : List Ft) (w : World) (hlen : l.length ≤ 4000000)
    (hc : Calls Tryz.prog 98 #[V] w fun e w' => ∃ v, e = .returned v ∧ FRow w v l w') :
    Calls Tryz.prog 67 #[V] w (SortPost l w) := by
  have HC := Lib.hid hc; clear hc
  have HLE := Lib.hid hlen; clear hlen
  go_enter Tryz.func67, Tryz.ntmps67
  go_wp2_with fail
  refine HC.out.mono ?_
  rintro e w1 ⟨v, rfl, hr⟩
  have HBE := Lib.hid hr.bel
  rcases hr.own with ⟨rfl, hnl⟩ | ⟨g, cap, rfl, hg, hm, hb⟩
  · have HNL := Lib.hid hnl
    clear hr hnl HC
    go_wp2_with (first | (go_at_call 99; refine (sortF_none _ _ _ _).mono ?_; rintro e w2 ⟨rfl, rfl⟩) | (go_at_call 100; refine (compactF_nil _ _ _).mono ?_; rintro e w3 ⟨rfl, rfl⟩))
    go_ret
    exact ⟨_, rfl, .inl ⟨rfl, by rw [HNL.out]; exact ofL_nil⟩, HBE.out⟩
  · have HG := Lib.hid hg
    have HM := Lib.hid hm
    have HSO := Lib.hid (sortF_any g cap cap l.toArray w1 w.heap.size hg hb (by have := HLE.out; simp; omega))
    have hsz5 : l.toArray.size = l.length := by simp
    rw [hsz5] at HSO
    have HOF : Hid (Go.Lib.compactUpTo (srtL l).toArray (srtL l).toArray.size = ofL l) := Lib.hid (by unfold ofL Go.Lib.compact; simp)
    have HLS : Hid ((srtL l).toArray.size = l.length) := Lib.hid (by simp [srtL_length])
    clear hr hg hm hb HC hsz5
    show _
    simp only [] at HSO
    generalize (srtL l).toArray = d1 at *
    generalize hn5 : l.length = n5 at *
    have HN5 := Lib.hid hn5; clear hn5
    have HO2 : Hid (∀ W, FBlk W g cap d1 → Calls Tryz.prog 100 #[.slice (some ⟨g, 0, none⟩) n5 cap] W (CompPost g cap d1 W)) := Lib.hid (fun W hW => by have := compactF_any g cap d1 W hW (by have := HLE.out; rw [HLS.out]; omega); rwa [HLS.out] at this)
    go_wp2_with fail
    refine HSO.out.mono ?_
    rintro e w2 ⟨rfl, hf2, hb2⟩
    have HB2 := Lib.hid (HBE.out.trans hb2)
    have HF2 := Lib.hid hf2
    clear hf2 hb2
    go_wp2_with fail
    refine (HO2.out _ HF2.out).mono ?_
    rintro e w3 ⟨rfl, hf3, hb3⟩
    rw [HOF.out] at hf3 ⊢
    have HF3 := Lib.hid hf3
    have HB3 := Lib.hid (HB2.out.trans (hb3.mono HG.out))
    clear hf3 hb3
    generalize hll2 : (ofL l).length = n6 at *
    have HL6 := Lib.hid hll2; clear hll2
    go_wp2_with fail
    go_ret
    exact ⟨_, rfl, .inr ⟨g, cap, by rw [HL6.out]; rfl, HG.out, HM.out, HF3.out⟩, HB3.out⟩
/-- v is a slice that holds l -/
def Fs (v : Value) (l : List Ft) (w : World) : Prop := ∃ A c, v = .slice A l.length c ∧ l.length ≤ c ∧ c ≤ maxLen ∧ FactsAt w w.heap.size A l
theorem Fs.next {v : Value} {l : List Ft} {w w' : World} (h : Fs v l w) (hb : Below w.heap.size w w') : Fs v l w' := by
  obtain ⟨A, c, h1, h2, h3, h4⟩ := h
  exact ⟨A, c, h1, h2, h3, h4.next hb⟩
def FsPost (l : List Ft) (w : World) (e : Ending) (w' : World) : Prop := ∃ v, e = .returned v ∧ Fs v l w' ∧ Below w.heap.size w w'
set_option maxHeartbeats 4000000 in
set_option maxRecDepth 20000 in
/-- slices.Concat of one slice -/
theorem concat1_any (la : List Ft) (A : Option Addr) (n ca g : Nat) (w : World) (hn : n = la.length) (hs : n ≤ 1100000)
    (hA : FactsAt w w.heap.size A la) (hg : Blk w g 30 #[.slice A n ca]) :
    Calls Tryz.prog 98 #[.slice (some ⟨g, 0, none⟩) 1 1] w fun e w' => ∃ v, e = .returned v ∧ FRow w v la w' := by
  have HA := Lib.hid hA.reads
  rw [← hn] at HA
  have HN := Lib.hid hn
  have hlt := hg.lt
  have HGR := Lib.hid (fun W => growF_any n W (by omega))
  have k0 := hg.cell 0
  simp at k0
  clear hg hA hn
  have hw1 := i64_w (n : Int) (by omega) (by omega)
  go_enter Tryz.func98, Tryz.ntmps98
  go_wp2_with fail
  go_loop [3, 11] (fun s i => (s = .int .i64 0 ∧ i = .int .i64 0) ∨ (s = .int .i64 (n : Int) ∧ i = .int .i64 1)) (fun s i => 1 - (intOf i).toNat)
  case atStart => exact .inl ⟨rfl, rfl⟩
  case round =>
    rcases hrel with ⟨rfl, rfl⟩ | ⟨rfl, rfl⟩
    · go_wp2_with fail
      go_round
      case rel => exact .inr ⟨by go_num, rfl⟩
      case measure => simp [intOf]
    · go_wp2_with fail
      refine (HGR.out w).mono ?_
      rintro e w1 ⟨v1, rfl, hr1⟩
      have HR1 := Lib.hid hr1; clear hr1
      go_wp2_with fail
      go_loopg [6, 27] 1 (fun kx v i wr => (kx = 1 ∧ i = .int .i64 0 ∧ Hid (FRow w v [] wr)) ∨ (kx = 0 ∧ i = .int .i64 1 ∧ Hid (FRow w v la wr)))
      case atStart => exact .inl ⟨rfl, rfl, HR1.out⟩
      case round =>
        rcases hrel with ⟨rfl, rfl, hr⟩ | ⟨rfl, rfl, hr⟩
        · have c0 := (hr.out.bel.cell (p := ⟨g, 0, none⟩) hlt).trans k0
          clear k0
          go_wp2_with (at_builtin; refine wpList_append_row rfl _ _ _ rfl Tryz.underlying30 infoFt rfl rfl (hr.out.row rfl) rfl rfl (HA.out.below hr.out.bel) (cellsF_oneCell la) (by simp; omega) ?_; intro v2 w2 hr2 hb2)
          have HR2 : Hid (FRow w v2 la w2) := Lib.hid (by unfold FRow; rw [← HN.out]; simpa [cellsF] using hr2)
          clear hr2
          go_roundg 0
          case measure => omega
          case rel => exact .inr ⟨rfl, rfl, HR2.out⟩
        · go_wp2_with fail
          go_ret
          exact ⟨_, rfl, hr.out⟩
/-- grid.sorted of one slice, boxed at block g -/
theorem sorted1_any (la : List Ft) (A : Option Addr) (n ca g : Nat) (w : World) (hn : n = la.length) (hs : n ≤ 1000) (hA : FactsAt w w.heap.size A la) (hg : Blk w g 30 #[.slice A n ca]) :
    Calls Tryz.prog 67 #[.slice (some ⟨g, 0, none⟩) 1 1] w (SortPost la w) :=
  sorted_any _ la _ (by omega) (concat1_any la A n ca g w hn (by omega) hA hg)
end Go.Proofs.YtoejojfjiikogaaGreatDoor
