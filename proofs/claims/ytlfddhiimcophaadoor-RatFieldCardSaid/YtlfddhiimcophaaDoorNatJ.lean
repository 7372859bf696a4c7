/- Walks of package nat: Text. -/
import Derived.Test.YtlfddhiimcophaaDoorNatI
namespace Go.Proofs.YtlfddhiimcophaaDoor
open Go.RowKit
set_option linter.unusedVariables false
set_option linter.unusedSimpArgs false

theorem wval_zero_iff {X : List Nat} {x : Nat} {n : Nat} (hn : X.length = n + 1) (h : X[n]? = some x) (hx : x ≠ 0) : 4294967296 ^ n ≤ wval X := by
  have := wval_ge h
  have h2 : 4294967296 ^ n * 1 ≤ 4294967296 ^ n * x := Nat.mul_le_mul_left _ (by omega)
  omega
/-- one word of a division by 10 -/
theorem ten_step {V Y Y' Z Z' B x q r r' : Nat} (h : V + 9 * Z = 10 * Y + B * 4294967296 * r) (hz : Z = Z' + B * x) (hy : Y' + B * x = Y + B * q) (hq : 4294967296 * r + x = 10 * q + r') : V + 9 * Z' = 10 * Y' + B * r' := by
  have e : B * 4294967296 * r + B * x = 10 * (B * q) + B * r' := by
    have := congrArg (B * ·) hq
    simp only [Nat.mul_add] at this
    rw [show B * 4294967296 * r = B * (4294967296 * r) from Nat.mul_assoc _ _ _, this]
    grind
  omega
theorem or_shl {r x : Nat} (hr : r < 10) (hx : x < 4294967296) : bits .or .u64 ((r : Int) * 4294967296) (x : Int) = ((r * 4294967296 + x : Nat) : Int) := by
  have e : (r : Int) * 4294967296 = ((r * 4294967296 : Nat) : Int) := by omega
  rw [e, u64_or_nat (r * 4294967296) x (by omega) (by omega), nat_join 32 (r * 4294967296) x (by omega) (by omega)]

set_option maxRecDepth 20000 in
theorem Text_S (m : Nat) (w : World) (hm : (bstr m).length ≤ 35184372088832) :
    Calls Tryd.prog 14 #[.string (S m)] w fun e w' => e = .returned (.string (T m)) ∧ Below w.heap.size w w' := by
  have hdl := dig_small hm
  have HDL := Lib.hid hdl; clear hdl
  obtain ⟨i0, hi0, hz0, hz1, hz2⟩ := info_parts infoU8
  go_enter Tryd.func14, Tryd.ntmps14
  go_wp2_with fail
  refine (words_any (S m) _ (by rw [S_size]; omega)).mono ?_
  rintro e w1 ⟨g, ws, rfl, hg, hblk, hbel, hwok, hval, hlen⟩
  rw [toL_S, bval_bstr] at hval hlen
  have HB1 := Lib.hid hbel; clear hbel
  have hgl := hblk.lt
  have HBLK := Lib.hid hblk
  have HWS := Lib.hid (And.intro hwok (And.intro hval hlen))
  have hwl : ws.length ≤ 35184372088832 := by omega
  generalize hn0 : ws.length = n0 at *
  have HN0 := Lib.hid hn0
  clear hblk hwok hval hlen hm hn0
  go_wp2_with fail
  go_loopg [3, 4, 5, 6] m (fun k x o r i wr => ∃ (X Tl : List Nat) (ds : List UInt8) (n c : Nat), k = wval X ∧ x = .slice (some ⟨g, 0, none⟩) n c ∧ Hid (n = X.length ∧ n ≤ c ∧ (0 < n → 0 < wval X)) ∧ n ≤ 35184372088832 ∧ Hid (wr.ownsRow w1.heap.size 5 1 o ds.length (bcells ds).toList) ∧ Hid (Blk wr g 61 (wcells (X ++ Tl))) ∧ Hid (Below w.heap.size w wr) ∧ Hid (w1.heap.size ≤ wr.heap.size) ∧ Hid (Wok X ∧ ds ++ dig (wval X) = dig m))
  case atStart =>
    refine ⟨ws, [], [], n0, n0, HWS.out.2.1.symm, rfl, ⟨HN0.out.symm, Nat.le_refl _, ?_⟩, hwl, World.ownsRow_nil _ _ _ _, by rw [List.append_nil]; exact HBLK.out, HB1.out, Nat.le_refl _, HWS.out.1, by rw [HWS.out.2.1]; rfl⟩
    intro h0
    rw [HWS.out.2.1]
    rcases Nat.eq_zero_or_pos m with h | h
    · have h1 := HWS.out.2.2
      rw [h, bstr_zero] at h1
      simp at h1; omega
    · exact h
  case round =>
    obtain ⟨X, Tl, ds, n, c, hgk, rfl, hn, hnl, hown, hb, hbel, hwr, hx⟩ := hrel
    have HGK := Lib.hid hgk; clear hgk
    by_cases hlt : 0 < n
    · have hpos' := hn.out.2.2 hlt
      have hszr : w1.heap.size ≤ wr.heap.size := hwr.out
      have HPOS := Lib.hid hpos'; clear hpos'
      have HNL' := Lib.hid hnl
      go_wp2_with fail
      have HKEEP : ∀ wi, wr.grownBy wi (some g) → wi.ownsRow w1.heap.size 5 1 _ ds.length (bcells ds).toList ∧ Below w.heap.size w wi := fun wi hgi =>
        ⟨hown.out.kept hgi (by
          right; intro h
          have := (hown.out.lt g h).1
          omega), hbel.out.grown hgi hbel.out.size (by intro k hk; cases hk; exact hg)⟩
      have HK := Lib.hid HKEEP; clear HKEEP
      go_loopg [5, 6] n (fun k r i wi => ∃ (j rr : Nat) (Y : List Nat), k = j ∧ j ≤ n ∧ rr < 10 ∧ r = .int .u64 rr ∧ i = .int .i64 ((j : Int) - 1) ∧ Hid (wr.grownBy wi (some g)) ∧ Hid (Blk wi g 61 (wcells (Y ++ Tl))) ∧ Hid (Y.length = n ∧ Wok Y ∧ wval X + 9 * wval (Y.take j) = 10 * wval Y + 4294967296 ^ j * rr))
      case atStart => exact ⟨n, 0, X, rfl, Nat.le_refl _, by omega, rfl, rfl, World.grownBy.refl _ _, hb.out, hn.out.1.symm, hx.out.1, by rw [hn.out.1, List.take_length]; omega⟩
      case round =>
        obtain ⟨j, rr, Y, hgk2, hj, hr, rfl, rfl, hgr, hby, hy⟩ := hrel
        have HGK2 := Lib.hid hgk2; clear hgk2
        by_cases hlt2 : 0 < j
        · obtain ⟨j, rfl⟩ : ∃ j', j = j' + 1 := ⟨j - 1, by omega⟩
          rw [show (((j + 1 : Nat) : Int) - 1) = (j : Int) by omega]
          obtain ⟨x, hx2⟩ := get_of_lt hy.out.1.symm (show j < n by omega)
          have c0 := (hby.out.cell j).trans (wcells_get (show (Y ++ Tl)[j]? = some x by rw [List.getElem?_append_left (by rw [hy.out.1]; omega)]; exact hx2))
          have f0 := hby.out.frozen j
          have hj' : j ≤ n := by omega
          have hw64 : Value.int .i64 (wrap64 ((j : Int) - 1)) = .int .i64 ((j : Int) - 1) := by rw [IntWalk.wrap64_in _ (by omega)]
          have hxlt := hy.out.2.1.get hx2
          have HX2 := Lib.hid hx2; clear hx2 hlt2 hnl
          go_wp2_with fail
          have hq : 4294967296 * rr + x = 10 * ((rr * 4294967296 + x) / 10) + (rr * 4294967296 + x) % 10 := by omega
          have e1 : bits .or .u64 ((rr : Int) * 4294967296) (x : Int) = ((rr * 4294967296 + x : Nat) : Int) := or_shl hr hxlt
          have e2 : (((rr * 4294967296 + x : Nat) : Int)).tdiv 10 = (((rr * 4294967296 + x) / 10 : Nat) : Int) := rfl
          have e3 : (((rr * 4294967296 + x : Nat) : Int)).tmod 10 = (((rr * 4294967296 + x) % 10 : Nat) : Int) := rfl
          have e4 : IntKind.u64.wrap (((rr * 4294967296 + x) / 10 : Nat) : Int) % 4294967296 = (((rr * 4294967296 + x) / 10 : Nat) : Int) := by rw [IntKind.wrap_u64]; omega
          rw [e1, e2, e3, e4]
          have hqlt : (rr * 4294967296 + x) / 10 < 4294967296 := by omega
          have hrlt : (rr * 4294967296 + x) % 10 < 10 := by omega
          go_roundg j
          case measure => rw [HGK2.out]; omega
          case rel =>
            refine ⟨j, (rr * 4294967296 + x) % 10, Y.set j ((rr * 4294967296 + x) / 10), rfl, hj', hrlt, rfl, hw64, grown_set hgr.out _ _, ?_, ?_⟩
            · have h1 := hby.out.set_ j (.int .u32 (((rr * 4294967296 + x) / 10 : Nat) : Int))
              rw [wcells_set, List.set_append_left _ _ (by rw [hy.out.1]; omega)] at h1
              exact h1
            · refine ⟨by rw [List.length_set]; exact hy.out.1, hy.out.2.1.set _ hqlt, ?_⟩
              have h0 := hy.out.2.2
              rw [Nat.pow_succ] at h0
              have h2 := wval_take_succ HX2.out
              rw [List.take_set_of_le (Nat.le_refl _)]
              exact ten_step h0 h2 (wval_put HX2.out _) hq
        · obtain rfl : j = 0 := by omega
          have e0 : ((0 : Nat) : Int) - 1 = -1 := rfl
          rw [e0]; clear e0 hj hlt2
          obtain ⟨hown1, hbel1⟩ := HK.out _ hgr.out
          have HB2 := Lib.hid hbel1
          have HOWN := Lib.hid hown1
          have hrr : rr < 10 := hr
          have hds : ds.length + 1 ≤ 105553116266496 := by
            have h1 := congrArg List.length hx.out.2
            have h2 := HDL.out
            have h3 := HPOS.out
            rw [dig_succ (by omega)] at h1
            simp only [List.length_append, List.length_cons] at h1
            omega
          have HDS := Lib.hid hds
          have hsz1 : w1.heap.size ≤ wr.heap.size := Nat.le_trans hszr hgr.out.size
          clear hown1 hbel1 hds hr
          go_wp2_with (at_builtin; (refine wpList_append_any _ rfl (.tmp 37) (.tmp 41) _ rfl w1.heap.size 5 i0 _ 1 1 Tryd.underlying58 hi0 hz0 hz1 hz2 rfl (by omega) _ ds.length (bcells ds).toList rfl (HOWN.out.alloc _) _ (some ⟨wr.heap.size, 0, none⟩) 1 1 [.int .u8 (48 + (rr : Int))] rfl (Blk.reads (t := 5) (cs := #[.int .u8 (48 + (rr : Int))]) (Blk.new _ _ _) rfl rfl) (by simp [Value.oneCell']) (by have := HDS.out; unfold maxLen; omega) (by have := HDS.out; omega) (by simp; omega) ?_; intro v2 w2 hown2 hg2 hat2))
          have hgl2 : g < w1.heap.size := hgl
          have hb2 : Blk w2 g 61 (wcells (Y ++ Tl)) := (hby.out.alloc _).grown hg2 (fun h => by have := (HOWN.out.lt g h.symm).1; omega)
          have hbel2 : Below w.heap.size w w2 := (HB2.out.alloc HB2.out.size _).grown hg2 (by have := HB2.out.size; simp; omega) (fun k hk => Nat.le_trans HB1.out.size (HOWN.out.lt k hk).1)
          have hsz2 : w1.heap.size ≤ w2.heap.size := by have := hg2.size; simp at this; omega
          have hrlt : rr < 10 := hrr
          have e8 : ((48 : Int) + (rr : Int)) = ((UInt8.ofNat (48 + rr)).toNat : Int) := by
            rw [UInt8.toNat_ofNat_of_lt' (by simp [UInt8.size]; omega)]; omega
          have hown3 : w2.ownsRow w1.heap.size 5 1 v2 (ds ++ [UInt8.ofNat (48 + rr)]).length (bcells (ds ++ [UInt8.ofNat (48 + rr)])).toList := by
            have h1 : (bcells (ds ++ [UInt8.ofNat (48 + rr)])).toList = (bcells ds).toList ++ [.int .u8 (48 + (rr : Int))] := by rw [e8]; simp [bcells]
            rw [h1, List.length_append]; exact hown2
          have HOWN3 := Lib.hid hown3
          have HBEL2 := Lib.hid hbel2
          have HB2' := Lib.hid hb2
          have HSZ2 := Lib.hid hsz2
          have hy0 := hy.out.2.2
          rw [List.take_zero] at hy0
          have hy1 : wval Y = wval X / 10 ∧ rr = wval X % 10 := by
            have e0 : wval [] = 0 := rfl
            rw [e0, Nat.pow_zero] at hy0
            omega
          have HY1 := Lib.hid hy1
          clear hown2 hg2 hat2 hown3 hbel2 hb2 hsz2 hrlt e8 hy0 hy1 hsz1 hgl2
          go_loopg [3] n (fun k x w3 => w2 = w3 ∧ ∃ (p : Nat), k = p ∧ p ≤ n ∧ x = .slice (some ⟨g, 0, none⟩) p c ∧ Hid (wval (Y.take p) = wval Y))
          case atStart => exact ⟨rfl, n, rfl, Nat.le_refl _, rfl, show wval (Y.take n) = wval Y by rw [← hy.out.1, List.take_length]⟩
          case round =>
            obtain ⟨rfl, p, hgk3, hp, rfl, hpv⟩ := hrel
            have HGK3 := Lib.hid hgk3; clear hgk3
            have hpc : p ≤ c := Nat.le_trans hp hn.out.2.1
            by_cases hlt3 : 0 < p
            · obtain ⟨x, hx2⟩ := get_of_lt hy.out.1.symm (show p - 1 < n by omega)
              have c0 := (HB2'.out.cell (p - 1)).trans (wcells_get (show (Y ++ Tl)[p - 1]? = some x by rw [List.getElem?_append_left (by rw [hy.out.1]; omega)]; exact hx2))
              have f0 := HB2'.out.frozen (p - 1)
              have HX2 := Lib.hid hx2; clear hx2
              have q0 : (0 : Int) ≤ (p : Int) - 1 := by omega
              have q1 : (p : Int) - 1 < (p : Int) := by omega
              have q2 : ((p : Int) - 1).toNat = p - 1 := by omega
              have q3 : (p : Int) - 1 ≤ (c : Int) := by omega
              have q4 : ((p : Int) - 1) ≤ (p : Int) := by omega
              by_cases hx0 : x = 0
              · subst hx0
                go_wp2_with fail
                go_roundg (p - 1)
                case measure => rw [HGK3.out]; omega
                case rel =>
                  refine ⟨rfl, p - 1, rfl, by omega, rfl, ?_⟩
                  show wval (Y.take (p - 1)) = wval Y
                  have h1 := wval_take_succ HX2.out
                  rw [show p - 1 + 1 = p by omega, hpv.out] at h1
                  omega
              · have hx1 : ((x : Int) == 0) = false := by simpa using hx0
                go_wp2_with fail
                go_roundg (wval (Y.take p))
                case measure => rw [HGK.out, hpv.out, HY1.out.1]; have := HPOS.out; omega
                case rel =>
                  refine ⟨Y.take p, Y.drop p ++ Tl, ds ++ [UInt8.ofNat (48 + rr)], p, c, rfl, rfl, ⟨by rw [List.length_take, hy.out.1]; omega, hpc, ?_⟩, by have := HNL'.out; omega, HOWN3.out, by rw [← List.append_assoc, List.take_append_drop]; exact HB2'.out, HBEL2.out, HSZ2.out, hy.out.2.1.take p, ?_⟩
                  · intro hp0
                    have h9 := wval_zero_iff (X := Y.take p) (n := p - 1) (by rw [List.length_take, hy.out.1]; omega) (by rw [List.getElem?_take_of_lt (by omega)]; exact HX2.out) hx0
                    have : 0 < 4294967296 ^ (p - 1) := Nat.pow_pos (by omega)
                    omega
                  · rw [hpv.out, HY1.out.1, ← hx.out.2, dig_succ (show wval X ≠ 0 by have := HPOS.out; omega), HY1.out.2]; simp
            · go_wp2_with fail
              go_roundg (wval (Y.take p))
              case measure => rw [HGK.out, hpv.out, HY1.out.1]; have := HPOS.out; omega
              case rel =>
                refine ⟨Y.take p, Y.drop p ++ Tl, ds ++ [UInt8.ofNat (48 + rr)], p, c, rfl, rfl, ⟨by rw [List.length_take, hy.out.1]; omega, hpc, ?_⟩, by have := HNL'.out; omega, HOWN3.out, by rw [← List.append_assoc, List.take_append_drop]; exact HB2'.out, HBEL2.out, HSZ2.out, hy.out.2.1.take p, ?_⟩
                · intro hp0
                  omega
                · rw [hpv.out, HY1.out.1, ← hx.out.2, dig_succ (show wval X ≠ 0 by have := HPOS.out; omega), HY1.out.2]; simp
    · obtain rfl : n = 0 := by omega
      obtain ⟨A, cc, ho, hcc⟩ := own_slice hown.out
      have hds : ds = dig m := by
        have h1 := List.eq_nil_of_length_eq_zero hn.out.1.symm
        have h2 := hx.out.2
        rw [h1] at h2
        have e0 : wval [] = 0 := rfl
        rw [e0, dig_zero, List.append_nil] at h2
        exact h2
      subst ho
      have hdl : ds.length ≤ 105553116266496 := by have := HDL.out; rw [← hds] at this; omega
      by_cases hd0 : ds.length = 0
      · have hm0 : m = 0 := dig_eq_nil.1 (by rw [← hds]; exact List.eq_nil_of_length_eq_zero hd0)
        have HM0 := Lib.hid hm0; clear hm0 hds
        rw [hd0]
        clear hnl hlt
        go_wp2_with fail
        go_ret
        exact ⟨by rw [HM0.out]; rfl, hbel.out⟩
      · obtain ⟨g2, hA, hg2, hrow, hl⟩ := rowB_of_own hown.out (by omega)
        subst hA
        have HDS := Lib.hid hds; clear hds hl
        have HROW := Lib.hid hrow; clear hrow
        have hgw : w.heap.size ≤ g2 := Nat.le_trans HB1.out.size hg2
        have HGW := Lib.hid hgw; clear hgw hg2 hlt hnl
        generalize hk : ds.length = k at *
        have HKK := Lib.hid hk; clear hk
        have q9 : (1 : Int) ≤ (k : Int) := by omega
        have hbool : (((k : Nat) : Int) == 0) = false := by simpa using hd0
        go_wp2_with fail
        clear hbool
        go_loopg [7, 8] k (fun kk i j wv => ∃ (a : Nat) (bs : List UInt8), kk = k - a ∧ a ≤ k ∧ i = .int .i64 a ∧ j = .int .i64 ((k : Int) - 1 - (a : Int)) ∧ Hid (RowB wv g2 bs) ∧ Hid (Below w.heap.size w wv) ∧ Hid (Swp ds a bs))
        case atStart => exact ⟨0, ds, rfl, Nat.zero_le _, rfl, by go_num, HROW.out, hbel.out, Swp.zero _⟩
        case round =>
          obtain ⟨a, bs, hgk, ha, rfl, rfl, hrow, hbel2, hswp⟩ := hrel
          have HGK := Lib.hid hgk; clear hgk
          by_cases hlt : a + a + 1 < k
          · have hbl : k = bs.length := by rw [hswp.out.1]; exact HKK.out.symm
            obtain ⟨x, hx⟩ := get_of_lt hbl (show a < k by omega)
            obtain ⟨y, hy⟩ := get_of_lt hbl (show k - 1 - a < k by omega)
            have c0 := hrow.out.2.2 _ _ hx
            have c1 := hrow.out.2.2 _ _ hy
            have f0 := hrow.out.2.1 a
            have f1 := hrow.out.2.1 (k - 1 - a)
            have HX := Lib.hid (And.intro hx hy); clear hx hy hbl
            have q0 : (0 : Int) ≤ (k : Int) - 1 - (a : Int) := by omega
            have q1 : (k : Int) - 1 - (a : Int) < (k : Int) := by omega
            have q2 : ((k : Int) - 1 - (a : Int)).toNat = k - 1 - a := by omega
            have q3 : (a : Int) < (k : Int) := by omega
            have q4 : (a : Int) < (k : Int) - 1 - (a : Int) := by omega
            go_wp2_with fail
            go_region
            all_goals go_wp2_with fail
            go_roundg (k - (a + 1))
            case measure => rw [HGK.out]; omega
            case rel =>
              refine ⟨a + 1, (bs.set a y).set (k - 1 - a) x, rfl, by omega, by go_num, by go_num, ?_, ((hbel2.out.setCell HGW.out _).setCell HGW.out _).drew, ?_⟩
              · have hx2 : (bs.set a y)[k - 1 - a]? = some y := by rw [List.getElem?_set_ne (by omega)]; exact HX.out.2
                exact ((hrow.out.set_ HX.out.1 y).set_ hx2 x).drew
              · have h1 := hswp.out.step (x := x) (y := y) (by rw [HKK.out]; omega) HX.out.1 (by rw [HKK.out]; exact HX.out.2)
                rw [HKK.out] at h1
                exact h1
          · have hdone := hswp.out.done (by rw [HKK.out]; omega)
            have hbl : k = bs.length := by rw [hswp.out.1]; exact HKK.out.symm
            have hst : (convert 58 9 (.slice (some ⟨g2, 0, none⟩) k cc)).run Tryd.prog wr = .ok (.string ⟨bs.toArray⟩) wr := by
              rw [hbl]
              exact run_convert_bytes_back (P := Tryd.prog) wr 58 9 5 ⟨g2, 0, none⟩ cc bs Tryd.underlying58 Tryd.underlying5 Tryd.underlying9 (fun j hj => by
                rw [Addr.add_lit, Nat.zero_add]; exact hrow.out.2.2 _ _ (List.getElem?_eq_getElem hj))
            have q4 : ¬ (a : Int) < (k : Int) - 1 - (a : Int) := by omega
            have HD := Lib.hid hdone; clear hdone hbl
            go_wp2_with fail
            go_ret
            refine ⟨?_, hbel2.out⟩
            have hm0 : ¬ m = 0 := fun h => by
              have h1 := HDS.out
              rw [h, dig_zero] at h1
              have h2 := HKK.out
              rw [h1] at h2
              exact hd0 h2.symm
            rw [HD.out]
            unfold T txt
            rw [if_neg hm0, ← HDS.out]; rfl
end Go.Proofs.YtlfddhiimcophaaDoor
