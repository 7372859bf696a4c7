/- Walks of package gantmake: Below, digits, Of, Rat. -/
import Derived.Test.YtlfddhiimcophaaDoorRatJ
namespace Go.Proofs.YtlfddhiimcophaaDoor
open Go.RowKit
set_option linter.unusedVariables false
set_option linter.unusedSimpArgs false

theorem below_M (x : Int) (n : Nat) (w : World) (h0 : -9223372036854775808 ≤ x) (h1 : x ≤ 9223372036854775807) (hn : 0 < n) (hn2 : n ≤ 1048576) :
    Calls Tryd.prog 36 #[.int .i64 x, .int .i64 n] w fun e w' => (∃ m : Nat, e = .returned (.int .i64 m) ∧ m < n) ∧ w = w' := by
  have e1 := Int.tmod_lt_of_pos x (show (0 : Int) < n by omega)
  have e2 : -(n : Int) < x.tmod n := by
    have := Int.lt_tmod_of_pos x (show (0 : Int) < n by omega)
    exact this
  obtain ⟨t, ht⟩ : ∃ t, t = x.tmod n := ⟨_, rfl⟩
  have ew : IntKind.i64.wrap (x.tmod (n : Int)) = t := by rw [← ht]; exact IntWalk.i64_in _ (by omega)
  have et : x.tmod (n : Int) = t := ht.symm
  rw [et] at e1 e2
  have HT := Lib.hid ht; clear ht
  by_cases hneg : t < 0
  · go_enter Tryd.func36, Tryd.ntmps36
    go_wp2_with fail
    go_ret
    exact ⟨⟨(t + n).toNat, by rw [show (((t + n).toNat : Nat) : Int) = t + n by omega]; rfl, by omega⟩, rfl⟩
  · go_enter Tryd.func36, Tryd.ntmps36
    go_wp2_with fail
    go_ret
    exact ⟨⟨t.toNat, by rw [show ((t.toNat : Nat) : Int) = t by omega]; rfl, by omega⟩, rfl⟩

theorem reverse_nil (c : Nat) (w : World) : Calls Tryd.prog 94 #[.slice none 0 c] w fun e w' => e = .returned (.tuple #[]) ∧ w = w' := by
  go_enter Tryd.func94, Tryd.ntmps94
  go_wp2_with fail
  go_loopg [2, 3] 0 (fun kk i j wv => kk = 0 ∧ i = .int .i64 0 ∧ j = .int .i64 (-1) ∧ w = wv)
  case atStart => exact ⟨rfl, rfl, rfl, rfl⟩
  case round =>
    obtain ⟨-, rfl, rfl, rfl⟩ := hrel
    go_wp2_with fail
    go_end0
    exact ⟨rfl, rfl⟩
set_option maxHeartbeats 1000000 in
theorem reverse_any (ds : List UInt8) (g k c B : Nat) (w : World) (hk : k = ds.length) (hk2 : k ≤ 4611686018427387904) (hB : B ≤ g) (hrow : RowB w g ds) :
    Calls Tryd.prog 94 #[.slice (some ⟨g, 0, none⟩) k c] w fun e w' => e = .returned (.tuple #[]) ∧ Below B w w' ∧ RowB w' g ds.reverse := by
  have HK := Lib.hid (And.intro hk hrow); clear hk hrow
  go_enter Tryd.func94, Tryd.ntmps94
  go_wp2_with fail
  go_loopg [2, 3] k (fun kk i j wv => ∃ (a : Nat) (bs : List UInt8), kk = k - a ∧ a ≤ k ∧ i = .int .i64 a ∧ j = .int .i64 ((k : Int) - 1 - (a : Int)) ∧ Hid (RowB wv g bs) ∧ Hid (Below B w wv) ∧ Hid (Swp ds a bs))
  case atStart => exact ⟨0, ds, rfl, Nat.zero_le _, rfl, by go_num, HK.out.2, Below.refl _ _, Swp.zero _⟩
  case round =>
    obtain ⟨a, bs, hgk, ha, rfl, rfl, hrow, hbel2, hswp⟩ := hrel
    have HGK := Lib.hid hgk; clear hgk
    by_cases hlt : a + a + 1 < k
    · have hbl : k = bs.length := by rw [hswp.out.1]; exact HK.out.1
      obtain ⟨x, hx⟩ := get_of_lt hbl (show a < k by omega)
      obtain ⟨y, hy⟩ := get_of_lt hbl (show k - 1 - a < k by omega)
      have c0 := hrow.out.2.2 _ _ hx
      have c1 := hrow.out.2.2 _ _ hy
      have f0 := hrow.out.2.1 a
      have f1 := hrow.out.2.1 (k - 1 - a)
      have HX := Lib.hid (And.intro hx hy); clear hx hy hbl
      have q0 : (0 : Int) ≤ (k : Int) - 1 - (a : Int) := by omega
      have q1 : (k : Int) - 1 - (a : Int) < (k : Int) := by omega
      have q2 : ((k : Int) - 1 - (a : Int)).toNat = k - 1 - a := by omega
      have q3 : (a : Int) < (k : Int) := by omega
      have q4 : (a : Int) < (k : Int) - 1 - (a : Int) := by omega
      go_wp2_with fail
      go_region
      all_goals go_wp2_with fail
      go_roundg (k - (a + 1))
      case measure => rw [HGK.out]; omega
      case rel =>
        refine ⟨a + 1, (bs.set a y).set (k - 1 - a) x, rfl, by omega, by go_num, by go_num, ?_, ((hbel2.out.setCell hB _).setCell hB _).drew, ?_⟩
        · have hx2 : (bs.set a y)[k - 1 - a]? = some y := by rw [List.getElem?_set_ne (by omega)]; exact HX.out.2
          exact ((hrow.out.set_ HX.out.1 y).set_ hx2 x).drew
        · have h1 := hswp.out.step (x := x) (y := y) (by rw [← HK.out.1]; omega) HX.out.1 (by rw [← HK.out.1]; exact HX.out.2)
          rw [← HK.out.1] at h1
          exact h1
    · have hdone := hswp.out.done (by rw [← HK.out.1]; omega)
      have q4 : ¬ (a : Int) < (k : Int) - 1 - (a : Int) := by omega
      have HD := Lib.hid hdone; clear hdone
      go_wp2_with fail
      go_end0
      exact ⟨rfl, hbel2.out, by rw [← HD.out]; exact hrow.out⟩
set_option maxHeartbeats 1000000 in
set_option maxRecDepth 20000 in
theorem digits_any (n : Nat) (w : World) (hn : n ≤ 9223372036854775807) :
    Calls Tryd.prog 75 #[.int .i64 n] w fun e w' => e = .returned (.string (S n)) ∧ Below w.heap.size w w' := by
  obtain ⟨i0, hi0, hz0, hz1, hz2⟩ := info_parts infoU8
  have hlen : (bstr n).length ≤ 8 := bstr_length_le.2 (by omega)
  have HLEN := Lib.hid hlen; clear hlen
  go_enter Tryd.func75, Tryd.ntmps75
  go_wp2_with fail
  go_loopg [0, 3] n (fun k s0 o wr => ∃ (m : Nat) (ds : List UInt8), k = m ∧ m ≤ n ∧ s0 = .int .i64 (m : Nat) ∧ Hid (wr.ownsRow w.heap.size 5 1 o ds.length (bcells ds).toList) ∧ Hid (Below w.heap.size w wr) ∧ Hid (ds ++ (bstr m).reverse = (bstr n).reverse) ∧ Hid (ds.length = 0 → o = .slice none 0 0))
  case atStart => exact ⟨n, [], rfl, Nat.le_refl _, rfl, World.ownsRow_nil _ _ _ _, Below.refl _ _, rfl, fun _ => rfl⟩
  case round =>
    obtain ⟨m, ds, hgk, hmn, rfl, hown, hbel, hds, hnl⟩ := hrel
    have HGK := Lib.hid hgk; clear hgk
    have hdl : ds.length ≤ 8 := by
      have := congrArg List.length hds.out
      rw [List.length_append, List.length_reverse, List.length_reverse] at this
      have h2 := HLEN.out; omega
    by_cases hlt : 0 < m
    · have hsz := hbel.out.size
      have eb : ((m : Int) % 256) = ((UInt8.ofNat (m % 256)).toNat : Int) := by rw [ofNat_toNat]; omega
      have HEB := Lib.hid eb; clear eb
      go_wp2_with (at_builtin; (refine wpList_append_any _ rfl (.tmp 8) (.tmp 12) _ rfl w.heap.size 5 i0 _ 1 1 Tryd.underlying58 hi0 hz0 hz1 hz2 rfl (by omega) _ ds.length (bcells ds).toList rfl (hown.out.alloc _) _ (some ⟨wr.heap.size, 0, none⟩) 1 1 [.int .u8 ((m : Int) % 256)] rfl (Blk.reads (t := 5) (cs := #[.int .u8 ((m : Int) % 256)]) (Blk.new _ _ _) rfl rfl) (by simp [Value.oneCell']) (by unfold maxLen; omega) (by omega) (by simp; omega) ?_; intro v2 w2 hown2 hg2 hat2))
      have hbel2 : Below w.heap.size w w2 := (hbel.out.alloc hbel.out.size _).grown hg2 (by have := hbel.out.size; simp; omega) (fun k hk => (hown.out.lt k hk).1)
      have hown3 : w2.ownsRow w.heap.size 5 1 v2 (ds ++ [UInt8.ofNat (m % 256)]).length (bcells (ds ++ [UInt8.ofNat (m % 256)])).toList := by
        have h1 : (bcells (ds ++ [UInt8.ofNat (m % 256)])).toList = (bcells ds).toList ++ [.int .u8 ((m : Int) % 256)] := by rw [HEB.out]; simp [bcells]
        rw [h1, List.length_append]; exact hown2
      have HO := Lib.hid (And.intro hown3 hbel2); clear hown2 hown3 hbel2 hg2 hat2
      go_wp2_with fail
      go_roundg (m / 256)
      case measure => rw [HGK.out]; omega
      case rel =>
        refine ⟨m / 256, ds ++ [UInt8.ofNat (m % 256)], rfl, by omega, by go_num, HO.out.1, HO.out.2, ?_, (fun h => by rw [List.length_append] at h; simp at h)⟩
        show _ = _
        rw [← hds.out, bstr_succ (show m ≠ 0 by omega), List.reverse_append, List.append_assoc]; rfl
    · obtain rfl : m = 0 := by omega
      have hd : ds = (bstr n).reverse := by have := hds.out; rw [bstr_zero, List.reverse_nil, List.append_nil] at this; exact this
      rcases Nat.eq_zero_or_pos ds.length with hd0 | hd0
      · have hn0 : n = 0 := by
          have h1 : (bstr n).reverse.length = 0 := by rw [← hd]; exact hd0
          rw [List.length_reverse] at h1
          exact bstr_eq_nil.1 (List.eq_nil_of_length_eq_zero h1)
        have hv := hnl.out hd0
        subst hv
        have hcv : ∀ w, (convert 58 9 (.slice none 0 0)).run Tryd.prog w = .ok (.string ⟨#[]⟩) w := fun _ => by kernel_rfl
        have HN0 := Lib.hid hn0; clear hn0 hd hd0
        go_wp2_with fail
        refine (reverse_nil 0 _).mono ?_
        rintro e w' ⟨rfl, rfl⟩
        go_wp2_with fail
        go_ret
        exact ⟨by rw [HN0.out]; rfl, hbel.out⟩
      · obtain ⟨A, cc, ho, hcc⟩ := own_slice hown.out
        subst ho
        obtain ⟨g2, hA, hg2, hrow, hl⟩ := rowB_of_own hown.out hd0
        subst hA
        have HD := Lib.hid (And.intro hd hrow); clear hd hrow hd0 hl
        generalize hk : ds.length = k at *
        have HKK := Lib.hid hk; clear hk
        go_wp2_with fail
        refine (reverse_any ds g2 k cc w.heap.size _ HKK.out.symm (by omega) hg2 HD.out.2).mono ?_
        rintro e w2 ⟨rfl, hb2, hrow2⟩
        rw [HD.out.1, List.reverse_reverse] at hrow2
        have hkl : k = (bstr n).length := by rw [← HKK.out, HD.out.1, List.length_reverse]
        have hst : (convert 58 9 (.slice (some ⟨g2, 0, none⟩) k cc)).run Tryd.prog w2 = .ok (.string ⟨(bstr n).toArray⟩) w2 := by
          rw [hkl]
          exact run_convert_bytes_back (P := Tryd.prog) w2 58 9 5 ⟨g2, 0, none⟩ cc (bstr n) Tryd.underlying58 Tryd.underlying5 Tryd.underlying9 (fun j hj => by
            rw [Addr.add_lit, Nat.zero_add]; exact hrow2.2.2 _ _ (List.getElem?_eq_getElem hj))
        have HB2 := Lib.hid hb2; clear hb2 hrow2 hkl
        go_wp2_with fail
        go_ret
        exact ⟨rfl, hbel.out.trans HB2.out⟩

theorem of_num (z : Int) (d : Nat) (hd : 0 < d) : (mkRat z d).num = z.tdiv (Nat.gcd z.natAbs d : Nat) ∧ (mkRat z d).den = d / Nat.gcd z.natAbs d := by
  rw [Rat.num_mkRat, Rat.den_mkRat, if_neg (by omega), if_neg (by omega), Nat.gcd_comm]
  refine ⟨(Int.tdiv_eq_ediv_of_dvd ?_).symm, rfl⟩
  exact Int.dvd_natAbs.1 (Int.natCast_dvd_natCast.2 (Nat.gcd_dvd_left _ _))

set_option maxHeartbeats 1000000 in
set_option maxRecDepth 20000 in
theorem ofM_R (z : Int) (d : Nat) (w : World) (hz0 : -1048576 ≤ z) (hz1 : z ≤ 1048576) (hd : 0 < d) (hd2 : d ≤ 1048576) :
    Calls Tryd.prog 55 #[.int .i64 z, .int .i64 d] w fun e w' => e = .returned (R (mkRat z d)) ∧ Below w.heap.size w w' := by
  obtain ⟨s3, a3, d3, h3⟩ := R_parts (mkRat z d)
  rw [h3.val]
  obtain ⟨o1, o2⟩ := of_num z d hd
  have H3 := Lib.hid (And.intro h3 (And.intro o1 o2)); clear h3 o1 o2
  have em : max z (-z) = ((z.natAbs : Nat) : Int) := by omega
  have hna : z.natAbs ≤ 1048576 := by omega
  have hb0 : Below w.heap.size w (w.alloc (.cells #[.bool false, .string ⟨#[]⟩, .string ⟨#[]⟩] 35)) := (Below.refl _ _).alloc (Nat.le_refl _) _
  have HB0 := Lib.hid hb0; clear hb0
  obtain ⟨na, hnae⟩ : ∃ na, na = z.natAbs := ⟨_, rfl⟩
  rw [← hnae] at em hna
  have HNA := Lib.hid hnae; clear hnae
  go_enter Tryd.func55, Tryd.ntmps55
  go_wp2_with fail
  go_loopg [5, 6] d (fun kk x y wr => ∃ (m n p : Nat), kk = n ∧ x = .int .i64 (m : Nat) ∧ y = .int .i64 (n : Nat) ∧ m ≤ 1048576 ∧ n ≤ 1048576 ∧ Hid (Nat.gcd m n = Nat.gcd na d) ∧ (w.alloc (.cells #[.bool false, .string ⟨#[]⟩, .string ⟨#[]⟩] 35)).drewN p = wr)
  case atStart => exact ⟨na, d, 0, rfl, rfl, rfl, hna, hd2, rfl, rfl⟩
  case round =>
    obtain ⟨m, n, p, hgk, rfl, rfl, hm, hn, hg, rfl⟩ := hrel
    have HGK := Lib.hid hgk; clear hgk
    by_cases hlt : 0 < n
    · have h1 : (1 : Int) ≤ (n : Int) := by omega
      have HL := Lib.hid hlt
      go_wp2_with fail
      go_quiet (fail)
      go_wp2_with fail
      go_roundg (m % n)
      case measure => rw [HGK.out]; have := Nat.mod_lt m HL.out; omega
      case rel => exact ⟨n, m % n, _, rfl, rfl, by rw [Int.natCast_emod], hn, Nat.le_trans (Nat.mod_le _ _) hm, by show Nat.gcd n (m % n) = _; rw [← hg.out, Nat.gcd_comm n, ← Nat.gcd_rec, Nat.gcd_comm], by first | rfl | exact (World.drewN_drewN _ _ _).symm⟩
    · obtain rfl : n = 0 := by omega
      have hmg : m = Nat.gcd na d := by rw [← hg.out, Nat.gcd_zero_right]
      have hm0 : 0 < m := by rw [hmg]; exact Nat.gcd_pos_of_pos_right _ hd
      obtain ⟨Q, hQ⟩ : ∃ Q, Q = (mkRat z d).num := ⟨_, rfl⟩
      obtain ⟨D, hD⟩ : ∃ D, D = (mkRat z d).den := ⟨_, rfl⟩
      have eQ : z.tdiv (m : Int) = Q := by rw [hQ, H3.out.2.1, hmg, HNA.out]
      have eD : (d : Int) / (m : Int) = (D : Int) := by rw [hD, H3.out.2.2, hmg, HNA.out, Int.natCast_ediv]
      have eD2 : (d : Int).tdiv (m : Int) = (D : Int) := by rw [← eD]; rfl
      have hQl : Q.natAbs ≤ 1048576 := by
        rw [← eQ, Int.natAbs_tdiv]
        exact Nat.le_trans (Nat.div_le_self _ _) (by rw [← HNA.out]; exact hna)
      have hDl : D ≤ 1048576 := by
        rw [hD, H3.out.2.2]; exact Nat.le_trans (Nat.div_le_self _ _) hd2
      have q1 : -1048576 ≤ Q := by omega
      have q2 : Q ≤ 1048576 := by omega
      have eM : max Q (-Q) = ((Q.natAbs : Nat) : Int) := by omega
      have i1 : (1 : Int) ≤ (m : Int) := by omega
      have HM := Lib.hid (And.intro hmg (And.intro hQ hD)); clear hmg hQ hD
      go_wp2_with fail
      go_quiet (fail)
      clear eD eD2
      go_wp2_with fail
      refine (digits_any Q.natAbs _ (by omega)).mono ?_
      rintro e w1 ⟨rfl, hb1⟩
      have HB1 := Lib.hid (below_next (below_drewN HB0.out _) hb1)
      have k1 : Blk w1 w.heap.size 35 #[.bool false, .string ⟨#[]⟩, .string ⟨#[]⟩] := ((Blk.new w _ _).drewN _).belowB hb1
      have K1 := Lib.hid k1; clear k1 hb1
      go_wp2_with fail
      refine (digits_any D _ (by omega)).mono ?_
      rintro e w2 ⟨rfl, hb2⟩
      have k2 : Blk w2 w.heap.size 35 #[.bool false, .string ⟨#[]⟩, .string ⟨#[]⟩] := Blk.belowB K1.out hb2
      obtain ⟨z0, z1, z2, f0, f1, f2⟩ := k2.three
      have HB2 := Lib.hid (And.intro (below_next HB1.out hb2) k2); clear hb2 k2
      go_wp2_with fail
      have hW := put3 HB2.out.2 (.bool (decide (Q < 0))) (.string (S Q.natAbs)) (.string (S D))
      have hWb := put3_below (g := w.heap.size) HB2.out.1 (Nat.le_refl _) (.bool (decide (Q < 0))) (.string (S Q.natAbs)) (.string (S D))
      obtain ⟨p0, p1, p2, -, -, -⟩ := hW.three
      refine bodyPost_ret (v := .agg #[.bool (decide (Q < 0)), .string (S Q.natAbs), .string (S D)]) (by simp [results, Tryd.results55, go_sem, p0, p1, p2]) rfl ⟨?_, hWb⟩
      rw [H3.out.1.s, H3.out.1.a, H3.out.1.d, HM.out.2.1, HM.out.2.2]

theorem ofM_O (z : Int) (d : Nat) {s3 a3 d3} (w : World) (h3 : RIs (mkRat z d) s3 a3 d3) (hz0 : -1048576 ≤ z) (hz1 : z ≤ 1048576) (hd : 0 < d) (hd2 : d ≤ 1048576) :
    Calls Tryd.prog 55 #[.int .i64 z, .int .i64 d] w fun e w' => e = .returned (.agg #[.bool s3, .string a3, .string d3]) ∧ Below w.heap.size w w' := by
  rw [← h3.val]; exact ofM_R z d w hz0 hz1 hd hd2
theorem below_6 (x : Int) (w : World) (h0 : -9223372036854775808 ≤ x) (h1 : x ≤ 9223372036854775807) :
    Calls Tryd.prog 36 #[.int .i64 x, .int .i64 6] w fun e w' => (∃ m : Nat, e = .returned (.int .i64 m) ∧ m < 6) ∧ w = w' := below_M x 6 w h0 h1 (by omega) (by omega)
theorem six_dens {m : Nat} (h : m < 6) : ∃ d : Nat, (#[Value.int .i64 1, .int .i64 2, .int .i64 3, .int .i64 4, .int .i64 5, .int .i64 8] : Array Value)[m]? = some (.int .i64 (d : Int)) ∧ 0 < d ∧ d ≤ 8 := by
  match m, h with
  | 0, _ => exact ⟨1, rfl, by omega, by omega⟩
  | 1, _ => exact ⟨2, rfl, by omega, by omega⟩
  | 2, _ => exact ⟨3, rfl, by omega, by omega⟩
  | 3, _ => exact ⟨4, rfl, by omega, by omega⟩
  | 4, _ => exact ⟨5, rfl, by omega, by omega⟩
  | 5, _ => exact ⟨8, rfl, by omega, by omega⟩
/-- what gantmake.Rat makes -/
def SmallQ (q : Rat) : Prop := ∃ (z : Int) (d : Nat), q = mkRat z d ∧ 0 < d ∧ d ≤ 8 ∧ -(8 * (d : Int)) ≤ z ∧ z ≤ 8 * d
set_option maxHeartbeats 1000000 in
set_option maxRecDepth 20000 in
theorem ratM_any (x : Int) (w : World) (h0 : -9223372036854775808 ≤ x) (h1 : x ≤ 9223372036854775807) :
    Calls Tryd.prog 23 #[.int .i64 x] w fun e w' => (∃ q, e = .returned (R q) ∧ SmallQ q) ∧ Below w.heap.size w w' := by
  have hb0 : Below w.heap.size w (w.alloc (.cells #[.bool false, .string ⟨#[]⟩, .string ⟨#[]⟩] 35)) := (Below.refl _ _).alloc (Nat.le_refl _) _
  have HB0 := Lib.hid hb0; clear hb0
  have ht0 : (x.tdiv 6).natAbs = x.natAbs / 6 := Int.natAbs_tdiv x 6
  obtain ⟨t, ht⟩ : ∃ t, t = x.tdiv 6 := ⟨_, rfl⟩
  rw [← ht] at ht0
  have et : x.tdiv 6 = t := ht.symm
  have tb0 : -1600000000000000000 ≤ t := by omega
  have tb1 : t ≤ 1600000000000000000 := by omega
  clear ht0
  have HT := Lib.hid ht; clear ht
  go_enter Tryd.func23, Tryd.ntmps23
  go_wp2_with fail
  refine (below_6 x _ h0 h1).mono ?_
  rintro e w' ⟨⟨m, rfl, hm⟩, rfl⟩
  obtain ⟨dd, hdd, hd1, hd2⟩ := six_dens hm
  obtain ⟨W1, hW1⟩ : ∃ W1, W1 = ((w.alloc (.cells #[.bool false, .string ⟨#[]⟩, .string ⟨#[]⟩] 35)).alloc (.cells #[Value.int .i64 1, .int .i64 2, .int .i64 3, .int .i64 4, .int .i64 5, .int .i64 8] 3)) := ⟨_, rfl⟩
  rw [← hW1]
  have k1 : Blk W1 w.heap.size 35 #[.bool false, .string ⟨#[]⟩, .string ⟨#[]⟩] := by rw [hW1]; exact (Blk.new w _ _).alloc _
  have k2 : Blk W1 (w.heap.size + 1) 3 #[Value.int .i64 1, .int .i64 2, .int .i64 3, .int .i64 4, .int .i64 5, .int .i64 8] := by rw [hW1]; exact Blk.at_ (by simp)
  have kb : Below w.heap.size w W1 := by rw [hW1]; exact HB0.out.alloc HB0.out.size _
  have c0 := (k2.cell m).trans hdd
  have K := Lib.hid (And.intro k1 kb); clear k1 k2 kb hdd hW1
  have hm6 : (m : Int) < 6 := by omega
  go_wp2_with fail
  have en : 16 * (dd : Int) + 1 = ((16 * dd + 1 : Nat) : Int) := by omega
  rw [en]
  clear en
  refine (below_M t (16 * dd + 1) _ (by omega) (by omega) (by omega) (by omega)).mono ?_
  rintro e w' ⟨⟨m2, rfl, hm2⟩, rfl⟩
  obtain ⟨s3, a3, d3, h3⟩ := R_parts (mkRat ((m2 : Int) - 8 * dd) dd)
  have H3 := Lib.hid h3; clear h3
  go_wp2_with fail
  refine (ofM_O ((m2 : Int) - 8 * dd) dd _ H3.out (by omega) (by omega) hd1 (by omega)).mono ?_
  rintro e w2 ⟨rfl, hb2⟩
  have k2 : Blk w2 w.heap.size 35 #[.bool false, .string ⟨#[]⟩, .string ⟨#[]⟩] := Blk.belowB K.out.1 hb2
  obtain ⟨z0, z1, z2, f0, f1, f2⟩ := k2.three
  have HB2 := Lib.hid (And.intro (below_next K.out.2 hb2) k2); clear hb2 k2
  go_wp2_with fail
  have hW := put3 HB2.out.2 (.bool s3) (.string a3) (.string d3)
  have hWb := put3_below (g := w.heap.size) HB2.out.1 (Nat.le_refl _) (.bool s3) (.string a3) (.string d3)
  obtain ⟨p0, p1, p2, -, -, -⟩ := hW.three
  refine bodyPost_ret (v := .agg #[.bool s3, .string a3, .string d3]) (by simp [results, Tryd.results23, go_sem, p0, p1, p2]) rfl ⟨⟨_, by rw [H3.out.val], _, dd, rfl, hd1, hd2, by omega, by omega⟩, hWb⟩
end Go.Proofs.YtlfddhiimcophaaDoor
