/- Walk: Steps (package act). -/
import Derived.Test.YtnaiflokmihmeaaAsF
namespace Go.Proofs.Ytnaiflokmihmeaa
open Go.RowKit
set_option linter.unusedVariables false
set_option linter.unusedSimpArgs false

theorem memS_app {xs : List Stp} {g : Stp} {p q : Stp → Prop} (h : ∀ f, f ∈ xs ↔ p f) (hq : ∀ f, q f ↔ p f ∨ f = g) : ∀ f, f ∈ xs ++ [g] ↔ q f := fun f => by rw [List.mem_append, List.mem_singleton, h f, hq f]
theorem memS_same {xs : List Stp} {p q : Stp → Prop} (h : ∀ f, f ∈ xs ↔ p f) (hq : ∀ f, q f ↔ p f) : ∀ f, f ∈ xs ↔ q f := fun f => by rw [h f, hq f]
/-- the steps of a world, in order -/
def SsPost (d : Wd) (w : World) (e : Ending) (w' : World) : Prop :=
  ∃ l A c, e = .returned (.slice A (List.length l) c) ∧ l.length ≤ c ∧ c ≤ maxLen ∧ StepsAt w' w'.heap.size A l ∧ AscS l ∧ (∀ s, s ∈ l ↔ wErr d = 0 ∧ gaS d.sp.length d.pl.length d.sl.toNat 4 0 0 0 s ∧ canE d s = 0) ∧ Below w.heap.size w w'
theorem ss_bad {d : Wd} {w W : World} (h : wErr d ≠ 0) (hb : Below w.heap.size w W) : SsPost d w (.returned (.slice none 0 0)) W :=
  ⟨[], none, 0, rfl, Nat.le_refl _, by unfold maxLen; omega, StepsAt.nil, List.Pairwise.nil, fun f => ⟨fun h9 => by simp at h9, fun h9 => absurd h9.1 h⟩, hb⟩
theorem good_mem {d : Wd} {l : List Stp} {s : Stp} : s ∈ goodL d l ↔ s ∈ l ∧ canE d s = 0 := by
  unfold goodL badS
  rw [List.mem_filter]
  simp
theorem ss_ok {d : Wd} {w W : World} {xs : List Stp} {A : Option Addr} {c n : Nat} (h : wErr d = 0) (hm : ∀ s, s ∈ xs ↔ gaS d.sp.length d.pl.length d.sl.toNat 4 0 0 0 s) (hn : xs.Nodup) (hl : n = (goodL d xs).length) (hc : n ≤ c) (hx : c ≤ maxLen)
    (ho : StepsAt W W.heap.size A ((goodL d xs).mergeSort fun x y => !(Go.Proofs.ltOf scmp y x))) (hb : Below w.heap.size w W) : SsPost d w (.returned (.slice A n c)) W :=
  ⟨_, A, c, by rw [List.length_mergeSort, hl], by rw [List.length_mergeSort, ← hl]; exact hc, hx, ho, sorted_asc (hn.filter _), fun s => by
    rw [List.mem_mergeSort, good_mem, hm s]
    exact ⟨fun h9 => ⟨h, h9⟩, fun h9 => h9.2⟩, hb⟩
set_option maxHeartbeats 2000000 in
set_option maxRecDepth 20000 in
theorem delete_none (d : Wd) (r : Raw) (p c : Nat) (w : World) (hv : VarW p d r w) :
    Calls Try.prog 91 #[.slice none 0 c, .func (.func 92) #[] #[.pointer (some ⟨p, 0, none⟩)]] w fun e w' => e = .returned (.slice none 0 c) ∧ Below w.heap.size w w' := by
  have HIX := Lib.hid (indexS_any d r p [] none 0 c w rfl (by omega) StepsAt.nil hv)
  rw [ixS_none (by rfl)] at HIX
  clear hv
  go_enter Try.func91, Try.ntmps91
  go_wp2_with fail
  refine HIX.out.mono ?_
  rintro e w2 ⟨rfl, hb2⟩
  have H2 := Lib.hid hb2
  clear hb2
  go_wp2_with fail
  go_ret
  exact ⟨rfl, H2.out⟩
set_option maxHeartbeats 4000000 in
set_option maxRecDepth 20000 in
theorem steps_any (d : Wd) (r : Raw) (w : World) (h : WOk w r d) : Calls Try.prog 61 #[wv d.sl r] w (SsPost d w) := by
  have HCK := Lib.hid (fun W (hb : Below w.heap.size w W) => acheck_any d r W (h.next hb))
  have HS0 := Lib.hid (GsS.start w d.sl r)
  have HH := Lib.hid h
  by_cases hw0 : wErr d = 0
  · rw [hw0] at HCK
    have HW0 := Lib.hid hw0
    have hv := vd_of hw0
    obtain ⟨ns, hns⟩ := Int.eq_ofNat_of_zero_le hv.sl0
    have hns8 : ns ≤ 8 := by have := hv.sl8; omega
    have hn16 : r.n1 ≤ 6 := by have h8 := hv.p6; have h9 := h.h1; omega
    have hn34 : r.n3 ≤ 4 := by have h8 := hv.s4; have h9 := h.h3; omega
    have HLEN : Hid (d.sp.length = r.n3 ∧ d.pl.length = r.n1 ∧ d.sl.toNat = ns) := Lib.hid ⟨h.h3.symm, h.h1.symm, by omega⟩
    clear hv hw0
    obtain ⟨A1, n1, c1, A2, n2, c2, A3, n3, c3⟩ := r
    clear h
    unfold wv wcs
    unfold wv wcs at HCK
    unfold wcs at HS0
    dsimp only at HCK HS0 ⊢
    dsimp only at hn16 hn34 HLEN
    generalize hsl : d.sl = sl at *
    subst hns
    have HSL := Lib.hid hsl
    clear hsl
    rw [← HSL.out] at HLEN
    go_enter Try.func61, Try.ntmps61
    go_upto_region 1 with (fail)
    generalize World.alloc w _ = w1 at *
    obtain ⟨k0, k1, k2, k3⟩ := HS0.out.four
    dsimp only at k0 k1 k2 k3
    go_wp2_with fail
    refine (HCK.out _ HS0.out.bel).mono ?_
    rintro e w2 ⟨rfl, hb2⟩
    have HF := Lib.hid (HS0.out.next hb2)
    clear hb2 HS0 k0 k1 k2 k3
    go_wp2_with fail
    go_loopg [3, 4] 4 (fun kx o i wr => ∃ (q vn vc : Nat) (VA : Option Addr) (xs : List Stp), kx = 4 - q ∧ q ≤ 4 ∧ i = .int .i64 q ∧ o = .slice VA vn vc ∧ vn ≤ 56 * q ∧ Hid (xs.length = vn) ∧ Hid (GsS w (ns : Int) ⟨A1, n1, c1, A2, n2, c2, A3, n3, c3⟩ (.slice VA vn vc) xs wr) ∧ Hid (∀ s, s ∈ xs ↔ gaS n3 n1 ns q 0 0 0 s) ∧ Hid xs.Nodup)
    case atStart => exact ⟨0, 0, 0, none, [], by omega, Nat.zero_le _, rfl, rfl, Nat.zero_le _, Lib.hid rfl, HF, Lib.hid (fun s => ⟨fun h9 => by simp at h9, fun h9 => absurd h9 (ga_zero _ _ _ s)⟩), Lib.hid List.nodup_nil⟩
    case round =>
      clear HF
      obtain ⟨q, vn, vc, VA, xs, hgk, hq, rfl, rfl, hvn, HXN, HF, HM, HN⟩ := hrel
      have HGKQ := Lib.hid hgk; clear hgk
      have hcs : q < 4 ∨ q = 4 := by omega
      rcases hcs with hltq | rfl
      · have hq3 : (q : Int) ≤ 3 := by omega
        obtain ⟨k0, k1, k2, k3⟩ := HF.out.four
        dsimp only at k0 k1 k2 k3
        go_wp2_with fail
        clear k0 k1 k2 k3
        go_loopg [3, 18] n3 (fun kx o i wr => ∃ (a vn vc : Nat) (VA : Option Addr) (xs : List Stp), kx = n3 - a ∧ a ≤ n3 ∧ i = .int .i64 a ∧ o = .slice VA vn vc ∧ vn ≤ 56 * q + 14 * a ∧ Hid (xs.length = vn) ∧ Hid (GsS w (ns : Int) ⟨A1, n1, c1, A2, n2, c2, A3, n3, c3⟩ (.slice VA vn vc) xs wr) ∧ Hid (∀ s, s ∈ xs ↔ gaS n3 n1 ns q a 0 0 s) ∧ Hid xs.Nodup)
        case atStart => exact ⟨0, vn, vc, VA, xs, by omega, Nat.zero_le _, rfl, rfl, by omega, HXN, HF, HM, HN⟩
        case round =>
          clear HF HM HN HXN hvn
          obtain ⟨a, vn, vc, VA, xs, hgk, ha, rfl, rfl, hvn, HXN, HF, HM, HN⟩ := hrel
          have HGKA := Lib.hid hgk; clear hgk
          have HGK := HGKA
          by_cases hlta : a < n3
          · skip
            obtain ⟨k0, k1, k2, k3⟩ := HF.out.four
            dsimp only at k0 k1 k2 k3
            go_wp2_with fail
            clear k0 k1 k2 k3
            go_loopg [3, 24] n1 (fun kx o i wr => ∃ (j vn vc : Nat) (VA : Option Addr) (xs : List Stp), kx = n1 - j ∧ j ≤ n1 ∧ i = .int .i64 j ∧ o = .slice VA vn vc ∧ vn ≤ 56 * q + 14 * a + j ∧ Hid (xs.length = vn) ∧ Hid (GsS w (ns : Int) ⟨A1, n1, c1, A2, n2, c2, A3, n3, c3⟩ (.slice VA vn vc) xs wr) ∧ Hid (∀ s, s ∈ xs ↔ gaS n3 n1 ns q a j 0 s) ∧ Hid xs.Nodup)
            case atStart => exact ⟨0, vn, vc, VA, xs, by omega, Nat.zero_le _, rfl, rfl, by omega, HXN, HF, HM, HN⟩
            case round =>
              clear HF HM HN HXN hvn HGK
              obtain ⟨j, vn, vc, VA, xs, hgk, hj, rfl, rfl, hvn, HXN, HF, HM, HN⟩ := hrel
              have HGK := Lib.hid hgk; clear hgk
              by_cases hlt : j < n1
              · skip
                go_upto_region 14 with (at_builtin; refine wpList_append_oneG rfl _ _ _ rfl Try.underlying26 infoT rfl rfl (n := vn) (xs := cellsS xs) (HF.out.row.row HXN.out) rfl rfl rfl (one_t ⟨(q : Int), (a : Int), (j : Int), -1, 0⟩) (by omega) ?_; intro v' w6 hR6 hb6 hg6; obtain ⟨A6, c6, rfl⟩ := own_sliceR hR6)
                have HF2 := Lib.hid (HF.out.app (s := ⟨(q : Int), (a : Int), (j : Int), -1, 0⟩) HXN.out hR6 hg6)
                have HXN2 : Hid ((xs ++ [(⟨(q : Int), (a : Int), (j : Int), -1, 0⟩ : Stp)]).length = vn + 1) := Lib.hid (by rw [List.length_append, HXN.out]; rfl)
                have HN2 := Lib.hid (nodup_app (g := ⟨(q : Int), (a : Int), (j : Int), -1, 0⟩) HN.out HM.out (ga_new_part n3 n1 ns q a j))
                have HM2 := Lib.hid (memS_app (g := ⟨(q : Int), (a : Int), (j : Int), -1, 0⟩) HM.out (fun s => ga_part n3 n1 ns q a j s))
                generalize xs ++ [(⟨(q : Int), (a : Int), (j : Int), -1, 0⟩ : Stp)] = ys at *
                clear HF HXN HM HN hR6 hb6 hg6
                go_wp2_with fail
                go_roundg (n1 - (j + 1))
                case measure => rw [HGK.out]; omega
                case rel => exact ⟨j+1, _, _, _, _, rfl, by omega, by go_num, rfl, by omega, HXN2, HF2, HM2, HN2⟩
              · obtain rfl : j = n1 := by omega
                clear hlt
                obtain ⟨k0, k1, k2, k3⟩ := HF.out.four
                dsimp only at k0 k1 k2 k3
                go_wp2_with fail
                clear k0 k1 k2 k3
                go_loopg [3, 37] ns (fun kx o ix wr => ∃ (i vn vc : Nat) (VA : Option Addr) (xs : List Stp), kx = ns - i ∧ i ≤ ns ∧ ix = .int .i64 i ∧ o = .slice VA vn vc ∧ vn ≤ 56 * q + 14 * a + j + i ∧ Hid (xs.length = vn) ∧ Hid (GsS w (ns : Int) ⟨A1, j, c1, A2, n2, c2, A3, n3, c3⟩ (.slice VA vn vc) xs wr) ∧ Hid (∀ s, s ∈ xs ↔ gaS n3 j ns q a j i s) ∧ Hid xs.Nodup)
                case atStart => exact ⟨0, vn, vc, VA, xs, by omega, Nat.zero_le _, rfl, rfl, by omega, HXN, HF, HM, HN⟩
                case round =>
                  clear HF HM HN HXN hvn HGK
                  obtain ⟨i, vn, vc, VA, xs, hgk, hi, rfl, rfl, hvn, HXN, HF, HM, HN⟩ := hrel
                  have HGK := Lib.hid hgk; clear hgk
                  by_cases hlt : i < ns
                  · skip
                    go_upto_region 19 with (at_builtin; refine wpList_append_oneG rfl _ _ _ rfl Try.underlying26 infoT rfl rfl (n := vn) (xs := cellsS xs) (HF.out.row.row HXN.out) rfl rfl rfl (one_t ⟨(q : Int), (a : Int), -1, (i : Int), 0⟩) (by omega) ?_; intro v' w6 hR6 hb6 hg6; obtain ⟨A6, c6, rfl⟩ := own_sliceR hR6)
                    have HF2 := Lib.hid (HF.out.app (s := ⟨(q : Int), (a : Int), -1, (i : Int), 0⟩) HXN.out hR6 hg6)
                    have HXN2 : Hid ((xs ++ [(⟨(q : Int), (a : Int), -1, (i : Int), 0⟩ : Stp)]).length = vn + 1) := Lib.hid (by rw [List.length_append, HXN.out]; rfl)
                    have HN2 := Lib.hid (nodup_app (g := ⟨(q : Int), (a : Int), -1, (i : Int), 0⟩) HN.out HM.out (ga_new_slot n3 j ns q a i))
                    have HM2 := Lib.hid (memS_app (g := ⟨(q : Int), (a : Int), -1, (i : Int), 0⟩) HM.out (fun s => ga_slot n3 j ns q a i s))
                    generalize xs ++ [(⟨(q : Int), (a : Int), -1, (i : Int), 0⟩ : Stp)] = ys at *
                    clear HF HXN HM HN hR6 hb6 hg6
                    go_wp2_with fail
                    go_roundg (ns - (i + 1))
                    case measure => rw [HGK.out]; omega
                    case rel => exact ⟨i+1, _, _, _, _, rfl, by omega, by go_num, rfl, by omega, HXN2, HF2, HM2, HN2⟩
                  · obtain rfl : i = ns := by omega
                    clear hlt
                    have HM3 := Lib.hid (memS_same (q := gaS n3 j i q (a + 1) 0 0) HM.out (fun s => ga_arm n3 j i q a s))
                    go_wp2_with fail
                    go_roundg (n3 - (a + 1))
                    case measure => rw [HGKA.out]; omega
                    case rel => exact ⟨a+1, _, _, _, _, rfl, by omega, by go_num, rfl, by omega, HXN, HF, HM3, HN⟩
          · obtain rfl : a = n3 := by omega
            clear hlta
            have HM3 := Lib.hid (memS_same (q := gaS a n1 ns (q + 1) 0 0 0) HM.out (fun s => ga_kind a n1 ns q s))
            go_wp2_with fail
            go_roundg (4 - (q + 1))
            case measure => rw [HGKQ.out]; omega
            case rel => exact ⟨q+1, _, _, _, _, rfl, by omega, by go_num, rfl, by omega, HXN, HF, HM3, HN⟩
      · have HMA := Lib.hid (show ∀ s, s ∈ xs ↔ gaS d.sp.length d.pl.length d.sl.toNat 4 0 0 0 s from fun s => by rw [HM.out s, HLEN.out.1, HLEN.out.2.1, HLEN.out.2.2])
        rcases (Rws.head HF.out.row).2 with ⟨hv9, hx9⟩ | ⟨g, cap, cur, hv9, hg9, hh9, hnc9, hm9, hs9, hc9⟩
        · have hx0 : xs = [] := List.eq_nil_of_length_eq_zero hx9
          cases hv9
          subst hx0
          have HDN := Lib.hid (delete_none d ⟨A1, n1, c1, A2, n2, c2, A3, n3, c3⟩ w.heap.size 0 wr ⟨by rw [HSL.out]; exact HF.out.one, HH.out.next HF.out.bel⟩)
          clear hvn hx9
          go_wp2_with fail
          refine HDN.out.mono ?_
          rintro e w4 ⟨rfl, hb4⟩
          have HB4 := Lib.hid (HF.out.bel.trans (hb4.mono HF.out.bel.size))
          clear hb4
          go_wp2_with fail
          refine (sortS_none none 0 _ w4).mono ?_
          rintro e w5 ⟨rfl, rfl⟩
          go_wp2_with fail
          go_ret
          exact ss_ok (xs := []) HW0.out HMA.out HN.out rfl (Nat.le_refl _) (by unfold maxLen; omega) (by show StepsAt _ _ _ (List.mergeSort [] _); rw [List.mergeSort_nil]; exact StepsAt.nil) HB4.out
        · dsimp only at hv9
          injection hv9 with u1 u2 u3
          subst u1 u3
          have hown := Rws.head HF.out.row
          dsimp only at hown
          have hown2 := hown
          rw [HXN.out] at hown2
          obtain ⟨hblk, hge⟩ := SBlk.of_own hown2 HXN.out.symm
          clear hown2 u2
          have hpg : w.heap.size ≠ g := fun e9 => own_blk_ne hown HF.out.one (by first | decide | (dsimp only; decide)) (by rw [e9]; rfl)
          have HPG := Lib.hid hpg
          have HGE := Lib.hid hge
          have HDV : Hid (DvS w w.heap.size d ⟨A1, n1, c1, A2, n2, c2, A3, n3, c3⟩ g vc xs.toArray wr) := Lib.hid ⟨HF.out.bel, by rw [HSL.out]; exact HF.out.one, hblk⟩
          have HDA := Lib.hid (delete_any w d ⟨A1, n1, c1, A2, n2, c2, A3, n3, c3⟩ HH.out w.heap.size g vc xs.length xs.toArray wr HDV.out hpg hge (by simp) (by rw [HXN.out]; omega))
          rw [HXN.out] at HDA
          have HCM := Lib.hid hm9
          clear hown hblk hge hpg hh9 hnc9 hm9 hs9 hc9 hg9
          go_wp2_with fail
          refine HDA.out.mono ?_
          rintro e w4 ⟨rfl, hdv4⟩
          have HDV4 := Lib.hid hdv4
          clear hdv4
          have HSO := Lib.hid (sortS_any g vc vc (goodL d xs).toArray w4 w.heap.size HGE.out HDV4.out.blk (by
            have h8 : (goodL d xs).length ≤ xs.length := List.length_filter_le _ _
            have h9 := HXN.out
            simp
            omega))
          go_wp2_with fail
          refine HSO.out.mono ?_
          rintro e w5 ⟨rfl, hblk5, hb5⟩
          have HB5 := Lib.hid (And.intro hblk5 (HDV4.out.bel.trans hb5))
          clear hblk5 hb5
          have HLE : Hid ((goodL d xs).length ≤ vc) := Lib.hid (by have h9 := HDV4.out.blk.le; simpa using h9)
          go_wp2_with fail
          go_ret
          exact ss_ok HW0.out HMA.out HN.out rfl HLE.out HCM.out HB5.out.1.stepsAll HB5.out.2
  · have hne : (wErr d != 0) = true := by simp [hw0]
    have HBAD := Lib.hid (fun W hb => ss_bad (d := d) (w := w) (W := W) hw0 hb)
    clear hw0
    generalize wErr d = ce at *
    obtain ⟨A1, n1, c1, A2, n2, c2, A3, n3, c3⟩ := r
    clear h
    unfold wv wcs
    unfold wv wcs at HCK
    unfold wcs at HS0
    dsimp only at HCK HS0 ⊢
    generalize d.sl = sl at *
    go_enter Try.func61, Try.ntmps61
    go_upto_region 1 with (fail)
    generalize World.alloc w _ = w1 at *
    obtain ⟨k0, k1, k2, k3⟩ := HS0.out.four
    dsimp only at k0 k1 k2 k3
    go_wp2_with fail
    refine (HCK.out _ HS0.out.bel).mono ?_
    rintro e w2 ⟨rfl, hb2⟩
    have HF := Lib.hid (HS0.out.next hb2)
    clear hb2 HS0 k0 k1 k2 k3
    go_wp2_with fail
    go_ret
    exact HBAD.out _ HF.out.bel
end Go.Proofs.Ytnaiflokmihmeaa
