/- The law ActWorlds. -/
import Derived.Test.YtnaiflokmihmeaaAwF
import Derived.Test.YtnaiflokmihmeaaActRuns
namespace Go.Proofs.Ytnaiflokmihmeaa
open Go.RowKit Go.ChangeShapes Go.WideShapes Go.Deep
set_option linter.unusedVariables false
set_option linter.unusedSimpArgs false

/-- the first place from j on, or -1 -/
def ixD (p : Int → Bool) (xs : List Int) (j : Nat) : Int := match (xs.drop j).findIdx? p with
  | some q => ((j + q : Nat) : Int)
  | none => -1
theorem ixD_zero (p : Int → Bool) (xs : List Int) : ixD p xs 0 = ixI p xs := by
  unfold ixD ixI
  rw [List.drop_zero]
  cases xs.findIdx? p with
  | none => rfl
  | some q => simp
theorem ixD_len (p : Int → Bool) (xs : List Int) : ixD p xs xs.length = -1 := by
  unfold ixD
  rw [List.drop_length]
  rfl
theorem ixD_step {p : Int → Bool} {xs : List Int} {j : Nat} {x : Int} (hx : xs[j]? = some x) : ixD p xs j = if p x = true then (j : Int) else ixD p xs (j + 1) := by
  have hl := (List.getElem?_eq_some_iff.1 hx).1
  have he := (List.getElem?_eq_some_iff.1 hx).2
  unfold ixD
  rw [List.drop_eq_getElem_cons hl, he, List.findIdx?_cons]
  cases hp : p x with
  | true => simp
  | false =>
    simp
    cases List.findIdx? p (List.drop (j + 1) xs) with
    | none => rfl
    | some q => simp; omega
def hF (d : Wd) (i : Int) (j : Nat) : Int := if i < 0 ∨ (d.sp.length : Int) ≤ i then -1 else ixD (fun y => (-2 - i) == y) d.pl j
def iF (d : Wd) (i : Int) (j : Nat) : Int := if i < 0 then -1 else ixD (fun y => i == y) d.pl j
def wF (d : Wd) (i : Int) (j : Nat) : Int := if (j : Int) ≤ i ∧ i < (d.pl.length : Int) then whr d i else -1
theorem hF_zero (d : Wd) (i : Int) : hF d i 0 = hold d i := by unfold hF hold; rw [ixD_zero]
theorem iF_zero (d : Wd) (i : Int) : iF d i 0 = inn d i := by unfold iF inn; rw [ixD_zero]
theorem wF_zero (d : Wd) (i : Int) : wF d i 0 = whr d i := by
  unfold wF
  split
  · rfl
  · unfold whr; rw [if_pos (by omega)]
theorem hF_len (d : Wd) (i : Int) : hF d i d.pl.length = -1 := by unfold hF; rw [ixD_len]; split <;> rfl
theorem iF_len (d : Wd) (i : Int) : iF d i d.pl.length = -1 := by unfold iF; rw [ixD_len]; split <;> rfl
theorem wF_len (d : Wd) (i : Int) : wF d i d.pl.length = -1 := by unfold wF; rw [if_neg (by omega)]
theorem hF_step {d : Wd} {i x : Int} {p : Nat} (hx : d.pl[p]? = some x) : hF d i p = if (0 ≤ i ∧ i < (d.sp.length : Int)) ∧ x = -2 - i then (p : Int) else hF d i (p + 1) := by
  unfold hF
  rw [ixD_step hx]
  by_cases h1 : i < 0 ∨ (d.sp.length : Int) ≤ i
  · rw [if_pos h1, if_pos h1, if_neg (by omega)]
  · rw [if_neg h1, if_neg h1]
    by_cases h2 : x = -2 - i
    · rw [if_pos (by simp [h2]), if_pos ⟨by omega, h2⟩]
    · rw [if_neg (by simp; omega), if_neg (by omega)]
theorem iF_step {d : Wd} {i x : Int} {p : Nat} (hx : d.pl[p]? = some x) : iF d i p = if 0 ≤ i ∧ x = i then (p : Int) else iF d i (p + 1) := by
  unfold iF
  rw [ixD_step hx]
  by_cases h1 : i < 0
  · rw [if_pos h1, if_pos h1, if_neg (by omega)]
  · rw [if_neg h1, if_neg h1]
    by_cases h2 : x = i
    · rw [if_pos (by simp [h2]), if_pos ⟨by omega, h2⟩]
    · rw [if_neg (by simp; omega), if_neg (by omega)]
theorem wF_step {d : Wd} {i x : Int} {p : Nat} (hx : d.pl[p]? = some x) : wF d i p = if (p : Int) = i then (if x < -1 then -1 else if x = -1 then 8 + (p : Int) else x) else wF d i (p + 1) := by
  have hl := (List.getElem?_eq_some_iff.1 hx).1
  by_cases h1 : (p : Int) = i
  · subst h1
    rw [if_pos rfl]
    unfold wF whr
    rw [if_pos (by omega), if_neg (by omega), Int.toNat_natCast, nthI_get hx]
  · rw [if_neg h1]
    unfold wF
    by_cases h2 : (p : Int) ≤ i ∧ i < (d.pl.length : Int)
    · rw [if_pos h2, if_pos (by omega)]
    · rw [if_neg h2, if_neg (by omega)]
theorem run_storeW {w : World} {p : Nat} {x y z u : Value} (n : Int) (A B C : Option Addr) (n1 c1 n2 c2 n3 c3 : Nat) (hr : Blk w p 25 #[x, y, z, u]) : (Instr.storeAt 25 (.pointer (some ⟨p, 0, none⟩)) (.agg #[.int .i64 n, .slice A n1 c1, .slice B n2 c2, .slice C n3 c3])).run Try.prog w = .ok () (put4 w p (.int .i64 n) (.slice A n1 c1) (.slice B n2 c2) (.slice C n3 c3)) := by
  have q0 := hr.cell 0
  have q1 := hr.cell 1
  have q2 := hr.cell 2
  have q3 := hr.cell 3
  have f0 := hr.frozen 0
  have f1 := hr.frozen 1
  have f2 := hr.frozen 2
  have f3 := hr.frozen 3
  simp at q0 q1 q2 q3
  go_simp
theorem isFc_eq {d : Wd} {l m : List Ft} (h1 : Asc l) (h2 : ∀ f, f ∈ l ↔ wErr d = 0 ∧ inS d f ∧ okF f = true) (h3 : Asc m) (h4 : ∀ f, f ∈ m ↔ wErr d = 0 ∧ inS d f ∧ okF f = true) : l = m :=
  asc_ext h1 h3 (fun f => (h2 f).trans (h4 f).symm)
theorem LaS.fourA {w wr : World} {kc : Array Value} {sa sb : Int} {ra rb r1 : Raw} {pa : Nat} {D : Wd} (h : LaS w kc sa ra sb rb pa D r1 wr) : wr.cell? ⟨w.heap.size + 1, 0, none⟩ = some (.int .i64 sa) ∧ wr.cell? ⟨w.heap.size + 1, 1, none⟩ = some (.slice ra.A1 ra.n1 ra.c1) ∧ wr.cell? ⟨w.heap.size + 1, 2, none⟩ = some (.slice ra.A2 ra.n2 ra.c2) ∧ wr.cell? ⟨w.heap.size + 1, 3, none⟩ = some (.slice ra.A3 ra.n3 ra.c3) :=
  ⟨h.ba.cell 0, h.ba.cell 1, h.ba.cell 2, h.ba.cell 3⟩
theorem LbS.put {w wr : World} {kc : Array Value} {sa sb : Int} {ra rb r1 q1 : Raw} {pa pb : Nat} {D : Wd} (h : LbS w kc sa ra sb rb pa pb D r1 wr) (ho : WOk wr q1 D) (hq : FrB (pb + 1) q1) : LcS w kc sa ra sb rb pa pb D r1 q1 (put4 wr pb (.int .i64 D.sl) (.slice q1.A1 q1.n1 q1.c1) (.slice q1.A2 q1.n2 q1.c2) (.slice q1.A3 q1.n3 q1.c3)) := by
  obtain ⟨⟨g1, g2, g3, g4, g5, g6⟩, ⟨h2, h4⟩, hr, x, y, z, u, h3⟩ := h
  have far : ∀ {p : Nat} {t : TypeId} {cs : Array Value}, Blk wr p t cs → p ≠ pb → Blk (put4 wr pb (.int .i64 D.sl) (.slice q1.A1 q1.n1 q1.c1) (.slice q1.A2 q1.n2 q1.c2) (.slice q1.A3 q1.n3 q1.c3)) p t cs := fun hB hn => (((hB.far (p := ⟨pb, 0, none⟩) hn _).far (p := ⟨pb, 1, none⟩) hn _).far (p := ⟨pb, 2, none⟩) hn _).far (p := ⟨pb, 3, none⟩) hn _
  exact ⟨⟨g1.trans (below_put4 (by omega) wr _ _ _ _), far g2 (by omega), far g3 (by omega), far g4 (by omega), far g5 (by omega), g6.putO hr _ _ _ _⟩, blk_put4 h3 _ _ _ _, ho.putO (Off.of_fr hq (Nat.lt_succ_self _)) _ _ _ _⟩
set_option maxHeartbeats 20000000 in
set_option maxRecDepth 20000 in
theorem actWorlds_core (A0 : Option Addr) (n0 c0 : Nat) (u1 : Value) (A2 : Option Addr) (n2 c2 : Nat) (A3 : Option Addr) (n3 c3 : Nat) (u4 u5 u6 u7 : Value) (hu : [u1, u4, u5, u6, u7].all Value.oneCell' = true) (da db : Wd) (ra rb : Raw) (i : Int) (w : World)
    (h : WOk w ra da) (h' : WOk w rb db) (hlo : ∀ x ∈ da.pl, -9223372036854775808 ≤ x) (hs1 : ra.n1 * 8 ≤ 140737488351232) (hs2 : ra.n2 * 1 ≤ 140737488351232) (hs3 : ra.n3 * 8 ≤ 140737488351232) :
    Calls Try.prog 7 #[.agg (wkc A0 n0 c0 u1 A2 n2 c2 A3 n3 c3 u4 u5 u6 u7), wv da.sl ra, wv db.sl rb, .int .i64 i] w fun e w' => e = .returned (.bool true) ∧ Below w.heap.size w w' := by
  have HST := Lib.hid (fun W => start_any A0 n0 c0 u1 A2 n2 c2 A3 n3 c3 u4 u5 u6 u7 hu W)
  have HAC := Lib.hid (fun W => acted_any W)
  have HCK := Lib.hid (fun W (hb : Below w.heap.size w W) => acheck_any da ra W (h.next hb))
  have HWF := Lib.hid (fun W (hb : Below w.heap.size w W) => wfault_any da ra W (h.next hb) hlo)
  have HSA := Lib.hid (fun W (hb : Below w.heap.size w W) => asame_any da db ra rb W (h.next hb) (h'.next hb))
  have HSB := Lib.hid (fun W (hb : Below w.heap.size w W) => same_any da db ra rb W (h.next hb) (h'.next hb))
  have HCP := Lib.hid (fun W (hb : Below w.heap.size w W) => copy_big da ra W (h.next hb) hs1 hs2 hs3)
  have HFC := Lib.hid (fun W (hb : Below w.heap.size w W) => facts_any da ra W (h.next hb))
  have HWX := Lib.hid (fun W (hb : Below w.heap.size w W) => wfacts_any da ra W (h.next hb) hlo)
  have HHO := Lib.hid (fun W (hb : Below w.heap.size w W) => holds_any da ra i W (h.next hb))
  have HIN := Lib.hid (fun W (hb : Below w.heap.size w W) => inn_any da ra i W (h.next hb))
  have HWH := Lib.hid (fun W (hb : Below w.heap.size w W) => whr_big da ra i W (h.next hb) (by omega))
  have HSS := Lib.hid (fun (r q : Raw) W (h1 : WOk W r da) (h2 : WOk W q da) => same_self da r q W h1 h2)
  have HS0 := Lib.hid (L0S.start w (wkc A0 n0 c0 u1 A2 n2 c2 A3 n3 c3 u4 u5 u6 u7) da.sl db.sl ra rb)
  have HH := Lib.hid h
  have hm1 : ra.n1 ≤ 20000000000000 := by omega
  have hm3 : ra.n3 ≤ 20000000000000 := by omega
  clear hu h h' hlo hs1 hs2 hs3
  unfold SwPost at HST
  generalize hD : stW n0 n2 n3 = D at *
  have HD := Lib.hid hD
  clear hD
  generalize decide (da = db) = z at *
  generalize hce : wErr da = ce at HCK HWF
  clear hce
  obtain ⟨A1, m1, b1, B1, m2, b2, C1, m3, b3⟩ := ra
  obtain ⟨F1, l1, f1, G1, l2, f2, H1, l3, f3⟩ := rb
  unfold wkc at *
  unfold wv wcs
  unfold wv wcs at HST HCK HWF HSA HSB HCP HFC HWX HHO HIN HWH
  unfold wcs at HS0
  dsimp only at HST HCK HWF HSA HSB HCP HFC HWX HHO HIN HWH HS0 hm1 hm3 ⊢
  generalize hsa : da.sl = sa at *
  have HSL := Lib.hid hsa
  clear hsa
  generalize db.sl = sb at *
  go_enter Try.func7, Try.ntmps7
  go_upto_region 1 with (fail)
  generalize World.alloc (World.alloc (World.alloc w _) _) _ = w1 at *
  have k0 := HS0.out.wks.cell 0
  have k1 := HS0.out.wks.cell 1
  have k2 := HS0.out.wks.cell 2
  have k3 := HS0.out.wks.cell 3
  have k4 := HS0.out.wks.cell 4
  have k5 := HS0.out.wks.cell 5
  have k6 := HS0.out.wks.cell 6
  have k7 := HS0.out.wks.cell 7
  simp at k0 k1 k2 k3 k4 k5 k6 k7
  go_wp2_with fail
  refine (HST.out _).mono ?_
  rintro x w2 ⟨⟨D1, p1, e1, D2, p2, e2, D3, p3, e3⟩, rfl, ho2, hb2⟩
  have HA3 := Lib.hid (LaS.of (HS0.out.next hb2) ho2)
  clear ho2 hb2 k0 k1 k2 k3 k4 k5 k6 k7 HS0 HST
  unfold wcs at HA3
  dsimp only at HA3 ⊢
  go_upto_region 2 with (fail)
  generalize World.alloc w2 _ = w3 at *
  generalize w2.heap.size = pa at *
  go_upto_region 3 with (fail)
  rename_i K hK K2 hK2
  have KEY : Hid (∀ (x7 x11 x12 x13 x14 x15 x16 x17 x18 x19 x20 x21 x22 x23 x24 x25 x26 x27 x28 x29 x30 x31 x32 x33 x34 x35 x36 x37 x38 x39 x40 x41 x42 x43 x44 x45 x46 x47 x48 x49 x50 x51 x52 x53 x54 x55 x56 x57 x58 x59 x60 x61 x62 x63 x64 x65 x66 x67 x68 x69 x70 x71 x72 x73 x74 x75 x76 x77 x78 x79 x80 x81 x82 x83 x84 x85 x86 x87 x88 x89 x90 x91 x92 x93 x94 x95 x96 x97 x98 x99 x100 x101 x102 x103 x104 x105 x106 x107 x108 x109 x110 x111 x112 x113 x114 x115 x116 x117 x118 x119 x120 x121 x122 x123 x124 x125 x126 x127 x128 x129 x130 x131 x132 x133 x134 x135 x136 x137 x138 x139 x140 x141 x142 x143 x144 x145 x146 x147 x148 x149 x150 x151 x152 x153 x154 x155 : Value) (pb : Nat) (q1 : Raw) (wr : World), LcS w #[.slice A0 n0 c0, u1, .slice A2 n2 c2, .slice A3 n3 c3, u4, u5, u6, u7] sa ⟨A1, m1, b1, B1, m2, b2, C1, m3, b3⟩ sb ⟨F1, l1, f1, G1, l2, f2, H1, l3, f3⟩ pa pb D ⟨D1, p1, e1, D2, p2, e2, D3, p3, e3⟩ q1 wr → K ⟨#[.agg #[.slice A0 n0 c0, u1, .slice A2 n2 c2, .slice A3 n3 c3, u4, u5, u6, u7], .agg #[.int .i64 sa, .slice A1 m1 b1, .slice B1 m2 b2, .slice C1 m3 b3], .agg #[.int .i64 sb, .slice F1 l1 f1, .slice G1 l2 f2, .slice H1 l3 f3], .int .i64 i, .pointer (some ⟨w.heap.size, 0, none⟩), .pointer (some ⟨w.heap.size + 1, 0, none⟩), .pointer (some ⟨w.heap.size + 2, 0, none⟩), x7, .bool false, .pointer (some ⟨pa, 0, none⟩), .pointer (some ⟨pb, 0, none⟩), x11, x12, x13, x14, x15, x16, x17, x18, x19, x20, x21, x22, x23, x24, x25, x26, x27, x28, x29, x30, x31, x32, x33, x34, x35, x36, x37, x38, x39, x40, x41, x42, x43, x44, x45, x46, x47, x48, x49, x50, x51, x52, x53, x54, x55, x56, x57, x58, x59, x60, x61, x62, x63, x64, x65, x66, x67, x68, x69, x70, x71, x72, x73, x74, x75, x76, x77, x78, x79, x80, x81, x82, x83, x84, x85, x86, x87, x88, x89, x90, x91, x92, x93, x94, x95, x96, x97, x98, x99, x100, x101, x102, x103, x104, x105, x106, x107, x108, x109, x110, x111, x112, x113, x114, x115, x116, x117, x118, x119, x120, x121, x122, x123, x124, x125, x126, x127, x128, x129, x130, x131, x132, x133, x134, x135, x136, x137, x138, x139, x140, x141, x142, x143, x144, x145, x146, x147, x148, x149, x150, x151, x152, x153, x154, x155], []⟩ wr) := Lib.hid (by
    clear hK2 K2 HA3
    intro x7 x11 x12 x13 x14 x15 x16 x17 x18 x19 x20 x21 x22 x23 x24 x25 x26 x27 x28 x29 x30 x31 x32 x33 x34 x35 x36 x37 x38 x39 x40 x41 x42 x43 x44 x45 x46 x47 x48 x49 x50 x51 x52 x53 x54 x55 x56 x57 x58 x59 x60 x61 x62 x63 x64 x65 x66 x67 x68 x69 x70 x71 x72 x73 x74 x75 x76 x77 x78 x79 x80 x81 x82 x83 x84 x85 x86 x87 x88 x89 x90 x91 x92 x93 x94 x95 x96 x97 x98 x99 x100 x101 x102 x103 x104 x105 x106 x107 x108 x109 x110 x111 x112 x113 x114 x115 x116 x117 x118 x119 x120 x121 x122 x123 x124 x125 x126 x127 x128 x129 x130 x131 x132 x133 x134 x135 x136 x137 x138 x139 x140 x141 x142 x143 x144 x145 x146 x147 x148 x149 x150 x151 x152 x153 x154 x155 pb q1 wr hl
    have HL := Lib.hid hl
    clear hl
    refine hK _ _ ?_
    clear hK K
    have HSD : Hid (∀ W, LcS w #[.slice A0 n0 c0, u1, .slice A2 n2 c2, .slice A3 n3 c3, u4, u5, u6, u7] sa ⟨A1, m1, b1, B1, m2, b2, C1, m3, b3⟩ sb ⟨F1, l1, f1, G1, l2, f2, H1, l3, f3⟩ pa pb D ⟨D1, p1, e1, D2, p2, e2, D3, p3, e3⟩ q1 W → Calls Try.prog 12 #[.agg #[.int .i64 D.sl, .slice D1 p1 e1, .slice D2 p2 e2, .slice D3 p3 e3], .agg #[.int .i64 D.sl, .slice q1.A1 q1.n1 q1.c1, .slice q1.A2 q1.n2 q1.c2, .slice q1.A3 q1.n3 q1.c3]] W fun x w' => x = .returned (.bool true) ∧ Below W.heap.size W w') := Lib.hid (fun W h9 => by
      have h8 := same_self D ⟨D1, p1, e1, D2, p2, e2, D3, p3, e3⟩ q1 W h9.l.ok1 h9.ok2
      unfold wv wcs at h8
      dsimp only at h8
      exact h8)
    go_upto_region 5 with (fail)
    refine wp_inv (S := LcS w #[.slice A0 n0 c0, u1, .slice A2 n2 c2, .slice A3 n3 c3, u4, u5, u6, u7] sa ⟨A1, m1, b1, B1, m2, b2, C1, m3, b3⟩ sb ⟨F1, l1, f1, G1, l2, f2, H1, l3, f3⟩ pa pb D ⟨D1, p1, e1, D2, p2, e2, D3, p3, e3⟩ q1) (isV (.bool true) :: isV (.bool false) :: isV (.bool false) :: isV (.agg #[.int .i64 D.sl, .slice D1 p1 e1, .slice D2 p2 e2, .slice D3 p3 e3]) :: isV (.agg #[.int .i64 D.sl, .slice q1.A1 q1.n1 q1.c1, .slice q1.A2 q1.n2 q1.c2, .slice q1.A3 q1.n3 q1.c3]) :: isV (.bool true) :: isV (.bool false) :: isV (.bool false) :: isV (.bool false) :: isV (.agg #[.int .i64 sa, .slice A1 m1 b1, .slice B1 m2 b2, .slice C1 m3 b3]) :: isV (.int .i64 ce) :: isV (.agg #[.int .i64 sa, .slice A1 m1 b1, .slice B1 m2 b2, .slice C1 m3 b3]) :: isV (.int .i64 ce) :: isV (.bool false) :: isV (.bool false) :: isV (.bool false) :: isV (.agg #[.int .i64 sa, .slice A1 m1 b1, .slice B1 m2 b2, .slice C1 m3 b3]) :: isV (.agg #[.int .i64 sb, .slice F1 l1 f1, .slice G1 l2 f2, .slice H1 l3 f3]) :: isV (.bool z) :: isV (.agg #[.int .i64 sa, .slice A1 m1 b1, .slice B1 m2 b2, .slice C1 m3 b3]) :: isV (.agg #[.int .i64 sb, .slice F1 l1 f1, .slice G1 l2 f2, .slice H1 l3 f3]) :: isV (.bool z) :: isV (.bool false) :: isV (.bool false) :: isV (.bool false) :: isV (.agg #[.int .i64 sa, .slice A1 m1 b1, .slice B1 m2 b2, .slice C1 m3 b3]) :: isWd da :: isV (.agg #[.int .i64 sa, .slice A1 m1 b1, .slice B1 m2 b2, .slice C1 m3 b3]) :: isV (.bool true) :: isV (.bool false) :: isV (.bool false) :: isV (.bool false) :: isV (.agg #[.int .i64 sa, .slice A1 m1 b1, .slice B1 m2 b2, .slice C1 m3 b3]) :: isFc da :: isV (.agg #[.int .i64 sa, .slice A1 m1 b1, .slice B1 m2 b2, .slice C1 m3 b3]) :: isFc da :: isV (.bool true) :: isV (.bool false) :: isV (.bool false) :: []) (by kernel_rfl) (by kernel_rfl) (fun _ _ h9 hb9 => h9.next hb9) HL.out ?plan ?fin
    case plan =>
      refine PlanI.cons (OpI.mkV fun a wx hs hf hp => ?_) ?_
      · exact StepI.callV rfl (wants_none rfl) rfl (by kernel_rfl) (HAC.out wx)
      refine PlanI.cons (OpI.mkV fun a wx hs hf hp => ?_) ?_
      · exact StepI.not rfl (wants_none rfl) (hp 0 52 (by kernel_rfl) rfl) rfl
      refine PlanI.cons (OpI.mkV fun a wx hs hf hp => ?_) ?_
      · exact StepI.mov rfl (wants_none rfl) (hp 1 53 (by kernel_rfl) rfl)
      refine PlanI.cons (OpI.mkV fun a wx hs hf hp => ?_) ?_
      · exact StepI.load rfl (wants_at rfl rfl (hp 2 54 (by kernel_rfl) rfl) (r := true) rfl) (hf.keep 9 (by kernel_rfl)) (run_load_blk hs.l.nxt (n := 4) rfl (by kernel_rfl)) rfl
      refine PlanI.cons (OpI.mkV fun a wx hs hf hp => ?_) ?_
      · exact StepI.load rfl (wants_at rfl rfl (hp 2 54 (by kernel_rfl) rfl) (r := true) rfl) (hf.keep 10 (by kernel_rfl)) (run_load_blk hs.wnt (n := 4) rfl (by kernel_rfl)) rfl
      refine PlanI.cons (OpI.mkV fun a wx hs hf hp => ?_) ?_
      · exact StepI.callV rfl (wants_at rfl rfl (hp 2 54 (by kernel_rfl) rfl) (r := true) rfl) (args2 (hp 3 55 (by kernel_rfl) rfl) (hp 4 56 (by kernel_rfl) rfl)) (by kernel_rfl) (HSD.out wx hs)
      refine PlanI.cons (OpI.mkV fun a wx hs hf hp => ?_) ?_
      · exact StepI.not rfl (wants_at rfl rfl (hp 2 54 (by kernel_rfl) rfl) (r := true) rfl) (hp 5 57 (by kernel_rfl) rfl) rfl
      refine PlanI.cons (OpI.mkV fun a wx hs hf hp => ?_) ?_
      · exact StepI.pick (b := false) rfl (wants_none rfl) (hp 2 54 (by kernel_rfl) rfl) (hp 6 58 (by kernel_rfl) rfl)
      refine PlanI.cons (OpI.mkV fun a wx hs hf hp => ?_) ?_
      · exact StepI.mov rfl (wants_none rfl) (hp 7 59 (by kernel_rfl) rfl)
      refine PlanI.cons (OpI.mkV fun a wx hs hf hp => ?_) ?_
      · exact StepI.load rfl (wants_at rfl rfl (hp 8 60 (by kernel_rfl) rfl) (r := true) rfl) (hf.keep 5 (by kernel_rfl)) (run_load_blk hs.l.ba (n := 4) rfl (by kernel_rfl)) rfl
      refine PlanI.cons (OpI.mkV fun a wx hs hf hp => ?_) ?_
      · exact StepI.callV rfl (wants_at rfl rfl (hp 8 60 (by kernel_rfl) rfl) (r := true) rfl) (args1 (hp 9 61 (by kernel_rfl) rfl)) (by kernel_rfl) (HCK.out wx hs.l.bel)
      refine PlanI.cons (OpI.mkV fun a wx hs hf hp => ?_) ?_
      · exact StepI.load rfl (wants_at rfl rfl (hp 8 60 (by kernel_rfl) rfl) (r := true) rfl) (hf.keep 5 (by kernel_rfl)) (run_load_blk hs.l.ba (n := 4) rfl (by kernel_rfl)) rfl
      refine PlanI.cons (OpI.mkV fun a wx hs hf hp => ?_) ?_
      · exact StepI.callV rfl (wants_at rfl rfl (hp 8 60 (by kernel_rfl) rfl) (r := true) rfl) (args1 (hp 11 63 (by kernel_rfl) rfl)) (by kernel_rfl) (HWF.out wx hs.l.bel)
      refine PlanI.cons (OpI.mkV fun a wx hs hf hp => ?_) ?_
      · exact StepI.bin rfl (wants_at rfl rfl (hp 8 60 (by kernel_rfl) rfl) (r := true) rfl) (hp 10 62 (by kernel_rfl) rfl) (hp 12 64 (by kernel_rfl) rfl) (neqI_same _ _ ce wx) rfl
      refine PlanI.cons (OpI.mkV fun a wx hs hf hp => ?_) ?_
      · exact StepI.pick (b := false) rfl (wants_none rfl) (hp 8 60 (by kernel_rfl) rfl) (hp 13 65 (by kernel_rfl) rfl)
      refine PlanI.cons (OpI.mkV fun a wx hs hf hp => ?_) ?_
      · exact StepI.mov rfl (wants_none rfl) (hp 14 66 (by kernel_rfl) rfl)
      refine PlanI.cons (OpI.mkV fun a wx hs hf hp => ?_) ?_
      · exact StepI.load rfl (wants_at rfl rfl (hp 15 67 (by kernel_rfl) rfl) (r := true) rfl) (hf.keep 5 (by kernel_rfl)) (run_load_blk hs.l.ba (n := 4) rfl (by kernel_rfl)) rfl
      refine PlanI.cons (OpI.mkV fun a wx hs hf hp => ?_) ?_
      · exact StepI.load rfl (wants_at rfl rfl (hp 15 67 (by kernel_rfl) rfl) (r := true) rfl) (hf.keep 6 (by kernel_rfl)) (run_load_blk hs.l.bb (n := 4) rfl (by kernel_rfl)) rfl
      refine PlanI.cons (OpI.mkV fun a wx hs hf hp => ?_) ?_
      · exact StepI.callV rfl (wants_at rfl rfl (hp 15 67 (by kernel_rfl) rfl) (r := true) rfl) (args2 (hp 16 68 (by kernel_rfl) rfl) (hp 17 69 (by kernel_rfl) rfl)) (by kernel_rfl) (HSA.out wx hs.l.bel)
      refine PlanI.cons (OpI.mkV fun a wx hs hf hp => ?_) ?_
      · exact StepI.load rfl (wants_at rfl rfl (hp 15 67 (by kernel_rfl) rfl) (r := true) rfl) (hf.keep 5 (by kernel_rfl)) (run_load_blk hs.l.ba (n := 4) rfl (by kernel_rfl)) rfl
      refine PlanI.cons (OpI.mkV fun a wx hs hf hp => ?_) ?_
      · exact StepI.load rfl (wants_at rfl rfl (hp 15 67 (by kernel_rfl) rfl) (r := true) rfl) (hf.keep 6 (by kernel_rfl)) (run_load_blk hs.l.bb (n := 4) rfl (by kernel_rfl)) rfl
      refine PlanI.cons (OpI.mkV fun a wx hs hf hp => ?_) ?_
      · exact StepI.callV rfl (wants_at rfl rfl (hp 15 67 (by kernel_rfl) rfl) (r := true) rfl) (args2 (hp 19 71 (by kernel_rfl) rfl) (hp 20 72 (by kernel_rfl) rfl)) (by kernel_rfl) (HSB.out wx hs.l.bel)
      refine PlanI.cons (OpI.mkV fun a wx hs hf hp => ?_) ?_
      · exact StepI.bin rfl (wants_at rfl rfl (hp 15 67 (by kernel_rfl) rfl) (r := true) rfl) (hp 18 70 (by kernel_rfl) rfl) (hp 21 73 (by kernel_rfl) rfl) (neqB_same _ _ z wx) rfl
      refine PlanI.cons (OpI.mkV fun a wx hs hf hp => ?_) ?_
      · exact StepI.pick (b := false) rfl (wants_none rfl) (hp 15 67 (by kernel_rfl) rfl) (hp 22 74 (by kernel_rfl) rfl)
      refine PlanI.cons (OpI.mkV fun a wx hs hf hp => ?_) ?_
      · exact StepI.mov rfl (wants_none rfl) (hp 23 75 (by kernel_rfl) rfl)
      refine PlanI.cons (OpI.mkV fun a wx hs hf hp => ?_) ?_
      · exact StepI.load rfl (wants_at rfl rfl (hp 24 76 (by kernel_rfl) rfl) (r := true) rfl) (hf.keep 5 (by kernel_rfl)) (run_load_blk hs.l.ba (n := 4) rfl (by kernel_rfl)) rfl
      refine PlanI.cons (OpI.mk isWd_st fun a wx hs hf hp => ?_) ?_
      · exact StepI.call rfl (wants_at rfl rfl (hp 24 76 (by kernel_rfl) rfl) (r := true) rfl) (args1 (hp 25 77 (by kernel_rfl) rfl)) (by kernel_rfl) (cp_told (HCP.out wx hs.l.bel))
      refine PlanI.cons (OpI.mkV fun a wx hs hf hp => ?_) ?_
      · exact StepI.load rfl (wants_at rfl rfl (hp 24 76 (by kernel_rfl) rfl) (r := true) rfl) (hf.keep 5 (by kernel_rfl)) (run_load_blk hs.l.ba (n := 4) rfl (by kernel_rfl)) rfl
      refine PlanI.cons (OpI.mkV fun a wx hs hf hp => ?_) ?_
      · obtain ⟨r9, e9, h9⟩ := (show isWd da (a.eval (.tmp 78)) wx from (hp 26 78 (by kernel_rfl) rfl))
        have h8 := HSS.out r9 ⟨A1, m1, b1, B1, m2, b2, C1, m3, b3⟩ wx h9 (HH.out.next hs.l.bel)
        unfold wv wcs at h8 e9
        rw [HSL.out] at e9
        exact StepI.callV rfl (wants_at rfl rfl (hp 24 76 (by kernel_rfl) rfl) (r := true) rfl) (args2 e9 (hp 27 79 (by kernel_rfl) rfl)) (by kernel_rfl) h8
      refine PlanI.cons (OpI.mkV fun a wx hs hf hp => ?_) ?_
      · exact StepI.not rfl (wants_at rfl rfl (hp 24 76 (by kernel_rfl) rfl) (r := true) rfl) (hp 28 80 (by kernel_rfl) rfl) rfl
      refine PlanI.cons (OpI.mkV fun a wx hs hf hp => ?_) ?_
      · exact StepI.pick (b := false) rfl (wants_none rfl) (hp 24 76 (by kernel_rfl) rfl) (hp 29 81 (by kernel_rfl) rfl)
      refine PlanI.cons (OpI.mkV fun a wx hs hf hp => ?_) ?_
      · exact StepI.mov rfl (wants_none rfl) (hp 30 82 (by kernel_rfl) rfl)
      refine PlanI.cons (OpI.mkV fun a wx hs hf hp => ?_) ?_
      · exact StepI.load rfl (wants_at rfl rfl (hp 31 83 (by kernel_rfl) rfl) (r := true) rfl) (hf.keep 5 (by kernel_rfl)) (run_load_blk hs.l.ba (n := 4) rfl (by kernel_rfl)) rfl
      refine PlanI.cons (OpI.mk isFc_st fun a wx hs hf hp => ?_) ?_
      · exact StepI.call rfl (wants_at rfl rfl (hp 31 83 (by kernel_rfl) rfl) (r := true) rfl) (args1 (hp 32 84 (by kernel_rfl) rfl)) (by kernel_rfl) (fc_told (HFC.out wx hs.l.bel))
      refine PlanI.cons (OpI.mkV fun a wx hs hf hp => ?_) ?_
      · exact StepI.load rfl (wants_at rfl rfl (hp 31 83 (by kernel_rfl) rfl) (r := true) rfl) (hf.keep 5 (by kernel_rfl)) (run_load_blk hs.l.ba (n := 4) rfl (by kernel_rfl)) rfl
      refine PlanI.cons (OpI.mk isFc_st fun a wx hs hf hp => ?_) ?_
      · exact StepI.call rfl (wants_at rfl rfl (hp 31 83 (by kernel_rfl) rfl) (r := true) rfl) (args1 (hp 34 86 (by kernel_rfl) rfl)) (by kernel_rfl) (fc_told (HWX.out wx hs.l.bel))
      refine PlanI.cons (OpI.mkV fun a wx hs hf hp => ?_) ?_
      · obtain ⟨la, A9, c9, e9, g1, g2, g3, g4, g5⟩ := (show isFc da (a.eval (.tmp 85)) wx from (hp 33 85 (by kernel_rfl) rfl))
        obtain ⟨lb, A8, c8, e8, g6, g7, g8, g9, g10⟩ := (show isFc da (a.eval (.tmp 87)) wx from (hp 35 87 (by kernel_rfl) rfl))
        obtain rfl := isFc_eq g4 g5 g9 g10
        unfold maxLen at g2
        exact StepI.callV rfl (wants_at rfl rfl (hp 31 83 (by kernel_rfl) rfl) (r := true) rfl) (args2 e9 e8) (by kernel_rfl) (equalG_any la A9 A8 _ c9 c8 wx rfl (by omega) g3 g8)
      refine PlanI.cons (OpI.mkV fun a wx hs hf hp => ?_) ?_
      · exact StepI.not rfl (wants_at rfl rfl (hp 31 83 (by kernel_rfl) rfl) (r := true) rfl) (hp 36 88 (by kernel_rfl) rfl) rfl
      refine PlanI.cons (OpI.mkV fun a wx hs hf hp => ?_) ?_
      · exact StepI.pick (b := false) rfl (wants_none rfl) (hp 31 83 (by kernel_rfl) rfl) (hp 37 89 (by kernel_rfl) rfl)
      exact PlanI.nil
    case fin =>
      intro a wx hs hf hv
      obtain ⟨v78, h78⟩ : ∃ v, a.tmps.getD 78 undef = v := ⟨_, rfl⟩
      obtain ⟨v85, h85⟩ : ∃ v, a.tmps.getD 85 undef = v := ⟨_, rfl⟩
      obtain ⟨v87, h87⟩ : ∃ v, a.tmps.getD 87 undef = v := ⟨_, rfl⟩
      have hput := hf.puts ((52, .bool true) :: (53, .bool false) :: (54, .bool false) :: (55, .agg #[.int .i64 D.sl, .slice D1 p1 e1, .slice D2 p2 e2, .slice D3 p3 e3]) :: (56, .agg #[.int .i64 D.sl, .slice q1.A1 q1.n1 q1.c1, .slice q1.A2 q1.n2 q1.c2, .slice q1.A3 q1.n3 q1.c3]) :: (57, .bool true) :: (58, .bool false) :: (59, .bool false) :: (60, .bool false) :: (61, .agg #[.int .i64 sa, .slice A1 m1 b1, .slice B1 m2 b2, .slice C1 m3 b3]) :: (62, .int .i64 ce) :: (63, .agg #[.int .i64 sa, .slice A1 m1 b1, .slice B1 m2 b2, .slice C1 m3 b3]) :: (64, .int .i64 ce) :: (65, .bool false) :: (66, .bool false) :: (67, .bool false) :: (68, .agg #[.int .i64 sa, .slice A1 m1 b1, .slice B1 m2 b2, .slice C1 m3 b3]) :: (69, .agg #[.int .i64 sb, .slice F1 l1 f1, .slice G1 l2 f2, .slice H1 l3 f3]) :: (70, .bool z) :: (71, .agg #[.int .i64 sa, .slice A1 m1 b1, .slice B1 m2 b2, .slice C1 m3 b3]) :: (72, .agg #[.int .i64 sb, .slice F1 l1 f1, .slice G1 l2 f2, .slice H1 l3 f3]) :: (73, .bool z) :: (74, .bool false) :: (75, .bool false) :: (76, .bool false) :: (77, .agg #[.int .i64 sa, .slice A1 m1 b1, .slice B1 m2 b2, .slice C1 m3 b3]) :: (78, v78) :: (79, .agg #[.int .i64 sa, .slice A1 m1 b1, .slice B1 m2 b2, .slice C1 m3 b3]) :: (80, .bool true) :: (81, .bool false) :: (82, .bool false) :: (83, .bool false) :: (84, .agg #[.int .i64 sa, .slice A1 m1 b1, .slice B1 m2 b2, .slice C1 m3 b3]) :: (85, v85) :: (86, .agg #[.int .i64 sa, .slice A1 m1 b1, .slice B1 m2 b2, .slice C1 m3 b3]) :: (87, v87) :: (88, .bool true) :: (89, .bool false) :: (90, .bool false) :: []) (by kernel_rfl) (List.forall_mem_cons.2 ⟨hv 0 52 rfl, (List.forall_mem_cons.2 ⟨hv 1 53 rfl, (List.forall_mem_cons.2 ⟨hv 2 54 rfl, (List.forall_mem_cons.2 ⟨hv 3 55 rfl, (List.forall_mem_cons.2 ⟨hv 4 56 rfl, (List.forall_mem_cons.2 ⟨hv 5 57 rfl, (List.forall_mem_cons.2 ⟨hv 6 58 rfl, (List.forall_mem_cons.2 ⟨hv 7 59 rfl, (List.forall_mem_cons.2 ⟨hv 8 60 rfl, (List.forall_mem_cons.2 ⟨hv 9 61 rfl, (List.forall_mem_cons.2 ⟨hv 10 62 rfl, (List.forall_mem_cons.2 ⟨hv 11 63 rfl, (List.forall_mem_cons.2 ⟨hv 12 64 rfl, (List.forall_mem_cons.2 ⟨hv 13 65 rfl, (List.forall_mem_cons.2 ⟨hv 14 66 rfl, (List.forall_mem_cons.2 ⟨hv 15 67 rfl, (List.forall_mem_cons.2 ⟨hv 16 68 rfl, (List.forall_mem_cons.2 ⟨hv 17 69 rfl, (List.forall_mem_cons.2 ⟨hv 18 70 rfl, (List.forall_mem_cons.2 ⟨hv 19 71 rfl, (List.forall_mem_cons.2 ⟨hv 20 72 rfl, (List.forall_mem_cons.2 ⟨hv 21 73 rfl, (List.forall_mem_cons.2 ⟨hv 22 74 rfl, (List.forall_mem_cons.2 ⟨hv 23 75 rfl, (List.forall_mem_cons.2 ⟨hv 24 76 rfl, (List.forall_mem_cons.2 ⟨hv 25 77 rfl, (List.forall_mem_cons.2 ⟨h78, (List.forall_mem_cons.2 ⟨hv 27 79 rfl, (List.forall_mem_cons.2 ⟨hv 28 80 rfl, (List.forall_mem_cons.2 ⟨hv 29 81 rfl, (List.forall_mem_cons.2 ⟨hv 30 82 rfl, (List.forall_mem_cons.2 ⟨hv 31 83 rfl, (List.forall_mem_cons.2 ⟨hv 32 84 rfl, (List.forall_mem_cons.2 ⟨h85, (List.forall_mem_cons.2 ⟨hv 34 86 rfl, (List.forall_mem_cons.2 ⟨h87, (List.forall_mem_cons.2 ⟨hv 36 88 rfl, (List.forall_mem_cons.2 ⟨hv 37 89 rfl, (List.forall_mem_cons.2 ⟨hv 38 90 rfl, (by intro p hp; cases hp)⟩)⟩)⟩)⟩)⟩)⟩)⟩)⟩)⟩)⟩)⟩)⟩)⟩)⟩)⟩)⟩)⟩)⟩)⟩)⟩)⟩)⟩)⟩)⟩)⟩)⟩)⟩)⟩)⟩)⟩)⟩)⟩)⟩)⟩)⟩)⟩)⟩)⟩)⟩)
      clear hf hv
      clear h78
      clear h85
      clear h87
      subst hput
      simp only [puts, Act.put, List.setIfInBounds_toArray, List.set_cons_zero, List.set_cons_succ]
      have HX5 := Lib.hid hs.l
      clear hs HL
      have HV1 : Hid (m1 = da.pl.length) := Lib.hid HH.out.h1
      have HV3 : Hid (m3 = da.sp.length) := Lib.hid HH.out.h3
      obtain ⟨k0, k1, k2, k3⟩ := HX5.out.fourA
      dsimp only at k0 k1 k2 k3
      have hw9 := i64_w ((m1 : Int) - 1) (by omega) (by omega)
      go_wp2_with fail
      clear hw9
      go_loopg [11, 12, 13, 14] m1 (fun kx o1 o2 o3 o4 wr => ∃ (j : Nat) (hv iv ev : Int), kx = j ∧ j ≤ m1 ∧ o4 = .int .i64 ((j : Int) - 1) ∧ o1 = .int .i64 hv ∧ o2 = .int .i64 iv ∧ o3 = .int .i64 ev ∧ wr = wx ∧ Hid (hv = hF da i j ∧ iv = iF da i j ∧ ev = wF da i j))
      case atStart => exact ⟨m1, -1, -1, -1, rfl, Nat.le_refl _, rfl, rfl, rfl, rfl, rfl, Lib.hid (by rw [HV1.out]; exact ⟨(hF_len _ _).symm, (iF_len _ _).symm, (wF_len _ _).symm⟩)⟩
      case round =>
        obtain ⟨j, hv, iv, ev, hgk, hj, rfl, rfl, rfl, rfl, rfl, HF⟩ := hrel
        have HGK := Lib.hid hgk; clear hgk
        rcases j with _ | p
        · obtain ⟨e1, e2, e3⟩ := HF.out
          rw [hF_zero] at e1
          rw [iF_zero] at e2
          rw [wF_zero] at e3
          subst e1 e2 e3
          generalize hold da i = hv at *
          generalize inn da i = iv at *
          generalize whr da i = ev at *
          go_wp2_with fail
          refine (HHO.out _ HX5.out.bel).mono ?_
          rintro x w6 ⟨rfl, hb6⟩
          have HX6 := Lib.hid (HX5.out.next hb6)
          clear hb6 HX5 k0 k1 k2 k3
          obtain ⟨k0, k1, k2, k3⟩ := HX6.out.fourA
          dsimp only at k0 k1 k2 k3
          go_wp2_with fail
          refine (HIN.out _ HX6.out.bel).mono ?_
          rintro x w7 ⟨rfl, hb7⟩
          have HX7 := Lib.hid (HX6.out.next hb7)
          clear hb7 HX6 k0 k1 k2 k3
          obtain ⟨k0, k1, k2, k3⟩ := HX7.out.fourA
          dsimp only at k0 k1 k2 k3
          go_wp2_with fail
          refine (HWH.out _ HX7.out.bel).mono ?_
          rintro x w8 ⟨rfl, hb8⟩
          have HX8 := Lib.hid (HX7.out.next hb8).bel
          clear hb8 HX7 k0 k1 k2 k3
          go_wp2_with fail
          go_ret
          exact ⟨rfl, HX8.out⟩
        · obtain ⟨x, hx⟩ := get_of_lt HV1.out (show p < m1 by omega)
          obtain ⟨b, off, rfl, hb, hc0⟩ := HH.out.i1 p x hx
          have g0 := (HX5.out.bel.cell (p := ⟨b, off + p, none⟩) hb).trans hc0
          have HHs := Lib.hid (hF_step (i := i) hx)
          have HIs := Lib.hid (iF_step (i := i) hx)
          have HWs := Lib.hid (wF_step (i := i) hx)
          rw [← HV3.out] at HHs
          obtain ⟨e1, e2, e3⟩ := HF.out
          rw [← e1] at HHs
          rw [← e2] at HIs
          rw [← e3] at HWs
          clear e1 e2 e3 HF hx hb hc0
          have i1 : (0 : Int) ≤ (p : Int) := by omega
          have i2 : (p : Int) < (m1 : Int) := by omega
          have hpj : ((p + 1 : Nat) : Int) - 1 = (p : Int) := by omega
          rw [hpj]
          have hw1 := i64_w ((p : Int) - 1) (by omega) (by omega)
          have hw8 := i64_w (8 + (p : Int)) (by omega) (by omega)
          have hH : i < 0 ∨ ((0 ≤ i ∧ i < (m3 : Int)) ∧ x = -2 - i) ∨ ((0 ≤ i ∧ i < (m3 : Int)) ∧ x ≠ -2 - i) ∨ (m3 : Int) ≤ i := by omega
          clear hpj
          have HK1 : Hid True := Lib.hid trivial
          have HK2 : Hid True := Lib.hid trivial
          have HK3 : Hid True := Lib.hid trivial
          have HK4 : Hid True := Lib.hid trivial
          rcases hH with hH | ⟨⟨hH1, hH2⟩, hH3⟩ | ⟨⟨hH1, hH2⟩, hH3⟩ | hH
          · have hq : ((p : Int) == i) = false := by simp; omega
            go_wp2_with fail
            go_roundg p
            case measure => rw [HGK.out]; omega
            case rel => exact ⟨p, _, _, _, rfl, by omega, by go_num, rfl, rfl, rfl, rfl, Lib.hid ⟨by have hk1 := HK1.out; have hk2 := HK2.out; have hk3 := HK3.out; have hk4 := HK4.out; rw [HHs.out]; split <;> omega, by have hk1 := HK1.out; have hk2 := HK2.out; have hk3 := HK3.out; have hk4 := HK4.out; rw [HIs.out]; split <;> omega, by have hk1 := HK1.out; have hk2 := HK2.out; have hk3 := HK3.out; have hk4 := HK4.out; rw [HWs.out]; (repeat' split) <;> omega⟩⟩
          · have hw := i64_w (-2 - i) (by omega) (by omega)
            have hI : (x == i) = false := by simp; omega
            have hA : (x == -2 - i) = true := by simp [hH3]
            have hxx : x < -1 := by omega
            have hmx : max x (-1) = -1 := by omega
            have hx1 : (x == -1) = false := by simp; omega
            have HK2 := Lib.hid hH3
            clear hH3
            by_cases hpi : (p : Int) = i
            · have hq : ((p : Int) == i) = true := by simp [hpi]
              have HK1 := Lib.hid hpi
              clear hpi
              go_wp2_with fail
              go_roundg p
              case measure => rw [HGK.out]; omega
              case rel => exact ⟨p, _, _, _, rfl, by omega, by go_num, rfl, rfl, rfl, rfl, Lib.hid ⟨by have hk1 := HK1.out; have hk2 := HK2.out; have hk3 := HK3.out; have hk4 := HK4.out; rw [HHs.out]; split <;> omega, by have hk1 := HK1.out; have hk2 := HK2.out; have hk3 := HK3.out; have hk4 := HK4.out; rw [HIs.out]; split <;> omega, by have hk1 := HK1.out; have hk2 := HK2.out; have hk3 := HK3.out; have hk4 := HK4.out; rw [HWs.out]; (repeat' split) <;> omega⟩⟩
            · have hq : ((p : Int) == i) = false := by simp [hpi]
              have HK1 := Lib.hid hpi
              clear hpi
              go_wp2_with fail
              go_roundg p
              case measure => rw [HGK.out]; omega
              case rel => exact ⟨p, _, _, _, rfl, by omega, by go_num, rfl, rfl, rfl, rfl, Lib.hid ⟨by have hk1 := HK1.out; have hk2 := HK2.out; have hk3 := HK3.out; have hk4 := HK4.out; rw [HHs.out]; split <;> omega, by have hk1 := HK1.out; have hk2 := HK2.out; have hk3 := HK3.out; have hk4 := HK4.out; rw [HIs.out]; split <;> omega, by have hk1 := HK1.out; have hk2 := HK2.out; have hk3 := HK3.out; have hk4 := HK4.out; rw [HWs.out]; (repeat' split) <;> omega⟩⟩
          · have hw := i64_w (-2 - i) (by omega) (by omega)
            have hA : (x == -2 - i) = false := by simp [hH3]
            have HK2 := Lib.hid hH3
            clear hH3
            rcases (show x = i ∨ x ≠ i from by omega) with hxi | hxi
            · have hI : (x == i) = true := by simp [hxi]
              have hmx : max x (-1) = x := by omega
              have hx1 : (x == -1) = false := by simp; omega
              have HK3 := Lib.hid hxi
              clear hxi
              by_cases hpi : (p : Int) = i
              · have hq : ((p : Int) == i) = true := by simp [hpi]
                have HK1 := Lib.hid hpi
                clear hpi
                go_wp2_with fail
                go_roundg p
                case measure => rw [HGK.out]; omega
                case rel => exact ⟨p, _, _, _, rfl, by omega, by go_num, rfl, rfl, rfl, rfl, Lib.hid ⟨by have hk1 := HK1.out; have hk2 := HK2.out; have hk3 := HK3.out; have hk4 := HK4.out; rw [HHs.out]; split <;> omega, by have hk1 := HK1.out; have hk2 := HK2.out; have hk3 := HK3.out; have hk4 := HK4.out; rw [HIs.out]; split <;> omega, by have hk1 := HK1.out; have hk2 := HK2.out; have hk3 := HK3.out; have hk4 := HK4.out; rw [HWs.out]; (repeat' split) <;> omega⟩⟩
              · have hq : ((p : Int) == i) = false := by simp [hpi]
                have HK1 := Lib.hid hpi
                clear hpi
                go_wp2_with fail
                go_roundg p
                case measure => rw [HGK.out]; omega
                case rel => exact ⟨p, _, _, _, rfl, by omega, by go_num, rfl, rfl, rfl, rfl, Lib.hid ⟨by have hk1 := HK1.out; have hk2 := HK2.out; have hk3 := HK3.out; have hk4 := HK4.out; rw [HHs.out]; split <;> omega, by have hk1 := HK1.out; have hk2 := HK2.out; have hk3 := HK3.out; have hk4 := HK4.out; rw [HIs.out]; split <;> omega, by have hk1 := HK1.out; have hk2 := HK2.out; have hk3 := HK3.out; have hk4 := HK4.out; rw [HWs.out]; (repeat' split) <;> omega⟩⟩
            · have hI : (x == i) = false := by simp [hxi]
              have HK3 := Lib.hid hxi
              clear hxi
              by_cases hpi : (p : Int) = i
              · have hq : ((p : Int) == i) = true := by simp [hpi]
                have HK1 := Lib.hid hpi
                clear hpi
                rcases (show x < -1 ∨ x = -1 ∨ 0 ≤ x from by omega) with hxx | hxx | hxx
                · have hmx : max x (-1) = -1 := by omega
                  have hx1 : (x == -1) = false := by simp; omega
                  go_wp2_with fail
                  go_roundg p
                  case measure => rw [HGK.out]; omega
                  case rel => exact ⟨p, _, _, _, rfl, by omega, by go_num, rfl, rfl, rfl, rfl, Lib.hid ⟨by have hk1 := HK1.out; have hk2 := HK2.out; have hk3 := HK3.out; have hk4 := HK4.out; rw [HHs.out]; split <;> omega, by have hk1 := HK1.out; have hk2 := HK2.out; have hk3 := HK3.out; have hk4 := HK4.out; rw [HIs.out]; split <;> omega, by have hk1 := HK1.out; have hk2 := HK2.out; have hk3 := HK3.out; have hk4 := HK4.out; rw [HWs.out]; (repeat' split) <;> omega⟩⟩
                · have hmx : max x (-1) = -1 := by omega
                  have hx1 : (x == -1) = true := by simp [hxx]
                  have HK4 := Lib.hid hxx
                  clear hxx
                  go_wp2_with fail
                  go_roundg p
                  case measure => rw [HGK.out]; omega
                  case rel => exact ⟨p, _, _, _, rfl, by omega, by go_num, rfl, rfl, rfl, rfl, Lib.hid ⟨by have hk1 := HK1.out; have hk2 := HK2.out; have hk3 := HK3.out; have hk4 := HK4.out; rw [HHs.out]; split <;> omega, by have hk1 := HK1.out; have hk2 := HK2.out; have hk3 := HK3.out; have hk4 := HK4.out; rw [HIs.out]; split <;> omega, by have hk1 := HK1.out; have hk2 := HK2.out; have hk3 := HK3.out; have hk4 := HK4.out; rw [HWs.out]; (repeat' split) <;> omega⟩⟩
                · have hmx : max x (-1) = x := by omega
                  have hx1 : (x == -1) = false := by simp; omega
                  go_wp2_with fail
                  go_roundg p
                  case measure => rw [HGK.out]; omega
                  case rel => exact ⟨p, _, _, _, rfl, by omega, by go_num, rfl, rfl, rfl, rfl, Lib.hid ⟨by have hk1 := HK1.out; have hk2 := HK2.out; have hk3 := HK3.out; have hk4 := HK4.out; rw [HHs.out]; split <;> omega, by have hk1 := HK1.out; have hk2 := HK2.out; have hk3 := HK3.out; have hk4 := HK4.out; rw [HIs.out]; split <;> omega, by have hk1 := HK1.out; have hk2 := HK2.out; have hk3 := HK3.out; have hk4 := HK4.out; rw [HWs.out]; (repeat' split) <;> omega⟩⟩
              · have hq : ((p : Int) == i) = false := by simp [hpi]
                have HK1 := Lib.hid hpi
                clear hpi
                go_wp2_with fail
                go_roundg p
                case measure => rw [HGK.out]; omega
                case rel => exact ⟨p, _, _, _, rfl, by omega, by go_num, rfl, rfl, rfl, rfl, Lib.hid ⟨by have hk1 := HK1.out; have hk2 := HK2.out; have hk3 := HK3.out; have hk4 := HK4.out; rw [HHs.out]; split <;> omega, by have hk1 := HK1.out; have hk2 := HK2.out; have hk3 := HK3.out; have hk4 := HK4.out; rw [HIs.out]; split <;> omega, by have hk1 := HK1.out; have hk2 := HK2.out; have hk3 := HK3.out; have hk4 := HK4.out; rw [HWs.out]; (repeat' split) <;> omega⟩⟩
          · have hH0 : 0 ≤ i := by omega
            rcases (show x = i ∨ x ≠ i from by omega) with hxi | hxi
            · have hI : (x == i) = true := by simp [hxi]
              have hmx : max x (-1) = x := by omega
              have hx1 : (x == -1) = false := by simp; omega
              have HK3 := Lib.hid hxi
              clear hxi
              by_cases hpi : (p : Int) = i
              · have hq : ((p : Int) == i) = true := by simp [hpi]
                have HK1 := Lib.hid hpi
                clear hpi
                go_wp2_with fail
                go_roundg p
                case measure => rw [HGK.out]; omega
                case rel => exact ⟨p, _, _, _, rfl, by omega, by go_num, rfl, rfl, rfl, rfl, Lib.hid ⟨by have hk1 := HK1.out; have hk2 := HK2.out; have hk3 := HK3.out; have hk4 := HK4.out; rw [HHs.out]; split <;> omega, by have hk1 := HK1.out; have hk2 := HK2.out; have hk3 := HK3.out; have hk4 := HK4.out; rw [HIs.out]; split <;> omega, by have hk1 := HK1.out; have hk2 := HK2.out; have hk3 := HK3.out; have hk4 := HK4.out; rw [HWs.out]; (repeat' split) <;> omega⟩⟩
              · have hq : ((p : Int) == i) = false := by simp [hpi]
                have HK1 := Lib.hid hpi
                clear hpi
                go_wp2_with fail
                go_roundg p
                case measure => rw [HGK.out]; omega
                case rel => exact ⟨p, _, _, _, rfl, by omega, by go_num, rfl, rfl, rfl, rfl, Lib.hid ⟨by have hk1 := HK1.out; have hk2 := HK2.out; have hk3 := HK3.out; have hk4 := HK4.out; rw [HHs.out]; split <;> omega, by have hk1 := HK1.out; have hk2 := HK2.out; have hk3 := HK3.out; have hk4 := HK4.out; rw [HIs.out]; split <;> omega, by have hk1 := HK1.out; have hk2 := HK2.out; have hk3 := HK3.out; have hk4 := HK4.out; rw [HWs.out]; (repeat' split) <;> omega⟩⟩
            · have hI : (x == i) = false := by simp [hxi]
              have HK3 := Lib.hid hxi
              clear hxi
              by_cases hpi : (p : Int) = i
              · have hq : ((p : Int) == i) = true := by simp [hpi]
                have HK1 := Lib.hid hpi
                clear hpi
                rcases (show x < -1 ∨ x = -1 ∨ 0 ≤ x from by omega) with hxx | hxx | hxx
                · have hmx : max x (-1) = -1 := by omega
                  have hx1 : (x == -1) = false := by simp; omega
                  go_wp2_with fail
                  go_roundg p
                  case measure => rw [HGK.out]; omega
                  case rel => exact ⟨p, _, _, _, rfl, by omega, by go_num, rfl, rfl, rfl, rfl, Lib.hid ⟨by have hk1 := HK1.out; have hk2 := HK2.out; have hk3 := HK3.out; have hk4 := HK4.out; rw [HHs.out]; split <;> omega, by have hk1 := HK1.out; have hk2 := HK2.out; have hk3 := HK3.out; have hk4 := HK4.out; rw [HIs.out]; split <;> omega, by have hk1 := HK1.out; have hk2 := HK2.out; have hk3 := HK3.out; have hk4 := HK4.out; rw [HWs.out]; (repeat' split) <;> omega⟩⟩
                · have hmx : max x (-1) = -1 := by omega
                  have hx1 : (x == -1) = true := by simp [hxx]
                  have HK4 := Lib.hid hxx
                  clear hxx
                  go_wp2_with fail
                  go_roundg p
                  case measure => rw [HGK.out]; omega
                  case rel => exact ⟨p, _, _, _, rfl, by omega, by go_num, rfl, rfl, rfl, rfl, Lib.hid ⟨by have hk1 := HK1.out; have hk2 := HK2.out; have hk3 := HK3.out; have hk4 := HK4.out; rw [HHs.out]; split <;> omega, by have hk1 := HK1.out; have hk2 := HK2.out; have hk3 := HK3.out; have hk4 := HK4.out; rw [HIs.out]; split <;> omega, by have hk1 := HK1.out; have hk2 := HK2.out; have hk3 := HK3.out; have hk4 := HK4.out; rw [HWs.out]; (repeat' split) <;> omega⟩⟩
                · have hmx : max x (-1) = x := by omega
                  have hx1 : (x == -1) = false := by simp; omega
                  go_wp2_with fail
                  go_roundg p
                  case measure => rw [HGK.out]; omega
                  case rel => exact ⟨p, _, _, _, rfl, by omega, by go_num, rfl, rfl, rfl, rfl, Lib.hid ⟨by have hk1 := HK1.out; have hk2 := HK2.out; have hk3 := HK3.out; have hk4 := HK4.out; rw [HHs.out]; split <;> omega, by have hk1 := HK1.out; have hk2 := HK2.out; have hk3 := HK3.out; have hk4 := HK4.out; rw [HIs.out]; split <;> omega, by have hk1 := HK1.out; have hk2 := HK2.out; have hk3 := HK3.out; have hk4 := HK4.out; rw [HWs.out]; (repeat' split) <;> omega⟩⟩
              · have hq : ((p : Int) == i) = false := by simp [hpi]
                have HK1 := Lib.hid hpi
                clear hpi
                go_wp2_with fail
                go_roundg p
                case measure => rw [HGK.out]; omega
                case rel => exact ⟨p, _, _, _, rfl, by omega, by go_num, rfl, rfl, rfl, rfl, Lib.hid ⟨by have hk1 := HK1.out; have hk2 := HK2.out; have hk3 := HK3.out; have hk4 := HK4.out; rw [HHs.out]; split <;> omega, by have hk1 := HK1.out; have hk2 := HK2.out; have hk3 := HK3.out; have hk4 := HK4.out; rw [HIs.out]; split <;> omega, by have hk1 := HK1.out; have hk2 := HK2.out; have hk3 := HK3.out; have hk4 := HK4.out; rw [HWs.out]; (repeat' split) <;> omega⟩⟩)
  clear hK
  have HZ := fun hD9 => Lib.hid (LcS.zero hD9 HA3.out)
  have HB4 := Lib.hid (LbS.of HA3.out)
  clear HA3
  generalize World.alloc w3 _ = w4 at *
  generalize w3.heap.size = pb at *
  have k0 := HB4.out.l.wks.cell 0
  have k2 := HB4.out.l.wks.cell 2
  have k3 := HB4.out.l.wks.cell 3
  simp at k0 k2 k3
  by_cases hok : n0 ≤ 4 ∧ n2 ≤ 6 ∧ n3 ≤ 8
  · have HDE : Hid (D = ⟨(n3 : Int), List.replicate n2 (-1), List.replicate n2 false, List.replicate n0 (-1)⟩) := Lib.hid (by rw [← HD.out]; unfold stW; rw [if_pos hok])
    obtain ⟨y1, y2, y3⟩ := hok
    have z1 : (n0 : Int) ≤ 4 := by omega
    have z2 : (n2 : Int) ≤ 6 := by omega
    have z3 : (n3 : Int) ≤ 8 := by omega
    clear HZ
    go_upto_region 4 with (fail)
    clear k0 k2 k3
    refine wp_inv_tail (S := LbS w #[.slice A0 n0 c0, u1, .slice A2 n2 c2, .slice A3 n3 c3, u4, u5, u6, u7] sa ⟨A1, m1, b1, B1, m2, b2, C1, m3, b3⟩ sb ⟨F1, l1, f1, G1, l2, f2, H1, l3, f3⟩ pa pb D ⟨D1, p1, e1, D2, p2, e2, D3, p3, e3⟩) [isV (.pointer (some ⟨w.heap.size, 3, none⟩)), isV (.slice A3 n3 c3), isV (.int .i64 (n3 : Int)), isOne, isV (.pointer (some ⟨w.heap.size, 2, none⟩)), isV (.slice A2 n2 c2), isV (.int .i64 (n2 : Int)), isRp (pb + 1) n2, isV (.pointer (some ⟨w.heap.size, 2, none⟩)), isV (.slice A2 n2 c2), isV (.int .i64 (n2 : Int)), isMk (pb + 1) n2, isOne, isV (.pointer (some ⟨w.heap.size, 0, none⟩)), isV (.slice A0 n0 c0), isV (.int .i64 (n0 : Int)), isRp (pb + 1) n0, isWf (pb + 1) D] rfl (by kernel_rfl) (by kernel_rfl) (by kernel_rfl) (by kernel_rfl) (fun _ _ h9 hb9 => h9.next hb9) HB4.out ?plan4 ?last4
    case plan4 =>
      refine PlanI.cons (OpI.mkV fun a wx hs hf hp => ?_) ?_
      · exact StepI.fld rfl (wants_none rfl) (hf.keep 4 (by kernel_rfl)) (run_fldK3 _ wx) rfl
      refine PlanI.cons (OpI.mkV fun a wx hs hf hp => ?_) ?_
      · exact StepI.load rfl (wants_none rfl) (hp 0 34 (by kernel_rfl) rfl) (run_load_cell hs.l.wks (f := 3) rfl (by kernel_rfl) rfl) rfl
      refine PlanI.cons (OpI.mkV fun a wx hs hf hp => ?_) ?_
      · exact StepI.len rfl Try.underlying67 (wants_none rfl) (hp 1 35 (by kernel_rfl) rfl) rfl
      refine PlanI.cons (OpI.mk isOne_st fun a wx hs hf hp => ?_) ?_
      · exact StepI.new (wants_none rfl) (by unfold execOp; simp only [List.map_toArray, List.map_cons, List.map_nil]; exact run_oneI wx) ((Below.refl _ _).alloc (Nat.le_refl _) _) ⟨_, rfl, Blk.new _ _ _⟩
      refine PlanI.cons (OpI.mkV fun a wx hs hf hp => ?_) ?_
      · exact StepI.fld rfl (wants_none rfl) (hf.keep 4 (by kernel_rfl)) (run_fldK2 _ wx) rfl
      refine PlanI.cons (OpI.mkV fun a wx hs hf hp => ?_) ?_
      · exact StepI.load rfl (wants_none rfl) (hp 4 38 (by kernel_rfl) rfl) (run_load_cell hs.l.wks (f := 2) rfl (by kernel_rfl) rfl) rfl
      refine PlanI.cons (OpI.mkV fun a wx hs hf hp => ?_) ?_
      · exact StepI.len rfl Try.underlying66 (wants_none rfl) (hp 5 39 (by kernel_rfl) rfl) rfl
      refine PlanI.cons (OpI.mk isRp_st fun a wx hs hf hp => ?_) ?_
      · obtain ⟨g9, e9, h9⟩ := (show isOne (a.eval (.tmp 37)) wx from (hp 3 37 (by kernel_rfl) rfl))
        exact StepI.call rfl (wants_none rfl) (args2 e9 (hp 6 40 (by kernel_rfl) rfl)) (by kernel_rfl) (rp_told hs.lt (repeatI_any n2 (by omega) g9 wx h9))
      refine PlanI.cons (OpI.mkV fun a wx hs hf hp => ?_) ?_
      · exact StepI.fld rfl (wants_none rfl) (hf.keep 4 (by kernel_rfl)) (run_fldK2 _ wx) rfl
      refine PlanI.cons (OpI.mkV fun a wx hs hf hp => ?_) ?_
      · exact StepI.load rfl (wants_none rfl) (hp 8 42 (by kernel_rfl) rfl) (run_load_cell hs.l.wks (f := 2) rfl (by kernel_rfl) rfl) rfl
      refine PlanI.cons (OpI.mkV fun a wx hs hf hp => ?_) ?_
      · exact StepI.len rfl Try.underlying66 (wants_none rfl) (hp 9 43 (by kernel_rfl) rfl) rfl
      refine PlanI.cons (OpI.mk isMk_st fun a wx hs hf hp => ?_) ?_
      · obtain ⟨v9, w9, r9, t9, b9⟩ := mk_told (pb + 1) n2 (by omega) wx hs.lt
        have e9 : a.eval (.tmp 44) = .int .i64 (n2 : Int) := (hp 10 44 (by kernel_rfl) rfl)
        exact StepI.new (wants_none rfl) (by unfold execOp; simp only [e9, Sem.run_bind, r9]; rfl) b9 t9
      refine PlanI.cons (OpI.mk isOne_st fun a wx hs hf hp => ?_) ?_
      · exact StepI.new (wants_none rfl) (by unfold execOp; simp only [List.map_toArray, List.map_cons, List.map_nil]; exact run_oneI wx) ((Below.refl _ _).alloc (Nat.le_refl _) _) ⟨_, rfl, Blk.new _ _ _⟩
      refine PlanI.cons (OpI.mkV fun a wx hs hf hp => ?_) ?_
      · exact StepI.fld rfl (wants_none rfl) (hf.keep 4 (by kernel_rfl)) (run_fldK0 _ wx) rfl
      refine PlanI.cons (OpI.mkV fun a wx hs hf hp => ?_) ?_
      · exact StepI.load rfl (wants_none rfl) (hp 13 47 (by kernel_rfl) rfl) (run_load_cell hs.l.wks (f := 0) rfl (by kernel_rfl) rfl) rfl
      refine PlanI.cons (OpI.mkV fun a wx hs hf hp => ?_) ?_
      · exact StepI.len rfl Try.underlying64 (wants_none rfl) (hp 14 48 (by kernel_rfl) rfl) rfl
      refine PlanI.cons (OpI.mk isRp_st fun a wx hs hf hp => ?_) ?_
      · obtain ⟨g9, e9, h9⟩ := (show isOne (a.eval (.tmp 46)) wx from (hp 12 46 (by kernel_rfl) rfl))
        exact StepI.call rfl (wants_none rfl) (args2 e9 (hp 15 49 (by kernel_rfl) rfl)) (by kernel_rfl) (rp_told hs.lt (repeatI_any n0 (by omega) g9 wx h9))
      refine PlanI.cons (OpI.mk isWf_st fun a wx hs hf hp => ?_) ?_
      · obtain ⟨v9, r9, t9⟩ := bld_told (n := n3) (d := D) (show isRp (pb + 1) n2 (a.eval (.tmp 41)) wx from (hp 7 41 (by kernel_rfl) rfl)) (show isMk (pb + 1) n2 (a.eval (.tmp 45)) wx from (hp 11 45 (by kernel_rfl) rfl)) (show isRp (pb + 1) n0 (a.eval (.tmp 50)) wx from (hp 16 50 (by kernel_rfl) rfl)) HDE.out
        have e9 : a.eval (.tmp 36) = .int .i64 (n3 : Int) := (hp 2 36 (by kernel_rfl) rfl)
        exact StepI.new (wants_none rfl) (by unfold execOp; simp only [List.map_toArray, List.map_cons, List.map_nil, e9]; exact r9) (Below.refl _ _) t9
      exact PlanI.nil
    case last4 =>
      intro a wx hs hf hv
      obtain ⟨v37, h37⟩ : ∃ v, a.tmps.getD 37 undef = v := ⟨_, rfl⟩
      obtain ⟨v41, h41⟩ : ∃ v, a.tmps.getD 41 undef = v := ⟨_, rfl⟩
      obtain ⟨v45, h45⟩ : ∃ v, a.tmps.getD 45 undef = v := ⟨_, rfl⟩
      obtain ⟨v46, h46⟩ : ∃ v, a.tmps.getD 46 undef = v := ⟨_, rfl⟩
      obtain ⟨v50, h50⟩ : ∃ v, a.tmps.getD 50 undef = v := ⟨_, rfl⟩
      obtain ⟨v51, h51⟩ : ∃ v, a.tmps.getD 51 undef = v := ⟨_, rfl⟩
      have t51 := (show isWf (pb + 1) D (a.tmps.getD 51 undef) wx from hv 17 51 (by decide) rfl)
      rw [h51] at t51
      obtain ⟨q1, e51, hq1, hq2⟩ := t51
      subst e51
      have hput := hf.puts ((34, .pointer (some ⟨w.heap.size, 3, none⟩)) :: (35, .slice A3 n3 c3) :: (36, .int .i64 (n3 : Int)) :: (37, v37) :: (38, .pointer (some ⟨w.heap.size, 2, none⟩)) :: (39, .slice A2 n2 c2) :: (40, .int .i64 (n2 : Int)) :: (41, v41) :: (42, .pointer (some ⟨w.heap.size, 2, none⟩)) :: (43, .slice A2 n2 c2) :: (44, .int .i64 (n2 : Int)) :: (45, v45) :: (46, v46) :: (47, .pointer (some ⟨w.heap.size, 0, none⟩)) :: (48, .slice A0 n0 c0) :: (49, .int .i64 (n0 : Int)) :: (50, v50) :: (51, wv D.sl q1) :: []) (by kernel_rfl) (List.forall_mem_cons.2 ⟨hv 0 34 (by decide) rfl, (List.forall_mem_cons.2 ⟨hv 1 35 (by decide) rfl, (List.forall_mem_cons.2 ⟨hv 2 36 (by decide) rfl, (List.forall_mem_cons.2 ⟨h37, (List.forall_mem_cons.2 ⟨hv 4 38 (by decide) rfl, (List.forall_mem_cons.2 ⟨hv 5 39 (by decide) rfl, (List.forall_mem_cons.2 ⟨hv 6 40 (by decide) rfl, (List.forall_mem_cons.2 ⟨h41, (List.forall_mem_cons.2 ⟨hv 8 42 (by decide) rfl, (List.forall_mem_cons.2 ⟨hv 9 43 (by decide) rfl, (List.forall_mem_cons.2 ⟨hv 10 44 (by decide) rfl, (List.forall_mem_cons.2 ⟨h45, (List.forall_mem_cons.2 ⟨h46, (List.forall_mem_cons.2 ⟨hv 13 47 (by decide) rfl, (List.forall_mem_cons.2 ⟨hv 14 48 (by decide) rfl, (List.forall_mem_cons.2 ⟨hv 15 49 (by decide) rfl, (List.forall_mem_cons.2 ⟨h50, (List.forall_mem_cons.2 ⟨h51, (by intro p hp; cases hp)⟩)⟩)⟩)⟩)⟩)⟩)⟩)⟩)⟩)⟩)⟩)⟩)⟩)⟩)⟩)⟩)⟩)⟩)
      clear hf hv
      clear h37
      clear h41
      clear h45
      clear h46
      clear h50
      clear h51
      subst hput
      simp only [puts, Act.put, List.setIfInBounds_toArray, List.set_cons_zero, List.set_cons_succ]
      refine ⟨wants_none rfl, ?_⟩
      obtain ⟨x0, y0, z0, u0, hr0⟩ := hs.res
      unfold wv wcs
      refine wp_store_tail rfl rfl rfl (run_storeW _ _ _ _ _ _ _ _ _ _ hr0) ?_
      have HC9 := Lib.hid (hs.put hq1 hq2)
      go_wp2_with fail
      apply KEY.out
      exact HC9.out
  · have HZ2 := HZ (by rw [← HD.out]; unfold stW; rw [if_neg hok])
    have hc : (4 < (n0 : Int)) ∨ ((n0 : Int) ≤ 4 ∧ 6 < (n2 : Int)) ∨ ((n0 : Int) ≤ 4 ∧ (n2 : Int) ≤ 6 ∧ 8 < (n3 : Int)) := by omega
    clear hok HZ
    rcases hc with h1 | ⟨h1, h2⟩ | ⟨h1, h2, h3⟩
    all_goals
      go_wp2_with fail
      apply KEY.out
      exact HZ2.out
end Go.Proofs.Ytnaiflokmihmeaa
