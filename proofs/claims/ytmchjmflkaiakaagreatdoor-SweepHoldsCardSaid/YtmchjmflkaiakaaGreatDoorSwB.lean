/- sweep.Turned (printed by swb.py). -/
import Derived.Test.YtmchjmflkaiakaaGreatDoorSwA
import Derived.Test.YtmchjmflkaiakaaGreatDoorSp7
import Derived.Test.YtmchjmflkaiakaaGreatDoorPo4
import Derived.Deep.LoopGhost
import Derived.OwnWalk

namespace Go.Proofs.YtmchjmflkaiakaaGreatDoor
open Go.RowKit
set_option linter.unusedVariables false
set_option linter.unusedSimpArgs false

def mLo (a b c d : Rat) : Rat := minQ (minQ (minQ (a * c) (a * d)) (b * c)) (b * d)
def mHi (a b c d : Rat) : Rat := maxQ (maxQ (maxQ (a * c) (a * d)) (b * c)) (b * d)
theorem mLo_rz {k j : Nat} {a b c d : Rat} (ha : Rz k a) (hb : Rz k b) (hc : Rz j c) (hd : Rz j d) : Rz (k + j) (mLo a b c d) := (((ha.mul hc).min (ha.mul hd)).min (hb.mul hc)).min (hb.mul hd)
theorem mHi_rz {k j : Nat} {a b c d : Rat} (ha : Rz k a) (hb : Rz k b) (hc : Rz j c) (hd : Rz j d) : Rz (k + j) (mHi a b c d) := (((ha.mul hc).max (ha.mul hd)).max (hb.mul hc)).max (hb.mul hd)
theorem mLo_le (a c d : Rat) : mLo a a c d ≤ mHi a a c d := by
 have h1 := min_le_r (minQ (minQ (a * c) (a * d)) (a * c)) (a * d)
 have h2 := le_max_r (maxQ (maxQ (a * c) (a * d)) (a * c)) (a * d)
 unfold mLo mHi
 grind
def tuL (c0 c1 s0 s1 p q : Rat) : Rat := mLo p p c0 c1 - mHi q q s0 s1
def tuH (c0 c1 s0 s1 p q : Rat) : Rat := mHi p p c0 c1 - mLo q q s0 s1
def tvL (c0 c1 s0 s1 p q : Rat) : Rat := mLo p p s0 s1 + mLo q q c0 c1
def tvH (c0 c1 s0 s1 p q : Rat) : Rat := mHi p p s0 s1 + mHi q q c0 c1
theorem mnF_join (f : Nat → Rat) (i : Nat) : minQ (mnF f i) (f (i + 1)) = mnF f (i + 1) := rfl
theorem mxF_join (f : Nat → Rat) (i : Nat) : maxQ (mxF f i) (f (i + 1)) = mxF f (i + 1) := rfl
theorem minQ_self (x : Rat) : minQ x x = x := by unfold minQ; split <;> rfl
theorem maxQ_self (x : Rat) : maxQ x x = x := by unfold maxQ; split <;> rfl
theorem mn_le_mx {f g : Nat → Rat} (h : ∀ i, f i ≤ g i) : ∀ i, mnF f i ≤ mxF g i
 | 0 => h 0
 | i + 1 => by
   have h1 := mn_le_mx h i
   have h2 := h (i + 1)
   show minQ (mnF f i) (f (i + 1)) ≤ maxQ (mxF g i) (g (i + 1))
   have h3 := min_le_r (mnF f i) (f (i + 1))
   have h4 := le_max_r (mxF g i) (g (i + 1))
   grind
set_option maxHeartbeats 4000000 in
set_option maxRecDepth 20000 in
theorem turned_R {k n : Nat} {ps : Pts} {al ah c0 c1 s0 s1 : Rat} {W : World} {l : List Own} (hT : Tab W) (hz : Pz k ps) (hl : ps.length = n) (hcv : 3 ≤ n ∧ n ≤ 5 ∧ Cvx ps) (Zal : Rz k al) (Zah : Rz k ah) (hle : al ≤ ah) (hc : fC (maxQ (al * al) (ah * ah)) = c0 ∧ fC (sqLo al ah) = c1 ∧ c0 ≤ c1) (hs : sLo al ah = s0 ∧ sHi al ah = s1 ∧ s0 ≤ s1) (hcz : Rz (40 * k + 40) c0 ∧ Rz (40 * k + 40) c1) (hsz : Rz (40 * k + 40) s0 ∧ Rz (40 * k + 40) s1) (hk0 : 2 ≤ k) (hk : k ≤ 100000) (g : Nat) (w : World) (h : St W l w) (hg : Blk w g 29 (PC ps)) :
  Calls Tryz.prog 15 #[.slice (some ⟨g, 0, none⟩) n n, .agg (VC al ah)] w fun e w' => e = .returned (.tuple #[.agg (BC (mnF (fun j => tuL c0 c1 s0 s1 (px ps j) (py ps j)) (n - 1)) (mnF (fun j => tvL c0 c1 s0 s1 (px ps j) (py ps j)) (n - 1)) (mxF (fun j => tuH c0 c1 s0 s1 (px ps j) (py ps j)) (n - 1)) (mxF (fun j => tvH c0 c1 s0 s1 (px ps j) (py ps j)) (n - 1))), .int .i64 0]) ∧ Below w.heap.size w w' := by
 obtain ⟨m, hm⟩ : ∃ m, 40 * k + 40 = m := ⟨_, rfl⟩
 rw [hm] at hcz hsz
 have hmk : k ≤ m := by omega
 have hm2 : m ≤ 5000000 := by omega
 have hn3 := hcv.1
 have hn5 := hcv.2.1
 have HK := Lib.hid (And.intro hk0 hk); clear hk0 hk hm
 have HMK := Lib.hid (And.intro hmk hm2); clear hmk hm2
 have HZ : Hid (Pz m ps) := Lib.hid (fun p hp => ⟨(hz p hp).1.more HMK.out.1, (hz p hp).2.more HMK.out.1⟩)
 have HZK := Lib.hid hz; clear hz
 have HL := Lib.hid hl
 have HCV := Lib.hid hcv; clear hcv
 have HZAL := Lib.hid Zal; clear Zal
 have HZAH := Lib.hid Zah; clear Zah
 have HLE := Lib.hid hle; clear hle
 have HC := Lib.hid hc; clear hc
 have HS := Lib.hid hs; clear hs
 have HC0 := Lib.hid hcz.1
 have HC1 := Lib.hid hcz.2
 have HS0' := Lib.hid hsz.1
 have HS1' := Lib.hid hsz.2
 have HG := Lib.hid hg
 have HGX : Hid (Blk w g 29 (PX [] ps)) := Lib.hid (by rw [PX_nil]; exact hg)
 clear hcz hsz hg hl
 have HT := Lib.hid (tabS hT h); clear hT h
 have HST : Hid (St w [] w) := Lib.hid St.start
 have HUZ : Hid (∀ i, i < n → Rz (8 * m + 1) (tuL c0 c1 s0 s1 (px ps i) (py ps i)) ∧ Rz (8 * m + 1) (tuH c0 c1 s0 s1 (px ps i) (py ps i)) ∧ Rz (8 * m + 1) (tvL c0 c1 s0 s1 (px ps i) (py ps i)) ∧ Rz (8 * m + 1) (tvH c0 c1 s0 s1 (px ps i) (py ps i))) := Lib.hid (fun i hi => by
  have hx := HZ.out.x (show i < ps.length by rw [HL.out]; exact hi)
  have hy := HZ.out.y (show i < ps.length by rw [HL.out]; exact hi)
  have q1 := mLo_rz hx hx HC0.out HC1.out
  have q2 := mHi_rz hx hx HC0.out HC1.out
  have q3 := mLo_rz hx hx HS0'.out HS1'.out
  have q4 := mHi_rz hx hx HS0'.out HS1'.out
  have r1 := mLo_rz hy hy HC0.out HC1.out
  have r2 := mHi_rz hy hy HC0.out HC1.out
  have r3 := mLo_rz hy hy HS0'.out HS1'.out
  have r4 := mHi_rz hy hy HS0'.out HS1'.out
  exact ⟨(q1.sub r4).more (by omega), (q2.sub r3).more (by omega), (q3.add r1).more (by omega), (q4.add r2).more (by omega)⟩)
 have HUL : Hid (∀ i, (tuL c0 c1 s0 s1 (px ps i) (py ps i)) ≤ (tuH c0 c1 s0 s1 (px ps i) (py ps i))) := Lib.hid (fun i => by
  have a1 := mLo_le (px ps i) c0 c1
  have a2 := mLo_le (py ps i) s0 s1
  unfold tuL tuH; grind)
 have HVL : Hid (∀ i, (tvL c0 c1 s0 s1 (px ps i) (py ps i)) ≤ (tvH c0 c1 s0 s1 (px ps i) (py ps i))) := Lib.hid (fun i => by
  have a1 := mLo_le (px ps i) s0 s1
  have a2 := mLo_le (py ps i) c0 c1
  unfold tvL tvH; grind)
 go_enter Tryz.func15, Tryz.ntmps15
 go_upto_region 0 with (fail)
 refine wp_seq_text [] (StR.no HST.out) ?_
 refine bX (VC al ah) ?_
 intro b3 _ _ hb3
 refine nZ ?_
 refine Seq.alloc rfl rfl rfl (z := .agg #[.bool false, .string ⟨#[]⟩, .string ⟨#[]⟩, .bool false, .string ⟨#[]⟩, .string ⟨#[]⟩, .bool false, .string ⟨#[]⟩, .string ⟨#[]⟩, .bool false, .string ⟨#[]⟩, .string ⟨#[]⟩]) (by kernel_rfl) rfl ?_
 intro b4 _ _ hb4
 obtain ⟨_, _, hb4⟩ := Reg.ne2 hb4
 refine nZ ?_
 refine pU ?_
 refine Seq.done fun w0 hws => ?_
 have HA1 := hws.q2 (p := b4) (q := b3)
 clear hws HST
 go_upto_region 1 with (fail)
 refine rgT [] HA1 ?_
 refine pU ?_
 refine cX rfl rfl (fun w' h' => convex_q (k := k) HT.out HZK.out HL.out ⟨HCV.out.1, by omega, HCV.out.2.2⟩ (by have := HK.out; omega) g w' h' (h'.came HG.out)) ?_
 refine pU ?_
 refine Seq.done fun w1 hws => ?_
 have HA2 : St w [(b4, 38, #[.bool false, .string ⟨#[]⟩, .string ⟨#[]⟩, .bool false, .string ⟨#[]⟩, .string ⟨#[]⟩, .bool false, .string ⟨#[]⟩, .string ⟨#[]⟩, .bool false, .string ⟨#[]⟩, .string ⟨#[]⟩]), (b3, 32, VC al ah)] w1 := hws.st
 clear hws HA1
 go_upto_region 4 with (fail)
 refine rgW [] HA2 ?_
 refine lV ?_
 refine cX rfl rfl (scos_q (k := k) HT.out HZAL.out HZAH.out HLE.out HC.out.1 HC.out.2.1 (by have := HK.out; omega)) ?_
 refine lV ?_
 refine cX rfl rfl (ssin_q (k := k) HT.out HZAL.out HZAH.out HLE.out HS.out.1 HS.out.2.1 (by have := HK.out; omega)) ?_
 refine aL6 ?_
 intro b7 _ _ hb7
 refine nZ ?_
 refine aL6 ?_
 intro b8 _ _ hb8
 obtain ⟨_, _, hb8⟩ := Reg.ne2 hb8
 refine nZ ?_
 refine sV (VC_one _ _) ?_
 refine sV (VC_one _ _) ?_
 refine Seq.done fun w2 hws => ?_
 have HA3 := hws.q2 (p := b7) (q := b8)
 clear hws HA2
 go_upto_region 5 with (fail)
 refine rgT [] HA3 ?_
 refine aL6 ?_
 intro b9 _ _ hb9
 refine nZ ?_
 refine aL6 ?_
 intro b10 _ _ hb10
 obtain ⟨ne_b10_b9, ne_b9_b10, hb10⟩ := Reg.ne2 hb10
 refine nZ ?_
 refine Seq.done fun w3 hws => ?_
 have HA4 := hws.q2 (p := b9) (q := b10)
 have HNE := Lib.hid (And.intro ne_b9_b10 ne_b10_b9)
 have HA5 := Lib.hid HA4
 clear hws HA3 HA4
 go_wp2_with fail
 go_loopg [29] n (fun kx s29 wr => ∃ (i : Nat) (x9 x10 : Array Value), kx = n - i ∧ s29 = .int .i64 (i : Int) ∧ i ≤ n ∧ Hid ((i = 0 ∧ x9 = #[.bool false, .string ⟨#[]⟩, .string ⟨#[]⟩, .bool false, .string ⟨#[]⟩, .string ⟨#[]⟩] ∧ x10 = #[.bool false, .string ⟨#[]⟩, .string ⟨#[]⟩, .bool false, .string ⟨#[]⟩, .string ⟨#[]⟩]) ∨ (0 < i ∧ x9 = VC (mnF (fun j => tuL c0 c1 s0 s1 (px ps j) (py ps j)) (i - 1)) (mxF (fun j => tuH c0 c1 s0 s1 (px ps j) (py ps j)) (i - 1)) ∧ x10 = VC (mnF (fun j => tvL c0 c1 s0 s1 (px ps j) (py ps j)) (i - 1)) (mxF (fun j => tvH c0 c1 s0 s1 (px ps j) (py ps j)) (i - 1)))) ∧ Hid (St w [(b9, 32, x9), (b10, 32, x10), (b7, 32, VC c0 c1), (b8, 32, VC s0 s1), (b4, 38, #[.bool false, .string ⟨#[]⟩, .string ⟨#[]⟩, .bool false, .string ⟨#[]⟩, .string ⟨#[]⟩, .bool false, .string ⟨#[]⟩, .string ⟨#[]⟩, .bool false, .string ⟨#[]⟩, .string ⟨#[]⟩]), (b3, 32, VC al ah)] wr))
 case atStart => exact ⟨0, _, _, rfl, rfl, Nat.zero_le _, Lib.hid (.inl ⟨rfl, rfl, rfl⟩), HA5⟩
 case round =>
  clear HA5
  obtain ⟨i, x9, x10, hgk2, rfl, hile, HX, HA6⟩ := hrel
  have HGK2 := Lib.hid hgk2; clear hgk2
  by_cases hin : i < n
  ·have HI := Lib.hid (show i < ps.length by rw [HL.out]; exact hin)
   have HIN := Lib.hid hin
   have HPX := Lib.hid (HZ.out.x HI.out)
   have HPY := Lib.hid (HZ.out.y HI.out)
   have hwi : IntKind.i64.wrap ((i : Int) + 1) = (i : Int) + 1 := IntWalk.i64_in _ (by omega)
   go_upto_region 8 with (fail)
   refine wp_seq_text [] (StR.no HA6.out) ?_
   refine pU ?_
   refine Seq.index (m := 6) i rfl rfl rfl rfl rfl (by kernel_rfl) rfl hin (nZ ?_)
   refine Seq.loadAtF rfl rfl rfl rfl HGX.out (n := 6) (cs' := VC (px ps i) (py ps i)) (PX_room HI.out) (by kernel_rfl) (PX_at HI.out) (nZ ?_)
   refine aL6 ?_
   intro b12 _ _ hb12
   refine nZ ?_
   refine pU ?_
   refine sV (VC_one _ _) ?_
   refine Seq.done fun w4 hws => ?_
   have HA7 := hws.q1 (p := b12)
   clear hws HA6
   go_upto_region 9 with (fail)
   refine rgW [] HA7 ?_
   refine pU ?_
   refine lA (RC (px ps i)) ?_
   refine cX rfl rfl (sof_q (k := m) HT.out HPX.out rfl rfl (by have := HK.out; have := HMK.out; omega)) ?_
   refine pU ?_
   refine lA (RC (py ps i)) ?_
   refine cX rfl rfl (sof_q (k := m) HT.out HPY.out rfl rfl (by have := HK.out; have := HMK.out; omega)) ?_
   refine aL6 ?_
   intro b13 _ _ hb13
   refine nZ ?_
   refine aL6 ?_
   intro b14 _ _ hb14
   obtain ⟨_, _, hb14⟩ := Reg.ne2 hb14
   refine nZ ?_
   refine sV (VC_one _ _) ?_
   refine sV (VC_one _ _) ?_
   refine Seq.done fun w5 hws => ?_
   have HA8 := hws.q2 (p := b13) (q := b14)
   clear hws HA7
   go_upto_region 10 with (fail)
   refine rgW [] HA8 ?_
   refine lV ?_
   refine lV ?_
   refine cX rfl rfl (smul_q (k := m) HT.out HPX.out HPX.out HC0.out HC1.out (Rat.le_refl) HC.out.2.2 rfl rfl (by have := HK.out; have := HMK.out; omega)) ?_
   refine lV ?_
   refine lV ?_
   refine cX rfl rfl (smul_q (k := m) HT.out HPY.out HPY.out HS0'.out HS1'.out (Rat.le_refl) HS.out.2.2 rfl rfl (by have := HK.out; have := HMK.out; omega)) ?_
   refine cX rfl rfl (ssub_q (k := 2 * m) HT.out ((mLo_rz HPX.out HPX.out HC0.out HC1.out).more (by omega)) ((mHi_rz HPX.out HPX.out HC0.out HC1.out).more (by omega)) ((mLo_rz HPY.out HPY.out HS0'.out HS1'.out).more (by omega)) ((mHi_rz HPY.out HPY.out HS0'.out HS1'.out).more (by omega)) (mLo_le _ _ _) (mLo_le _ _ _) (z0 := (tuL c0 c1 s0 s1 (px ps i) (py ps i))) (z1 := (tuH c0 c1 s0 s1 (px ps i) (py ps i))) rfl rfl (by have := HK.out; have := HMK.out; omega)) ?_
   refine aL6 ?_
   intro b15 _ _ hb15
   refine nZ ?_
   refine sV (VC_one _ _) ?_
   refine Seq.done fun w6 hws => ?_
   have HA9 := hws.q1 (p := b15)
   clear hws HA8
   go_upto_region 11 with (fail)
   refine rgW [] HA9 ?_
   refine lV ?_
   refine lV ?_
   refine cX rfl rfl (smul_q (k := m) HT.out HPX.out HPX.out HS0'.out HS1'.out (Rat.le_refl) HS.out.2.2 rfl rfl (by have := HK.out; have := HMK.out; omega)) ?_
   refine lV ?_
   refine lV ?_
   refine cX rfl rfl (smul_q (k := m) HT.out HPY.out HPY.out HC0.out HC1.out (Rat.le_refl) HC.out.2.2 rfl rfl (by have := HK.out; have := HMK.out; omega)) ?_
   refine cX rfl rfl (sadd_q (k := 2 * m) HT.out ((mLo_rz HPX.out HPX.out HS0'.out HS1'.out).more (by omega)) ((mHi_rz HPX.out HPX.out HS0'.out HS1'.out).more (by omega)) ((mLo_rz HPY.out HPY.out HC0.out HC1.out).more (by omega)) ((mHi_rz HPY.out HPY.out HC0.out HC1.out).more (by omega)) (mLo_le _ _ _) (mLo_le _ _ _) (z0 := (tvL c0 c1 s0 s1 (px ps i) (py ps i))) (z1 := (tvH c0 c1 s0 s1 (px ps i) (py ps i))) rfl rfl (by have := HK.out; have := HMK.out; omega)) ?_
   refine aL6 ?_
   intro b16 _ _ hb16
   refine nZ ?_
   refine sV (VC_one _ _) ?_
   refine Seq.done fun w7 hws => ?_
   have HA10 : Hid (St w [(b9, 32, x9), (b10, 32, x10), (b16, 32, VC (tvL c0 c1 s0 s1 (px ps i) (py ps i)) (tvH c0 c1 s0 s1 (px ps i) (py ps i))), (b15, 32, VC (tuL c0 c1 s0 s1 (px ps i) (py ps i)) (tuH c0 c1 s0 s1 (px ps i) (py ps i))), (b7, 32, VC c0 c1), (b8, 32, VC s0 s1), (b4, 38, #[.bool false, .string ⟨#[]⟩, .string ⟨#[]⟩, .bool false, .string ⟨#[]⟩, .string ⟨#[]⟩, .bool false, .string ⟨#[]⟩, .string ⟨#[]⟩, .bool false, .string ⟨#[]⟩, .string ⟨#[]⟩]), (b3, 32, VC al ah)] w7) := Lib.hid (by
    have h9 := hws.q1 (p := b16)
    have h8 : St w ([(b16, 32, VC (tvL c0 c1 s0 s1 (px ps i) (py ps i)) (tvH c0 c1 s0 s1 (px ps i) (py ps i))), (b15, 32, VC (tuL c0 c1 s0 s1 (px ps i) (py ps i)) (tuH c0 c1 s0 s1 (px ps i) (py ps i)))] ++ ([(b9, 32, x9), (b10, 32, x10)] ++ [(b7, 32, VC c0 c1), (b8, 32, VC s0 s1), (b4, 38, #[.bool false, .string ⟨#[]⟩, .string ⟨#[]⟩, .bool false, .string ⟨#[]⟩, .string ⟨#[]⟩, .bool false, .string ⟨#[]⟩, .string ⟨#[]⟩, .bool false, .string ⟨#[]⟩, .string ⟨#[]⟩]), (b3, 32, VC al ah)])) w7 := St.sub h9 (List.Sublist.cons_cons _ (List.Sublist.cons_cons _ (List.Sublist.cons _ (List.Sublist.cons _ (List.Sublist.cons _ (List.Sublist.refl _))))))
    exact St.perm h8 (List.perm_append_comm_assoc _ _ _))
   clear hws HA9
   have hne9 : b9 ≠ b10 := HNE.out.1
   have hne10 : b10 ≠ b9 := HNE.out.2
   rcases HX.out with ⟨hi0, e9, e10⟩ | ⟨hi0, e9, e10⟩
   ·subst hi0
    subst e9
    subst e10
    clear HX
    go_upto_region 12 with (fail)
    refine wp_seq_text [] (StR.no HA10.out) ?_
    iterate 2 refine pU ?_
    refine Seq.done fun w8 hws => ?_
    have HA11 := Lib.hid (StR.move2 hws.st)
    clear hws HA10
    go_upto_region 13 with (fail)
    refine wS [] (Reg.fin.put (Reg.fin.put Reg.fin_no _ _) _ _) HA11.out ?_
    refine lV ?_
    refine lV ?_
    refine sV (VC_one _ _) ?_
    refine sV (VC_one _ _) ?_
    refine Seq.done fun w9 hws => ?_
    have HA12 := hws.q2 (p := b9) (q := b10)
    have HA13 := Lib.hid (StR.move2 HA12)
    clear hws HA11 HA12
    go_upto_region 14 with (fail)
    refine wS [0, 6] (Reg.fin.put (Reg.fin.put Reg.fin_no _ _) _ _) HA13.out ?_
    refine gV ?_
    refine lV ?_
    refine cX rfl rfl (sjoin_q (k := 8 * m + 1) HT.out (HUZ.out 0 HIN.out).1 (HUZ.out 0 HIN.out).2.1 (HUZ.out 0 HIN.out).1 (HUZ.out 0 HIN.out).2.1 (HUL.out 0) (HUL.out 0) (minQ_self _) (maxQ_self _) (by have := HK.out; have := HMK.out; omega)) ?_
    refine gV ?_
    refine lV ?_
    refine cX rfl rfl (sjoin_q (k := 8 * m + 1) HT.out (HUZ.out 0 HIN.out).2.2.1 (HUZ.out 0 HIN.out).2.2.2 (HUZ.out 0 HIN.out).2.2.1 (HUZ.out 0 HIN.out).2.2.2 (HVL.out 0) (HVL.out 0) (minQ_self _) (maxQ_self _) (by have := HK.out; have := HMK.out; omega)) ?_
    refine sV (VC_one _ _) ?_
    refine sV (VC_one _ _) ?_
    refine Seq.done fun w10 hws => ?_
    have HA14 : Hid (St w [(b9, 32, VC (mnF (fun j => tuL c0 c1 s0 s1 (px ps j) (py ps j)) 0) (mxF (fun j => tuH c0 c1 s0 s1 (px ps j) (py ps j)) 0)), (b10, 32, VC (mnF (fun j => tvL c0 c1 s0 s1 (px ps j) (py ps j)) 0) (mxF (fun j => tvH c0 c1 s0 s1 (px ps j) (py ps j)) 0)), (b7, 32, VC c0 c1), (b8, 32, VC s0 s1), (b4, 38, #[.bool false, .string ⟨#[]⟩, .string ⟨#[]⟩, .bool false, .string ⟨#[]⟩, .string ⟨#[]⟩, .bool false, .string ⟨#[]⟩, .string ⟨#[]⟩, .bool false, .string ⟨#[]⟩, .string ⟨#[]⟩]), (b3, 32, VC al ah)] w10) := Lib.hid (by
     have h9 := hws.q2 (p := b9) (q := b10)
     exact St.sub h9 (List.Sublist.cons_cons _ (List.Sublist.cons_cons _ (List.Sublist.cons _ (List.Sublist.cons _ (List.Sublist.refl _))))))
    clear hws HA13 hne9 hne10
    go_wp2_with fail
    go_roundg (n - (0 + 1))
    case measure => rw [HGK2.out]; omega
    case rel => exact ⟨0 + 1, _, _, rfl, by go_num, by omega, Lib.hid (.inr ⟨by omega, rfl, rfl⟩), HA14⟩
   ·obtain ⟨i, rfl⟩ : ∃ j, i = j + 1 := ⟨i - 1, by omega⟩
    rw [Nat.add_sub_cancel] at e9 e10
    subst e9
    subst e10
    clear HX
    have hi1 : ¬ (i : Int) + 1 = 0 := by omega
    have hi1b : (((i : Int) + 1) == 0) = false := by rw [beq_eq_false_iff_ne]; exact hi1
    have hi2b : (((i + 1 : Nat) : Int) == 0) = false := by rw [beq_eq_false_iff_ne]; omega
    have HMZ : Hid (Rz (8 * m + 1) (mnF (fun j => tuL c0 c1 s0 s1 (px ps j) (py ps j)) i) ∧ Rz (8 * m + 1) (mxF (fun j => tuH c0 c1 s0 s1 (px ps j) (py ps j)) i) ∧ Rz (8 * m + 1) (mnF (fun j => tvL c0 c1 s0 s1 (px ps j) (py ps j)) i) ∧ Rz (8 * m + 1) (mxF (fun j => tvH c0 c1 s0 s1 (px ps j) (py ps j)) i)) := Lib.hid (by
     have hi := HIN.out
     exact ⟨mnF_rz (n := n) (fun j hj => (HUZ.out j hj).1) i (by omega), mxF_rz (n := n) (fun j hj => (HUZ.out j hj).2.1) i (by omega), mnF_rz (n := n) (fun j hj => (HUZ.out j hj).2.2.1) i (by omega), mxF_rz (n := n) (fun j hj => (HUZ.out j hj).2.2.2) i (by omega)⟩)
    have HMU : Hid (mnF (fun j => tuL c0 c1 s0 s1 (px ps j) (py ps j)) i ≤ mxF (fun j => tuH c0 c1 s0 s1 (px ps j) (py ps j)) i) := Lib.hid (mn_le_mx HUL.out i)
    have HMV : Hid (mnF (fun j => tvL c0 c1 s0 s1 (px ps j) (py ps j)) i ≤ mxF (fun j => tvH c0 c1 s0 s1 (px ps j) (py ps j)) i) := Lib.hid (mn_le_mx HVL.out i)
    have HUI := Lib.hid (HUZ.out (i + 1) HIN.out)
    go_upto_region 12 with (fail)
    refine wp_seq_text [] (StR.no HA10.out) ?_
    refine pU ?_
    refine pV (.bool false) (by intro w; go_simp <;> (first | (rw [hi2b]; done) | exact hi2b | omega | exact IntWalk.i64_in _ (by omega) | (go_num; done) | (simp [hi2b]; done))) ?_
    refine Seq.done fun w8 hws => ?_
    have HA11 := Lib.hid (StR.move2 hws.st)
    clear hws HA10
    go_upto_region 14 with (fail)
    refine wS [0, 6] (Reg.fin.put (Reg.fin.put Reg.fin_no _ _) _ _) HA11.out ?_
    refine gV ?_
    refine lV ?_
    refine cX rfl rfl (sjoin_q (k := 8 * m + 1) HT.out HMZ.out.1 HMZ.out.2.1 HUI.out.1 HUI.out.2.1 HMU.out (HUL.out (i + 1)) (mnF_join (fun j => tuL c0 c1 s0 s1 (px ps j) (py ps j)) i) (mxF_join (fun j => tuH c0 c1 s0 s1 (px ps j) (py ps j)) i) (by have := HK.out; have := HMK.out; omega)) ?_
    refine gV ?_
    refine lV ?_
    refine cX rfl rfl (sjoin_q (k := 8 * m + 1) HT.out HMZ.out.2.2.1 HMZ.out.2.2.2 HUI.out.2.2.1 HUI.out.2.2.2 HMV.out (HVL.out (i + 1)) (mnF_join (fun j => tvL c0 c1 s0 s1 (px ps j) (py ps j)) i) (mxF_join (fun j => tvH c0 c1 s0 s1 (px ps j) (py ps j)) i) (by have := HK.out; have := HMK.out; omega)) ?_
    refine sV (VC_one _ _) ?_
    refine sV (VC_one _ _) ?_
    refine Seq.done fun w10 hws => ?_
    have HA14 : Hid (St w [(b9, 32, VC (mnF (fun j => tuL c0 c1 s0 s1 (px ps j) (py ps j)) (i + 1)) (mxF (fun j => tuH c0 c1 s0 s1 (px ps j) (py ps j)) (i + 1))), (b10, 32, VC (mnF (fun j => tvL c0 c1 s0 s1 (px ps j) (py ps j)) (i + 1)) (mxF (fun j => tvH c0 c1 s0 s1 (px ps j) (py ps j)) (i + 1))), (b7, 32, VC c0 c1), (b8, 32, VC s0 s1), (b4, 38, #[.bool false, .string ⟨#[]⟩, .string ⟨#[]⟩, .bool false, .string ⟨#[]⟩, .string ⟨#[]⟩, .bool false, .string ⟨#[]⟩, .string ⟨#[]⟩, .bool false, .string ⟨#[]⟩, .string ⟨#[]⟩]), (b3, 32, VC al ah)] w10) := Lib.hid (by
     have h9 := hws.q2 (p := b9) (q := b10)
     exact St.sub h9 (List.Sublist.cons_cons _ (List.Sublist.cons_cons _ (List.Sublist.cons _ (List.Sublist.cons _ (List.Sublist.refl _))))))
    clear hws HA11 hne9 hne10 hi1 hi1b hi2b
    go_wp2_with fail
    go_roundg (n - (i + 1 + 1))
    case measure => rw [HGK2.out]; omega
    case rel => exact ⟨i + 1 + 1, _, _, rfl, by go_num, by omega, Lib.hid (.inr ⟨by omega, rfl, rfl⟩), HA14⟩
  ·have HA7 : Hid (St w [(b9, 32, VC (mnF (fun j => tuL c0 c1 s0 s1 (px ps j) (py ps j)) (n - 1)) (mxF (fun j => tuH c0 c1 s0 s1 (px ps j) (py ps j)) (n - 1))), (b10, 32, VC (mnF (fun j => tvL c0 c1 s0 s1 (px ps j) (py ps j)) (n - 1)) (mxF (fun j => tvH c0 c1 s0 s1 (px ps j) (py ps j)) (n - 1))), (b7, 32, VC c0 c1), (b8, 32, VC s0 s1), (b4, 38, #[.bool false, .string ⟨#[]⟩, .string ⟨#[]⟩, .bool false, .string ⟨#[]⟩, .string ⟨#[]⟩, .bool false, .string ⟨#[]⟩, .string ⟨#[]⟩, .bool false, .string ⟨#[]⟩, .string ⟨#[]⟩]), (b3, 32, VC al ah)] wr) := Lib.hid (by
    rcases HX.out with ⟨hi0, e9, e10⟩ | ⟨hi0, e9, e10⟩
    ·omega
    ·have e : i = n := by omega
     have h9 := HA6.out
     rw [e9, e10, e] at h9
     exact h9)
   have HA8 : Hid (StR w [(b9, 32, VC (mnF (fun j => tuL c0 c1 s0 s1 (px ps j) (py ps j)) (n - 1)) (mxF (fun j => tuH c0 c1 s0 s1 (px ps j) (py ps j)) (n - 1))), (b10, 32, VC (mnF (fun j => tvL c0 c1 s0 s1 (px ps j) (py ps j)) (n - 1)) (mxF (fun j => tvH c0 c1 s0 s1 (px ps j) (py ps j)) (n - 1))), (b7, 32, VC c0 c1), (b8, 32, VC s0 s1), (b3, 32, VC al ah)] (Reg.no.put b4 (38, #[.bool false, .string ⟨#[]⟩, .string ⟨#[]⟩, .bool false, .string ⟨#[]⟩, .string ⟨#[]⟩, .bool false, .string ⟨#[]⟩, .string ⟨#[]⟩, .bool false, .string ⟨#[]⟩, .string ⟨#[]⟩])) wr) := Lib.hid (StR.move (e := (b4, 38, #[.bool false, .string ⟨#[]⟩, .string ⟨#[]⟩, .bool false, .string ⟨#[]⟩, .string ⟨#[]⟩, .bool false, .string ⟨#[]⟩, .string ⟨#[]⟩, .bool false, .string ⟨#[]⟩, .string ⟨#[]⟩])) (StR.no (St.perm HA7.out (List.perm_middle (l₁ := [_, _, _, _]) (l₂ := [_])))))
   clear HA6 HA7 HX
   obtain ⟨zu0, hzu0⟩ : ∃ z, mnF (fun j => tuL c0 c1 s0 s1 (px ps j) (py ps j)) (n - 1) = z := ⟨_, rfl⟩
   obtain ⟨zu1, hzu1⟩ : ∃ z, mxF (fun j => tuH c0 c1 s0 s1 (px ps j) (py ps j)) (n - 1) = z := ⟨_, rfl⟩
   obtain ⟨zv0, hzv0⟩ : ∃ z, mnF (fun j => tvL c0 c1 s0 s1 (px ps j) (py ps j)) (n - 1) = z := ⟨_, rfl⟩
   obtain ⟨zv1, hzv1⟩ : ∃ z, mxF (fun j => tvH c0 c1 s0 s1 (px ps j) (py ps j)) (n - 1) = z := ⟨_, rfl⟩
   rw [hzu0, hzu1, hzv0, hzv1] at HA8
   have HZU := Lib.hid (And.intro (And.intro hzu0 hzu1) (And.intro hzv0 hzv1))
   clear hzu0 hzu1 hzv0 hzv1
   go_upto_region 16 with (fail)
   refine wp_seq_text [] HA8.out ?_
   refine pU ?_
   refine lA (RC zu0) ?_
   refine pU ?_
   refine lA (RC zv0) ?_
   refine pV (.agg (VC zu0 zv0)) (fun w => bld_Vec rfl rfl rfl w) ?_
   refine pU ?_
   refine lA (RC zu1) ?_
   refine pU ?_
   refine lA (RC zv1) ?_
   refine pV (.agg (VC zu1 zv1)) (fun w => bld_Vec rfl rfl rfl w) ?_
   refine pV (.agg (BC zu0 zv0 zu1 zv1)) (fun w => bld_Box rfl rfl rfl w) ?_
   refine sV (BC_one _ _ _ _) ?_
   refine pU ?_
   refine Seq.done fun w11 hws => ?_
   have HA9 := hws.q1 (p := b4)
   clear hws HA8
   go_wp2_with fail
   exact ret_own2 rfl rfl rfl rfl HA9 (by repeat first|exact mC|apply mT) (n := 12) rfl (by kernel_rfl) ⟨by rw [HZU.out.1.1, HZU.out.1.2, HZU.out.2.1, HZU.out.2.2]; rfl, HA9.below⟩
end Go.Proofs.YtmchjmflkaiakaaGreatDoor
