/- Walks: slices.Clone and Equal at uses, Busy (package tools). -/
import Derived.Test.YtkoibebejhmpaaaToolsA
import Derived.Test.YtkoibebejhmpaaaToolsM
import Derived.Deep.QuietTactic
import Derived.BigQuiet
import Derived.WalkSpells
namespace Go.Proofs.Ytkoibebejhmpaaa
open Go.RowKit
set_option linter.unusedVariables false
set_option linter.unusedSimpArgs false

theorem infoUseG : (Try.prog.info? 29).map (fun i => (i.zero, i.size, i.bytes)) = some (some (.agg #[.int .i64 0, .int .i64 0, .int .i64 0]), 3, 24) := by kernel_rfl

def OwnsPost (us : List U) (w : World) (e : Ending) (w' : World) : Prop := ∃ v, e = .returned v ∧ w'.ownsRow w.heap.size 29 3 v us.length (cellsU us) ∧ Below w.heap.size w w'

theorem cloneU_any (us : List U) (A : Option Addr) (n c : Nat) (w : World) (hn : n = us.length) (hnc : n ≤ c) (hm : c ≤ maxLen) (hreach : c * 24 ≤ 140737488351232) (h : UsesAt w w.heap.size A us) :
    Calls Try.prog 15 #[.slice A n c] w (OwnsPost us w) := by
  have hnil := fun W => Lib.run_eql_slice_nil (P := Try.prog) W 22 29 A n c 0 0 Try.underlying22
  obtain ⟨i0, hi0, hz0, hz1, hz2⟩ := info_parts infoUseG
  cases A with
  | none =>
    have hus : us = [] := by
      cases us with
      | nil => rfl
      | cons a l => obtain ⟨b, off, hA, _⟩ := h 0 a rfl; cases hA
    subst hus
    have hn0 : n = 0 := hn
    subst hn0
    have H := Lib.hid h; clear h hn
    go_enter Try.func15, Try.ntmps15
    go_wp2_with fail
    go_ret
    exact ⟨_, rfl, World.ownsRow_nil _ _ _ _, Below.refl _ _⟩
  | some ad =>
    have HR := Lib.hid h.reads
    have HN := Lib.hid hn; clear hn h
    unfold maxLen at hm
    go_enter Try.func15, Try.ntmps15
    go_wp2_with (at_builtin; refine wpList_append_any _ rfl (.tmp 5) (.tmp 6) _ rfl w.heap.size 29 i0 _ 3 24 Try.underlying22 hi0 hz0 hz1 hz2 rfl (by omega) _ 0 [] rfl (Blk.owns (Blk.new _ _ _) (Nat.le_refl _)) w.heap.size (some ad) n c (cellsU us) rfl (by rw [HN.out]; exact HR.out.alloc (Nat.le_refl _) _) (cellsU_oneCell us) (by unfold maxLen; omega) (by omega) (by simp) ?_; intro v2 w2 hown2 hg2 hat2)
    go_ret
    refine ⟨_, rfl, by rw [← HN.out]; simpa using hown2, ?_⟩
    exact ((Below.refl _ _).alloc (Nat.le_refl _) _).grown hg2 (by simp) (by intro k hk; cases hk; exact Nat.le_refl _)

theorem equalU_any (us : List U) (A B : Option Addr) (n m c d : Nat) (w : World) (hn : n = us.length) (hm' : m = us.length) (hm : n ≤ 140737488351232) (h : UsesAt w w.heap.size A us) (h' : UsesAt w w.heap.size B us) :
    Calls Try.prog 17 #[.slice A n c, .slice B m d] w fun e w' => e = .returned (.bool true) ∧ Below w.heap.size w w' := by
  obtain rfl : n = m := by omega
  have HN := Lib.hid hn; clear hn hm'
  have H := Lib.hid h; clear h
  have H' := Lib.hid h'; clear h'
  go_enter Try.func17, Try.ntmps17
  go_wp2_with fail
  go_loopg [13] n (fun k i wr => ∃ j : Nat, k = n - j ∧ j ≤ n ∧ i = .int .i64 j ∧ Hid (Below w.heap.size w wr))
  case atStart => exact ⟨0, by omega, Nat.zero_le _, rfl, Below.refl _ _⟩
  case round =>
    obtain ⟨j, hgk, hj, rfl, hbel⟩ := hrel
    have HGK := Lib.hid hgk; clear hgk
    by_cases hlt : j < n
    · obtain ⟨u, hu⟩ := get_of_lt HN.out hlt
      obtain ⟨b, off, rfl, hb, h0, h1, h2⟩ := H.out j u hu
      obtain ⟨b', off', rfl, hb', h0', h1', h2'⟩ := H'.out j u hu
      clear hu
      have g0 := (hbel.out.cell (p := ⟨b, off + j*3, none⟩) hb).trans h0
      have g1 := (hbel.out.cell (p := ⟨b, off + j*3+1, none⟩) hb).trans h1
      have g2 := (hbel.out.cell (p := ⟨b, off + j*3+2, none⟩) hb).trans h2
      have g0' := (hbel.out.cell (p := ⟨b', off' + j*3, none⟩) hb').trans h0'
      have g1' := (hbel.out.cell (p := ⟨b', off' + j*3+1, none⟩) hb').trans h1'
      have g2' := (hbel.out.cell (p := ⟨b', off' + j*3+2, none⟩) hb').trans h2'
      clear h0 h1 h2 h0' h1' h2'
      have i1 : (0 : Int) ≤ (j : Int) := by omega
      have i2 : (j : Int) < (n : Int) := by omega
      go_wp2_with fail
      go_quiet (fail)
      go_wp2_with fail
      go_roundg (n - (j + 1))
      case measure => rw [HGK.out]; omega
      case rel => exact ⟨j+1, rfl, by omega, by go_num, below_drewN hbel.out _⟩
    · go_wp2_with fail
      go_ret
      exact ⟨rfl, hbel.out⟩

/-- at how many ticks from a on, before b, the uses of a tool take place -/
def over (u : U) (a b : Int) : Int := max (min (u.f + u.l) (max b 0) - max u.f a) 0
def busySum (us : List U) (t a b : Int) : Int := (us.map fun u => if u.t = t then over u a b else 0).sum
theorem busySum_snoc (us : List U) (u : U) (t a b : Int) : busySum (us ++ [u]) t a b = busySum us t a b + if u.t = t then over u a b else 0 := by simp [busySum]
theorem over_bd {u : U} (h : okU u = true) (a b : Int) : 0 ≤ over u a b ∧ over u a b ≤ 2000 := by
  obtain ⟨_, _, _, _, _, _⟩ := okU_iff.1 h
  unfold over; omega
theorem busySum_bd {us : List U} (h : ∀ u ∈ us, okU u = true) (t a b : Int) : 0 ≤ busySum us t a b ∧ busySum us t a b ≤ us.length * 2000 := by
  induction us with
  | nil => simp [busySum]
  | cons u l ih =>
    have h1 := ih fun v hv => h v (List.mem_cons_of_mem _ hv)
    have h2 := over_bd (h u List.mem_cons_self) a b
    have : busySum (u :: l) t a b = (if u.t = t then over u a b else 0) + busySum l t a b := by simp [busySum]
    rw [this]
    simp only [List.length_cons]
    split <;> omega

set_option maxHeartbeats 400000 in
theorem busy_any (us : List U) (A : Option Addr) (n c : Nat) (t a b : Int) (w : World) (hn : n = us.length) (hnc : n ≤ c) (hm : c ≤ maxLen) (ha : (Lit.int .i64 a).wf = true) (hb : (Lit.int .i64 b).wf = true) (h : UsesAt w w.heap.size A us) :
    Calls Try.prog 16 #[.slice A n c, .int .i64 t, .int .i64 a, .int .i64 b] w fun e w' => e = .returned (.tuple #[.int .i64 (if chk us = 0 then busySum us t a b else 0), .int .i64 (chk us)]) ∧ Below w.heap.size w w' := by
  have HC := Lib.hid (check_any us A n c w hn hnc hm h)
  have HN := Lib.hid hn; clear hn
  have H := Lib.hid h; clear h
  unfold maxLen at hm
  have hA : -9223372036854775808 ≤ a ∧ a ≤ 9223372036854775807 := by simpa [Lit.wf, IntKind.min, IntKind.max, IntKind.signed, IntKind.bits] using ha
  have hB : -9223372036854775808 ≤ b ∧ b ≤ 9223372036854775807 := by simpa [Lit.wf, IntKind.min, IntKind.max, IntKind.signed, IntKind.bits] using hb
  clear ha hb
  obtain ⟨a0, a1⟩ := hA
  obtain ⟨b0, b1⟩ := hB
  by_cases hchk : chk us = 0
  · have h60 := (chk_zero hchk).1
    have hall := all_ok hchk
    have HALL := Lib.hid hall; clear hall
    have HCHK := Lib.hid hchk; clear hchk
    rw [← HN.out] at h60
    go_enter Try.func16, Try.ntmps16
    go_wp2_with fail
    refine HC.out.mono ?_
    rw [HCHK.out]
    rintro e w1 ⟨rfl, hb1⟩
    go_wp2_with fail
    go_loopg [11, 21] n (fun k s i wr => ∃ j : Nat, k = n - j ∧ j ≤ n ∧ i = .int .i64 j ∧ s = .int .i64 (busySum (us.take j) t a b) ∧ Hid (Below w.heap.size w wr))
    case atStart => exact ⟨0, by omega, Nat.zero_le _, rfl, rfl, hb1⟩
    case round =>
      obtain ⟨j, hgk, hj, rfl, rfl, hbel⟩ := hrel
      have HGK := Lib.hid hgk; clear hgk
      have hbd := busySum_bd (us := us.take j) (fun u hu => HALL.out u (List.mem_of_mem_take hu)) t a b
      obtain ⟨s0, s1⟩ := hbd
      have s2 : (us.take j).length ≤ 60 := by rw [List.length_take]; omega
      by_cases hlt : j < n
      · obtain ⟨u, hu⟩ := get_of_lt HN.out hlt
        obtain ⟨bb, off, rfl, hb, h0, h1, h2⟩ := H.out j u hu
        have hok := HALL.out u (List.mem_of_getElem? hu)
        obtain ⟨o0, o1⟩ := over_bd hok a b
        have HS : Hid (busySum (us.take (j+1)) t a b = busySum (us.take j) t a b + if u.t = t then over u a b else 0) := by rw [take_succ_of hu]; exact busySum_snoc _ _ _ _ _
        clear hu
        have g0 := (hbel.out.cell (p := ⟨bb, off + j*3, none⟩) hb).trans h0
        have g1 := (hbel.out.cell (p := ⟨bb, off + j*3+1, none⟩) hb).trans h1
        have g2 := (hbel.out.cell (p := ⟨bb, off + j*3+2, none⟩) hb).trans h2
        clear h0 h1 h2
        have hz := hbel.out.size
        generalize hss : busySum (us.take j) t a b = ss at *
        have HSS := Lib.hid hss; clear hss
        obtain ⟨q1, q2, q3, q4, q5, q6⟩ := okU_iff.1 hok
        obtain ⟨ut, uf, ul⟩ := u
        dsimp only at g0 g1 g2 q1 q2 q3 q4 q5 q6
        clear hok
        by_cases htt : ut = t
        · have htb : (ut == t) = true := by simp [htt]
          have HTT := Lib.hid htt; clear htt
          have HO : Hid (over ⟨ut, uf, ul⟩ a b = max (min (uf + ul) (max b 0) - max uf a) 0) := rfl
          clear o0 o1
          have o0 : 0 ≤ max (min (uf + ul) (max b 0) - max uf a) 0 := by omega
          have o1 : max (min (uf + ul) (max b 0) - max uf a) 0 ≤ 2000 := by omega
          have o2 : -9223372036854775808 ≤ min (uf + ul) (max b 0) - max uf a := by omega
          have o3 : min (uf + ul) (max b 0) - max uf a ≤ 9223372036854775807 := by omega
          go_wp2_with fail
          all_goals
            go_roundg (n - (j + 1))
            case measure => rw [HGK.out]; omega
            case rel => exact ⟨j+1, rfl, by omega, by go_num, by rw [HS.out, if_pos HTT.out, HO.out]; go_num, hbel.out.alloc hz _⟩
        · have htb : (ut == t) = false := by simp [htt]
          have HTT := Lib.hid htt; clear htt
          go_wp2_with fail
          go_roundg (n - (j + 1))
          case measure => rw [HGK.out]; omega
          case rel => exact ⟨j+1, rfl, by omega, by go_num, by rw [HS.out, if_neg HTT.out]; go_num, hbel.out.alloc hz _⟩
      · obtain rfl : j = n := by omega
        have HX : Hid (us.take j = us) := by rw [HN.out]; exact List.take_length
        rw [HX.out]
        go_wp2_with fail
        go_ret2
        refine ⟨?_, hbel.out⟩
        simp only [if_pos HCHK.out, HCHK.out]; rfl
  · have hb : (chk us != 0) = true := by simpa using hchk
    generalize hcc : chk us = cc at *
    have HCC := Lib.hid hcc; clear hcc
    have HCHK := Lib.hid hchk; clear hchk
    go_enter Try.func16, Try.ntmps16
    go_wp2_with fail
    refine HC.out.mono ?_
    rintro e w1 ⟨rfl, hb1⟩
    go_wp2_with fail
    go_ret2
    refine ⟨?_, hb1⟩
    simp only [if_neg HCHK.out]; rfl
end Go.Proofs.Ytkoibebejhmpaaa
