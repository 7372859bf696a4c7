/- Walks: longest, StartsOf (reference). -/
import Derived.Test.YtogjfmgecnoceaaOrdE
import Derived.Test.YtogjfmgecnoceaaMapM
namespace Go.Proofs.Ytogjfmgecnoceaa
open Go.RowKit
set_option linter.unusedVariables false
set_option linter.unusedSimpArgs false

theorem grown_drewN {w w' : World} {row : Option Nat} (h : w.grownBy w' row) (n : Nat) : w.grownBy (w'.drewN n) row := ⟨h.os, h.tape, h.output, h.size, h.block⟩
theorem grown_of_below {w w' : World} {row : Option Nat} (h : Below w.heap.size w w') : w.grownBy w' row := ⟨h.os, h.tape, h.output, h.size, fun i hi _ => h.block i hi⟩
theorem grown_trans {w w' w'' : World} {row : Option Nat} (h : w.grownBy w' row) (h' : w'.grownBy w'' row) : w.grownBy w'' row :=
  ⟨h'.os.trans h.os, h'.tape.trans h.tape, h'.output.trans h.output, Nat.le_trans h.size h'.size, fun i hi hr => (h'.block i (Nat.lt_of_lt_of_le hi h.size) hr).trans (h.block i hi hr)⟩
theorem Rws.map {W w w' : World} {rs : List Rw} {b : Nat} {α β : Type} {enc : α → Value} {en : β → Value} {l : List (α × β)} (h : Rws W rs w) (hM : MapOf enc en w b l) (hg : w.grownBy w' (some b)) (hb : W.heap.size ≤ b) : Rws W rs w' := by
  refine ⟨h.below.grown hg h.below.size (fun k hk => by cases hk; exact hb), fun r hr => (h.own r hr).kept hg ?_, h.apart⟩
  cases hv : r.v.ownBlock with
  | none => exact .inl rfl
  | some k =>
    refine .inr fun e => ?_
    injection e with e
    subst e
    obtain ⟨es, clock, hh, _⟩ := hM
    rcases (h.own r hr).2 with ⟨hn, _⟩ | ⟨g, cap, cur, hv2, _, hgg, _⟩
    · rw [hn] at hv; simp [Value.ownBlock] at hv
    · rw [hv2] at hv
      simp [Value.ownBlock] at hv
      subst hv
      rw [hh] at hgg
      cases hgg
abbrev IM (w : World) (b : Nat) (l : List (Int × Int)) : Prop := MapOf (fun x : Int => .int .i64 x) (fun x : Int => .int .i64 x) w b l
theorem kInt : KLaw Try.prog 3 (fun x : Int => .int .i64 x) := klaw_int Try.underlying3
theorem zInt (w : World) : (zeroValue 3).run Try.prog w = .ok (.int .i64 0) w := by kernel_rfl

theorem longest_hit (v0 v1 : Value) (k v : Int) (b : Nat) (l : List (Int × Int)) (w : World) (hM : IM w b l) (hk : aget l k = some v) :
    Calls Try.prog 90 #[v0, v1, .int .i64 k, .map (some b)] w fun e w' => e = .returned (.int .i64 v) ∧ w' = w := by
  have hl := hM.lookup kInt Try.underlying87 (zInt w) k true (v := .int .i64 v) (by rw [hk]; rfl) (o := true) (by rw [hk]; rfl)
  simp only [if_true] at hl
  have HM := Lib.hid hM; clear hM
  have HK := Lib.hid hk; clear hk
  go_enter Try.func90, Try.ntmps90
  go_wp2_with fail
  go_ret
  exact ⟨rfl, rfl⟩

/-- the map knows the first k starts -/
def Knows (rs : List (List Int)) (ts : List Int) (k : Nat) (l : List (Int × Int)) : Prop := (∀ j, j < k → aget l (j : Int) = some (S rs ts j)) ∧ ∀ j, k ≤ j → aget l (j : Int) = none
theorem Knows.succ {rs : List (List Int)} {ts : List Int} {k : Nat} {l : List (Int × Int)} (h : Knows rs ts k l) : Knows rs ts (k + 1) (aput l (k : Int) (S rs ts k)) := by
  refine ⟨fun j hj => ?_, fun j hj => ?_⟩
  · rw [aget_aput]
    by_cases e : j = k
    · subst e; rw [if_pos rfl]
    · rw [if_neg (by omega)]; exact h.1 j (by omega)
  · rw [aget_aput, if_neg (by omega)]; exact h.2 j (by omega)
theorem atB_eq {rs : List (List Int)} {ts xs : List Int} {k : Nat} (hlow : ∀ x ∈ xs, 0 ≤ x ∧ x < k) {q : Nat} {x : Nat} (hx : xs[q]? = some (x : Int)) : atB (startsOf rs ts k) ts (xs.take (q+1)) = max (atB (startsOf rs ts k) ts (xs.take q)) (S rs ts x + nth ts x) := by
  rw [List.take_add_one, hx]
  have h1 := hlow _ (List.mem_of_getElem? hx)
  have e := atB_snoc (startsOf rs ts k) ts (xs.take q) (x : Int)
  rw [nth_startsOf (show x < k by omega)] at e
  exact e

set_option maxHeartbeats 2000000 in
set_option maxRecDepth 20000 in
theorem longest_new (rs : List Row) (A : Option Addr) (n c : Nat) (ts : List Int) (A1 : Option Addr) (n1 c1 k b : Nat) (l : List (Int × Int)) (w : World) (hn : n = rs.length) (hlow : Low (ll rs)) (h40 : n ≤ 40) (h : RowsAt w w.heap.size A rs) (hn1 : n1 = ts.length) (hnn : n1 = n) (ht : ∀ t ∈ ts, 0 ≤ t ∧ t ≤ 2000) (hs : IntsAt w w.heap.size A1 ts) (hk : k < n) (hM : IM w b l) (hK : Knows (ll rs) ts k l) :
    Calls Try.prog 90 #[.slice A n c, .slice A1 n1 c1, .int .i64 (k : Int), .map (some b)] w fun e w' => e = .returned (.int .i64 (S (ll rs) ts k)) ∧ IM w' b (aput l (k : Int) (S (ll rs) ts k)) ∧ w.grownBy w' (some b) := by
  subst hnn
  have hl := hM.lookup kInt Try.underlying87 (zInt w) (k : Int) true (v := .int .i64 0) (by rw [hK.2 k (Nat.le_refl _)]; rfl) (o := false) (by rw [hK.2 k (Nat.le_refl _)]; rfl)
  simp only [if_true] at hl
  obtain ⟨r, hr⟩ := get_of_lt hn hk
  obtain ⟨b1, off, rfl, hb, h0, hxm, hx⟩ := h k r hr
  have HN := Lib.hid hn; clear hn
  have HR := Lib.hid (ll_get hr); clear hr h
  have HX := Lib.hid hx; clear hx
  have HN1 := Lib.hid hn1; clear hn1
  have HTB := Lib.hid ht; clear ht
  have H1 := Lib.hid hs; clear hs
  have HM := Lib.hid hM; clear hM
  have HK := Lib.hid hK; clear hK
  have HLOW := Lib.hid (hlow k r.xs HR.out)
  have HLL := Lib.hid hlow; clear hlow
  have HS : Hid (S (ll rs) ts k = atB (startsOf (ll rs) ts k) ts r.xs) := Lib.hid (by unfold S; rw [HR.out]; rfl)
  obtain ⟨tA, tc, txs⟩ := r
  dsimp only at h0 hxm HX HR HS HLOW
  generalize hm2 : txs.length = m at *
  have HMM := Lib.hid hm2; clear hm2
  go_enter Try.func90, Try.ntmps90
  go_wp2_with fail
  clear hl h0
  go_loopg [11, 27] m (fun kk a i wi => ∃ q : Nat, kk = m - q ∧ q ≤ m ∧ i = .int .i64 q ∧ a = .int .i64 (atB (startsOf (ll rs) ts k) ts (txs.take q)) ∧ Hid (Below w.heap.size w wi))
  case atStart => exact ⟨0, by omega, Nat.zero_le _, rfl, rfl, Below.refl _ _⟩
  case round =>
    obtain ⟨q, hgk2, hq, rfl, rfl, hW⟩ := hrel
    have HGK2 := Lib.hid hgk2; clear hgk2
    by_cases hlt2 : q < m
    · obtain ⟨x, hx⟩ := get_of_lt HMM.out.symm hlt2
      obtain ⟨x1, x2⟩ := HLOW.out x (List.mem_of_getElem? hx)
      obtain ⟨x, rfl⟩ := Int.eq_ofNat_of_zero_le x1
      have hxk : x < k := by omega
      obtain ⟨b', off', rfl, hb', c0'⟩ := HX.out q x hx
      have c0 := (hW.out.cell (p := ⟨b', off' + q, none⟩) hb').trans c0'
      clear c0'
      have HAT := Lib.hid (atB_eq (rs := ll rs) (ts := ts) HLOW.out hx)
      clear hx x1 x2
      have HGET := Lib.hid (HK.out.1 x hxk)
      have HMW := Lib.hid (HM.out.next hW.out)
      obtain ⟨tv, htv⟩ := get_of_lt HN1.out (show x < n1 by omega)
      obtain ⟨b3, off3, rfl, hb3, h3'⟩ := H1.out x tv htv
      have h3 := (hW.out.cell (p := ⟨b3, off3 + x, none⟩) hb3).trans h3'
      clear h3'
      obtain ⟨t1, t2⟩ := HTB.out tv (List.mem_of_getElem? htv)
      obtain ⟨o1, o2⟩ := S_bd HLL.out HTB.out x
      rw [nth_get htv] at HAT
      clear htv
      have hav : 0 ≤ atB (startsOf (ll rs) ts k) ts (txs.take q) := (atB_max _ _ _).1
      generalize atB (startsOf (ll rs) ts k) ts (txs.take q) = av at *
      generalize S (ll rs) ts x = sx at *
      have hw := i64_w (sx + tv) (by omega) (by omega)
      have k0 : (0 : Int) ≤ (x : Int) := by omega
      have k1 : (x : Int) < (n1 : Int) := by omega
      go_wp2_with fail
      go_quiet ((go_at_call 90; exact Calls.quiet_of_same (longest_hit _ _ _ _ _ _ _ (HMW.out.drewN _) HGET.out)))
      clear hw
      go_wp2_with fail
      all_goals
        go_roundg (m - (q + 1))
        case measure => rw [HGK2.out]; omega
        case rel => exact ⟨q+1, rfl, by omega, by go_num, by rw [HAT.out]; first | rw [Int.max_eq_left (by omega)] | rw [Int.max_eq_right (by omega)], below_drewN hW.out _⟩
    · obtain rfl : q = m := by omega
      have HTK : Hid (txs.take q = txs) := Lib.hid (by rw [← HMM.out]; exact List.take_length)
      rw [HTK.out, ← HS.out]
      obtain ⟨w', hrun, hM', hg⟩ := (HM.out.next hW.out).update kInt Try.underlying87 (k : Int) (S (ll rs) ts k)
      have HM' := Lib.hid hM'; clear hM'
      have HG := Lib.hid hg; clear hg
      go_wp2_with fail
      go_ret
      exact ⟨rfl, HM'.out, grown_trans (grown_of_below hW.out) HG.out⟩

theorem own_map_ne {w : World} {base : Nat} {e : TypeId} {size n b : Nat} {v : Value} {xs : List Value} {α β : Type} {enc : α → Value} {en : β → Value} {l : List (α × β)} (h : w.ownsRow base e size v n xs) (hM : MapOf enc en w b l) : some b ≠ v.ownBlock := by
  obtain ⟨es, clock, hm, _⟩ := hM
  rcases h.2 with ⟨rfl, _⟩ | ⟨g', cap, cur, rfl, _, hh, _⟩
  · simp [Value.ownBlock]
  · intro he
    have : b = g' := by simpa [Value.ownBlock] using he
    subst this
    rw [hm] at hh
    cases hh
def StartPost (rs : List (List Int)) (ts : List Int) (n : Nat) (w : World) (e : Ending) (w' : World) : Prop := ∃ v, e = .returned (.tuple #[v, .int .i64 (endB rs ts n)]) ∧ IntsV w' v (startsOf rs ts n) ∧ Below w.heap.size w w'

set_option maxHeartbeats 2000000 in
set_option maxRecDepth 20000 in
theorem starts_any (rs : List Row) (A : Option Addr) (n c : Nat) (ts : List Int) (A1 : Option Addr) (n1 c1 : Nat) (w : World) (hn : n = rs.length) (hlow : Low (ll rs)) (h40 : n ≤ 40) (h : RowsAt w w.heap.size A rs) (hn1 : n1 = ts.length) (hnn : n1 = n) (ht : ∀ t ∈ ts, 0 ≤ t ∧ t ≤ 2000) (hs : IntsAt w w.heap.size A1 ts) :
    Calls Try.prog 24 #[.slice A n c, .slice A1 n1 c1] w (StartPost (ll rs) ts n w) := by
  subst hnn
  have HC := Lib.hid (fun (W : World) (hb : Below w.heap.size w W) (k b : Nat) (l : List (Int × Int)) (hk : k < n1) (hM : IM W b l) (hK : Knows (ll rs) ts k l) => longest_new rs A n1 c ts A1 n1 c1 k b l W hn hlow h40 (h.next hb) hn1 rfl ht (hs.next hb) hk hM hK)
  have HN1 := Lib.hid hn1; clear hn1 hn h
  have HTB := Lib.hid ht; clear ht
  have H1 := Lib.hid hs; clear hs
  have HLL := Lib.hid hlow; clear hlow
  have hmm := @run_makeMap Try.prog
  go_enter Try.func24, Try.ntmps24
  go_wp2_with fail
  clear hmm
  have HM0 := Lib.hid (show IM (w.alloc (.map #[] 0)) w.heap.size [] from MapOf.made w)
  have hb0 := Lib.hid ((Below.refl w.heap.size w).alloc (Nat.le_refl _) (.map #[] 0))
  generalize w.alloc (.map #[] 0) = w0 at *
  go_loopg [6, 7, 14] n1 (fun k o s7 i wr => ∃ (j : Nat) (l : List (Int × Int)), k = n1 - j ∧ j ≤ n1 ∧ i = .int .i64 j ∧ s7 = .int .i64 (endB (ll rs) ts j) ∧ Hid (IRow w o (startsOf (ll rs) ts j) wr) ∧ Hid (IM wr w.heap.size l) ∧ Hid (Knows (ll rs) ts j l))
  case atStart => exact ⟨0, [], by omega, Nat.zero_le _, rfl, rfl, IRow.nil hb0.out, HM0.out, ⟨fun j hj => by omega, fun j _ => rfl⟩⟩
  case round =>
    obtain ⟨j, l, hgk, hj, rfl, rfl, hrow, hM, hK⟩ := hrel
    have HGK := Lib.hid hgk; clear hgk
    have hbd := endB_bd HLL.out HTB.out j
    by_cases hlt : j < n1
    · obtain ⟨t, ht⟩ := get_of_lt HN1.out hlt
      obtain ⟨b1, off1, rfl, hb1, h1⟩ := H1.out j t ht
      obtain ⟨t1, t2⟩ := HTB.out t (List.mem_of_getElem? ht)
      have HTN := Lib.hid (nth_get ht); clear ht
      have H10 := Lib.hid h1; clear h1
      obtain ⟨sb0, sb1⟩ := S_bd HLL.out HTB.out j
      have HL5 := Lib.hid (startsOf_len (ll rs) ts j)
      have HCC := Lib.hid (HC.out wr hrow.out.bel j w.heap.size l hlt hM.out hK.out)
      have HEN : Hid (endB (ll rs) ts (j+1) = max (endB (ll rs) ts j) (S (ll rs) ts j + t)) := Lib.hid (by rw [← HTN.out]; rfl)
      have HST := Lib.hid (startsOf_succ (ll rs) ts j)
      have HKS := Lib.hid hK.out.succ
      obtain ⟨sv, hsv⟩ : ∃ sv, S (ll rs) ts j = sv := ⟨_, rfl⟩
      obtain ⟨ev, hev⟩ : ∃ ev, endB (ll rs) ts j = ev := ⟨_, rfl⟩
      rw [hsv] at HEN HST HKS HCC sb0 sb1
      rw [hev] at HEN hbd ⊢
      clear hsv hev
      obtain ⟨v1, v2⟩ := hbd
      have hnm5 : j + 1 ≤ 4294967296 := by omega
      go_wp2_with fail
      refine HCC.out.mono ?_
      rintro e w2 ⟨rfl, hM2, hg2⟩
      have HR2 := Lib.hid (show IRow w u6 (startsOf (ll rs) ts j) w2 from Rws.map hrow.out hM.out hg2 (Nat.le_refl _))
      have HM2 := Lib.hid hM2; clear hM2 hg2
      go_wp2_with (
        at_builtin
        refine wpList_append_oneG rfl (.tmp 22) (.tmp 24) _ rfl Try.underlying23 infoI rfl rfl (HR2.out.row HL5.out) rfl rfl rfl (one_i _) hnm5 ?_
        intro v5 w4 hR4 hb4 hg4
        have HM4 := Lib.hid ((HM2.out.alloc _).grown hg4 (own_map_ne (Rws.head HR2.out) HM2.out))
        have HR4 := Lib.hid (IRow.add HL5.out hR4)
        clear hR4 hg4
        have g1 := (hb4.cell (p := ⟨b1, off1 + j, none⟩) hb1).trans H10.out)
      all_goals
        go_roundg (n1 - (j + 1))
        case measure => rw [HGK.out]; omega
        case rel => exact ⟨j+1, _, rfl, by omega, by go_num, by rw [HEN.out]; first | rw [Int.max_eq_left (by omega)] | rw [Int.max_eq_right (by omega)], HR4.out.re HST.out, HM4.out, HKS.out⟩
    · obtain rfl : j = n1 := by omega
      go_wp2_with fail
      go_ret2
      exact ⟨_, rfl, hrow.out.intsV, hrow.out.bel⟩
end Go.Proofs.Ytogjfmgecnoceaa
