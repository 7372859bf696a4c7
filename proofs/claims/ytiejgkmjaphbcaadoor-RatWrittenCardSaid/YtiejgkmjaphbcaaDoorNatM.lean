/- Joined texts. -/
import Derived.Test.YtiejgkmjaphbcaaDoorBunNatA

/- Walks of package nat: Read. -/
namespace Go.Proofs.YtiejgkmjaphbcaaDoor
open Go.RowKit
set_option linter.unusedVariables false
set_option linter.unusedSimpArgs false

/-- a decimal digit -/
def isDig (c : UInt8) : Bool := decide (48 ≤ c.toNat ∧ c.toNat ≤ 57)
/-- the number of a list of digits -/
def dv (l : List UInt8) : Nat := l.foldl (fun n c => n * 10 + (c.toNat - 48)) 0
theorem dv_nil : dv [] = 0 := rfl
theorem dv_snoc (l : List UInt8) (c : UInt8) : dv (l ++ [c]) = dv l * 10 + (c.toNat - 48) := by
  unfold dv; rw [List.foldl_append]; rfl
def readE (l : List UInt8) : Int := if 2000 < l.length then 2 else if l = [] ∨ (1 < l.length ∧ l.head? = some 48) then 15 else if l.all isDig then 0 else 15
def readS (l : List UInt8) : ByteArray := if readE l = 0 then S (dv l) else S 0

theorem read_step {B Z Z' W W' x cy cy' a d : Nat} (h : Z + B * cy = 10 * W + d) (hz : Z' = Z + B * a) (hw : W' = W + B * x) (hq : cy + 10 * x = a + 4294967296 * cy') : Z' + B * 4294967296 * cy' = 10 * W' + d := by
  have e : B * cy + B * (10 * x) = B * a + B * 4294967296 * cy' := by
    have := congrArg (B * ·) hq
    simp only [Nat.mul_add] at this
    rw [this, Nat.mul_assoc]
  have e2 : B * (10 * x) = 10 * (B * x) := by rw [← Nat.mul_assoc, Nat.mul_comm B 10, Nat.mul_assoc]
  omega

theorem readE_large {l : List UInt8} (h : 2000 < l.length) : readE l = 2 ∧ readS l = S 0 := by
  have : readE l = 2 := by unfold readE; rw [if_pos h]
  exact ⟨this, by unfold readS; rw [this]; rfl⟩
theorem readE_syntax {l : List UInt8} (h : ¬ 2000 < l.length) (h2 : l = [] ∨ (1 < l.length ∧ l.head? = some 48)) : readE l = 15 ∧ readS l = S 0 := by
  have : readE l = 15 := by unfold readE; rw [if_neg h, if_pos h2]
  exact ⟨this, by unfold readS; rw [this]; rfl⟩
theorem readE_bad {l : List UInt8} (h : ¬ 2000 < l.length) {c : UInt8} (hc : c ∈ l) (hd : isDig c = false) : readE l = 15 ∧ readS l = S 0 := by
  have h3 : l.all isDig = false := by
    cases hh : l.all isDig with
    | false => rfl
    | true => rw [List.all_eq_true.1 hh c hc] at hd; cases hd
  have : readE l = 15 := by
    unfold readE; rw [if_neg h]
    split
    · rfl
    · rw [h3]; rfl
  exact ⟨this, by unfold readS; rw [this]; rfl⟩
theorem readE_ok {l : List UInt8} (h : ¬ 2000 < l.length) (h2 : ¬ (l = [] ∨ (1 < l.length ∧ l.head? = some 48))) (h3 : l.all isDig = true) : readE l = 0 ∧ readS l = S (dv l) := by
  have : readE l = 0 := by unfold readE; rw [if_neg h, if_neg h2, if_pos h3]
  exact ⟨this, by unfold readS; rw [if_pos this]⟩
/-- what Read hands back -/
def readV (l : List UInt8) : Value := .tuple #[.string (readS l), .int .i64 (readE l)]

theorem ret64 {a b : Int} (h : a = b) : Value.int .u64 a = .int .u64 b := by rw [h]
set_option maxHeartbeats 2000000 in
set_option maxRecDepth 20000 in
theorem Read_any (s : ByteArray) (w : World) (hs : s.size ≤ maxLen) :
    Calls Tryd.prog 28 #[.string s] w fun e w' => e = .returned (readV (toL s)) ∧ Below w.heap.size w w' := by
  obtain ⟨i0, hi0, hz0, hz1, hz2⟩ := info_parts infoU32
  unfold maxLen at hs
  by_cases hlarge : 2000 < s.size
  · have HV := Lib.hid (readE_large (l := toL s) hlarge)
    go_enter Tryd.func28, Tryd.ntmps28
    go_wp2_with fail
    go_ret2
    exact ⟨by unfold readV; rw [HV.out.1, HV.out.2]; rfl, Below.refl _ _⟩
  have hlen : ¬ 2000 < (toL s).length := hlarge
  by_cases h0 : s.size = 0
  · have h1 : toL s = [] := List.eq_nil_of_length_eq_zero h0
    obtain rfl : s = ⟨#[]⟩ := ba_eq h1
    have HV := Lib.hid (readE_syntax (l := toL ⟨#[]⟩) hlen (.inl rfl))
    clear hs hlarge hlen h0 h1
    go_enter Tryd.func28, Tryd.ntmps28
    go_wp2_with fail
    go_ret2
    exact ⟨by unfold readV; rw [HV.out.1, HV.out.2]; rfl, Below.refl _ _⟩
  have hpos : 0 < s.size := by omega
  have hne : s.toList ≠ [] := by
    rw [ByteArray.toList_eq]; intro h; have := congrArg List.length h; exact h0 this
  have hem : s.toList.isEmpty = false := by simpa using hne
  have hne' : toL s ≠ [] := by intro h; have := congrArg List.length h; exact h0 this
  have hhd : (toL s).head? = some s[0] := by rw [byte_zero s hpos]; rfl
  by_cases hzero : 1 < s.size ∧ s[0].toNat = 48
  · have HV := Lib.hid (readE_syntax (l := toL s) hlen (.inr ⟨hzero.1, by rw [hhd, ← UInt8.toNat_inj.1 (show s[0].toNat = (48 : UInt8).toNat from hzero.2)]⟩))
    obtain ⟨hz1', hz2'⟩ := hzero
    have hb : ((s[0].toNat : Int) == 48) = true := by rw [hz2']; rfl
    clear hlen hne' hhd hz2' hne
    go_enter Tryd.func28, Tryd.ntmps28
    go_wp2_with fail
    go_ret2
    exact ⟨by unfold readV; rw [HV.out.1, HV.out.2]; rfl, Below.refl _ _⟩
  have hsyn : ¬ (toL s = [] ∨ (1 < (toL s).length ∧ (toL s).head? = some 48)) := by
    rintro (h | ⟨h1, h2⟩)
    · exact hne' h
    · rw [hhd] at h2
      injection h2 with h2
      exact hzero ⟨h1, by rw [h2]; rfl⟩
  have HSYN := Lib.hid (And.intro hlen hsyn)
  have hz' : ¬ 1 < s.size ∨ ((s[0].toNat : Int) == 48) = false := by
    by_cases h : 1 < s.size
    · right
      have : ¬ s[0].toNat = 48 := fun e => hzero ⟨h, e⟩
      simp only [beq_eq_false_iff_ne]; omega
    · exact .inl h
  clear hlen hsyn hne' hhd hzero h0 hne
  have hent : ∀ Q : Exit → Act → World → Prop, True := fun _ => trivial
  clear hent
  go_enter Tryd.func28, Tryd.ntmps28
  have HSZ : Hid (s.size ≤ 2000) := show s.size ≤ 2000 by omega
  rcases hz' with hz' | hz'
  all_goals go_wp2_with fail
  all_goals
    clear hz' hem
    go_loopg [4, 25] s.size (fun k v i wr => ∃ (j : Nat) (ws : List Nat), k = s.size - j ∧ j ≤ s.size ∧ i = .int .i64 j ∧ Hid (wr.ownsRow w.heap.size 61 1 v ws.length (wcells ws).toList) ∧ Hid (Below w.heap.size w wr) ∧ Hid (ws.length ≤ j ∧ Wok ws ∧ wval ws = dv ((toL s).take j) ∧ ((toL s).take j).all isDig = true))
    case atStart => exact ⟨0, [], rfl, Nat.zero_le _, rfl, World.ownsRow_nil _ _ _ _, Below.refl _ _, Nat.le_refl _, (fun _ h => by cases h), rfl, rfl⟩
    case round =>
      obtain ⟨j, ws, hgk, hj, rfl, hown, hbel, hws⟩ := hrel
      have HGK := Lib.hid hgk; clear hgk
      by_cases hlt : j < s.size
      · by_cases hdig : 48 ≤ s[j].toNat ∧ s[j].toNat ≤ 57
        · obtain ⟨hd1, hd2⟩ := hdig
          have hd3 : (48 : Int) ≤ (s[j].toNat : Int) := by omega
          have hd4 : (s[j].toNat : Int) ≤ 57 := by omega
          obtain ⟨A, c, hv, hcc⟩ := own_slice hown.out
          subst hv
          have HCC := Lib.hid hcc; clear hcc
          have hnj : ws.length ≤ 2000 := by have h1 := hws.out.1; have h2 := HSZ.out; omega
          generalize hn : ws.length = n at *
          have HN := Lib.hid hn; clear hn
          go_wp2_with fail
          go_loopg [45, 6] n (fun k q cy wi => ∃ (p e : Nat) (zs : List Nat), k = n - p ∧ p ≤ n ∧ e ≤ 9 ∧ q = .int .i64 p ∧ cy = .int .u64 e ∧ Hid (wi.ownsRow w.heap.size 61 1 (.slice A n c) n (wcells zs).toList) ∧ Hid (Below w.heap.size w wi) ∧ Hid (zs.length = n ∧ Wok zs ∧ zs.drop p = ws.drop p ∧ wval (zs.take p) + 4294967296 ^ p * e = 10 * wval (ws.take p) + (s[j].toNat - 48)))
          case atStart => exact ⟨0, s[j].toNat - 48, ws, rfl, Nat.zero_le _, by omega, rfl, ret64 (by omega), hown.out, hbel.out, HN.out, hws.out.2.1, rfl, by have e0 : wval [] = 0 := rfl; show wval [] + _ = 10 * wval [] + _; rw [e0, Nat.pow_zero]; omega⟩
          case round =>
            obtain ⟨p, e, zs, hgk2, hp, he, rfl, rfl, hown2, hbel2, hzs⟩ := hrel
            have HGK2 := Lib.hid hgk2; clear hgk2
            by_cases hlt2 : p < n
            · obtain ⟨x, hx⟩ := get_of_lt hzs.out.1.symm hlt2
              obtain ⟨g, cap, hA, _, _⟩ := hown2.out.form (by omega)
              have hA' : A = some ⟨g, 0, none⟩ := by injection hA
              subst hA'
              have c0 := hown2.out.cells (g := g) rfl p (.int .u32 x) (by rw [Array.getElem?_toList]; exact wcells_get hx)
              rw [Addr.add_lit, Nat.zero_add] at c0
              have f0 := hown2.out.frozenAt p
              have hxlt := hzs.out.2.1.get hx
              have HX := Lib.hid hx; clear hx hA
              clear hd1 hd2 hd3 hd4 hj
              go_wp2_with fail
              have e1 : ((e : Int) + 10 * (x : Int)) % 4294967296 = (((e + 10 * x) % 4294967296 : Nat) : Int) := by omega
              have e2 : ((e : Int) + 10 * (x : Int)) / 4294967296 = (((e + 10 * x) / 4294967296 : Nat) : Int) := by omega
              go_roundg (n - (p + 1))
              case measure => rw [HGK2.out]; omega
              case rel =>
                have hst := hown2.out.stored p (.int .u32 (((e + 10 * x) % 4294967296 : Nat) : Int))
                refine ⟨p + 1, (e + 10 * x) / 4294967296, zs.set p ((e + 10 * x) % 4294967296), rfl, by omega, by omega, by go_num, ret64 e2, ?_, hbel2.out.grown hst.2 hbel2.out.size (fun k hk => (hown2.out.lt k hk).1), ?_⟩
                · rw [e1]
                  rw [← wcells_set, Array.toList_setIfInBounds]
                  exact hst.1
                · refine ⟨by rw [List.length_set]; exact hzs.out.1, hzs.out.2.1.set _ (by omega), ?_, ?_⟩
                  · rw [List.drop_set_of_lt (by omega)]
                    have := congrArg (List.drop 1) hzs.out.2.2.1
                    rwa [List.drop_drop, List.drop_drop] at this
                  · have hx2 : ws[p]? = some x := by
                      have h1 := congrArg (fun l => l[0]?) hzs.out.2.2.1
                      simp only [List.getElem?_drop, Nat.add_zero] at h1
                      rw [← h1]; exact HX.out
                    have h2 : ((zs.set p ((e + 10 * x) % 4294967296)))[p]? = some ((e + 10 * x) % 4294967296) := List.getElem?_set_self (by rw [hzs.out.1]; omega)
                    rw [Nat.pow_succ]
                    refine read_step hzs.out.2.2.2 ?_ (wval_take_succ hx2) (show e + 10 * x = (e + 10 * x) % 4294967296 + 4294967296 * ((e + 10 * x) / 4294967296) by omega)
                    rw [wval_take_succ h2, List.take_set_of_le (Nat.le_refl _)]
            · obtain rfl : p = n := by omega
              have hfin := hzs.out.2.2.2
              rw [List.take_of_length_le (by rw [hzs.out.1]; exact Nat.le_refl _), List.take_of_length_le (by rw [HN.out]; exact Nat.le_refl _)] at hfin
              have htk := take_snoc s j hlt
              have hdv : dv ((toL s).take (j + 1)) = dv ((toL s).take j) * 10 + (s[j].toNat - 48) := by rw [htk, dv_snoc]
              have hall : ((toL s).take (j + 1)).all isDig = true := by
                rw [htk, List.all_append, hws.out.2.2.2]
                simp [isDig, hd1, hd2]
              have HF := Lib.hid (And.intro hfin (And.intro hdv hall))
              have hpj : p ≤ j := hws.out.1
              have HPJ := Lib.hid hpj
              clear hfin htk hdv hall hpj hlt2 hp hd1 hd2 hd3 hd4
              by_cases he0 : e = 0
              · subst he0
                clear he
                go_wp2_with fail
                go_roundg (s.size - (j + 1))
                case measure => rw [HGK.out]; omega
                case rel =>
                  refine ⟨j + 1, zs, rfl, by omega, by go_num, by rw [hzs.out.1]; exact hown2.out, hbel2.out, by rw [hzs.out.1]; exact Nat.le_trans HPJ.out (Nat.le_succ _), hzs.out.2.1, ?_, HF.out.2.2⟩
                  have := HF.out.1
                  rw [HF.out.2.1, ← hws.out.2.2.1]; omega
              · have he1 : (0 : Int) < (e : Int) := by omega
                clear he0
                have hsz : w.heap.size ≤ wr.heap.size := hbel2.out.size
                go_wp2_with (at_builtin; (refine wpList_append_any _ rfl (.tmp 66) (.tmp 69) _ rfl w.heap.size 61 i0 _ 1 4 Tryd.underlying59 hi0 hz0 hz1 hz2 rfl (by omega) _ p (wcells zs).toList rfl (hown2.out.alloc _) _ (some ⟨wr.heap.size, 0, none⟩) 1 1 [.int .u32 (e : Int)] rfl (Blk.reads (t := 61) (cs := #[.int .u32 (e : Int)]) (Blk.new _ _ _) rfl rfl) (by simp [Value.oneCell']) (by unfold maxLen; omega) (by omega) (by simp; omega) ?_; intro v2 w2 hown3 hg3 hat3))
                go_roundg (s.size - (j + 1))
                case measure => rw [HGK.out]; omega
                case rel =>
                  refine ⟨j + 1, zs ++ [e], rfl, by omega, by go_num, ?_, (hbel2.out.alloc hsz _).grown hg3 (by simp; omega) (fun k hk => (hown2.out.lt k hk).1), ?_, hzs.out.2.1.append (fun y hy => by simp at hy; omega), ?_, HF.out.2.2⟩
                  · have h1 : (wcells (zs ++ [e])).toList = (wcells zs).toList ++ [.int .u32 (e : Int)] := by simp [wcells]
                    rw [h1, List.length_append, hzs.out.1]; exact hown3
                  · rw [List.length_append, hzs.out.1]; exact Nat.succ_le_succ HPJ.out
                  · have := HF.out.1
                    rw [wval_snoc, hzs.out.1, HF.out.2.1, ← hws.out.2.2.1]; omega
        · have hd : ((s[j].toNat : Int) < 48) ∨ (48 : Int) ≤ (s[j].toNat : Int) ∧ (57 : Int) < (s[j].toNat : Int) := by omega
          have HV := Lib.hid (readE_bad (l := toL s) HSYN.out.1 (List.mem_of_getElem? (toL_get s j hlt)) (by unfold isDig; exact decide_eq_false hdig))
          clear hdig
          rcases hd with hd | ⟨hd, hd'⟩
          all_goals go_wp2_with fail
          all_goals go_ret2
          all_goals exact ⟨by unfold readV; rw [HV.out.1, HV.out.2]; rfl, hbel.out⟩
      · obtain rfl : j = s.size := by omega
        obtain ⟨A, c, hv, hcc⟩ := own_slice hown.out
        subst hv
        clear hcc hlt
        have htk : (toL s).take s.size = toL s := List.take_length
        have HW := Lib.hid (hws.out.2.2.1.trans (congrArg dv htk))
        have hall : (toL s).all isDig = true := by have := hws.out.2.2.2; rwa [htk] at this
        have HV := Lib.hid (readE_ok HSYN.out.1 HSYN.out.2 hall)
        have hnj : ws.length ≤ 2000 := by have h1 := hws.out.1; have h2 := HSZ.out; omega
        clear htk hall
        have hat : WAt wr wr.heap.size A ws := by
          intro i x hx
          obtain ⟨g, cap, hA, _, hlt⟩ := hown.out.form (by have := (List.getElem?_eq_some_iff.1 hx).1; omega)
          have hA' : A = some ⟨g, 0, none⟩ := by injection hA
          subst hA'
          have c0 := hown.out.cells (g := g) rfl i (.int .u32 x) (by rw [Array.getElem?_toList]; exact wcells_get hx)
          rw [Addr.add_lit, Nat.zero_add] at c0
          exact ⟨g, 0, rfl, hlt, by rw [Nat.zero_add]; exact c0⟩
        have HAT := Lib.hid hat; clear hat
        generalize hn : ws.length = n at *
        have HN := Lib.hid hn; clear hn
        go_wp2_with fail
        refine (text_any ws A n c _ HN.out.symm (by omega) hws.out.2.1 HAT.out).mono ?_
        rintro e w2 ⟨rfl, hb2⟩
        rw [HW.out]
        go_wp2_with fail
        go_ret2
        exact ⟨by unfold readV; rw [HV.out.1, HV.out.2]; rfl, below_next hbel.out hb2⟩
end Go.Proofs.YtiejgkmjaphbcaaDoor
