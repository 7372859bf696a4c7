/- Facts: Join, Meet, Minus, Apply. -/
import Derived.Test.YtnaiflokmihmeaaFacQ
import Derived.Test.YtnaiflokmihmeaaFacW
import Derived.Test.YtnaiflokmihmeaaFacX
namespace Go.Proofs.Ytnaiflokmihmeaa
open Go.RowKit
set_option linter.unusedVariables false
set_option linter.unusedSimpArgs false

theorem filtP_yes {l : List Ft} {j : Nat} {f : Ft} {p : Ft → Bool} (h : l[j]? = some f) (ho : p f = true) : (l.take (j+1)).filter p = (l.take j).filter p ++ [f] := by
  rw [List.take_add_one, h, List.filter_append]; simp [ho]
theorem filtP_no {l : List Ft} {j : Nat} {f : Ft} {p : Ft → Bool} (h : l[j]? = some f) (ho : p f = false) : (l.take (j+1)).filter p = (l.take j).filter p := by
  rw [List.take_add_one, h, List.filter_append]; simp [ho]
theorem ofL_len_le (l : List Ft) : (ofL l).length ≤ l.length := by
  have h1 : (ofL l).Nodup := (ofL_asc l).imp (fun {a b} hab e => by subst e; exact flt_irrefl a hab)
  exact h1.length_le_of_subset (fun x hx => ((ofL_mem l x).1 hx).1)
/-- the set of a set and more -/
theorem ofL_app (x c : List Ft) : ofL (ofL x ++ c) = ofL (x ++ c) := by
  refine asc_ext (ofL_asc _) (ofL_asc _) fun y => ?_
  rw [ofL_mem, ofL_mem, List.mem_append, List.mem_append, ofL_mem]
  constructor
  · rintro ⟨h | h, h2⟩
    · exact ⟨.inl h.1, h2⟩
    · exact ⟨.inr h, h2⟩
  · rintro ⟨h | h, h2⟩
    · exact ⟨.inl ⟨h, h2⟩, h2⟩
    · exact ⟨.inr h, h2⟩
set_option maxHeartbeats 2000000 in
set_option maxRecDepth 20000 in
theorem joinF_any (la lb : List Ft) (A B : Option Addr) (n m ca cb : Nat) (w : World) (hn : n = la.length) (hm : m = lb.length) (hs : n ≤ 1100000) (hs2 : m ≤ 1100000) (hA : FactsAt w w.heap.size A la) (hB : FactsAt w w.heap.size B lb) :
    Calls Try.prog 30 #[.slice A n ca, .slice B m cb] w (OfPost (la ++ lb) w) := by
  have hb0 : Below w.heap.size w (w.alloc (.cells #[.slice A n ca, .slice B m cb] 43)) := (Below.refl _ _).alloc (Nat.le_refl _) _
  have HC := Lib.hid (concatF_any la lb A B n m ca cb w.heap.size _ hn hm hs hs2 (hA.next hb0) (hB.next hb0) (Blk.new w _ _))
  have HB0 := Lib.hid hb0
  have HLE : Hid ((la ++ lb).length ≤ 2200000) := Lib.hid (by rw [List.length_append]; omega)
  clear hA hB hn hm hb0
  generalize la ++ lb = lab at *
  go_enter Try.func30, Try.ntmps30
  go_wp2_with fail
  refine HC.out.mono ?_
  rintro e w1 ⟨v, rfl, hr⟩
  obtain ⟨A6, c6, rfl, hl6, hm6, hI6⟩ := hr.facts
  have HO := Lib.hid (of_any lab A6 _ c6 w1 rfl (by have := HLE.out; omega) hI6)
  have HBE := Lib.hid (HB0.out.trans (hr.bel.mono HB0.out.size))
  clear hI6 hr HC
  unfold maxLen at hm6
  unfold OfPost at HO
  go_wp2_with fail
  refine HO.out.mono ?_
  rintro e w3 ⟨A7, c7, rfl, hl7, hm7, hI7, hb7⟩
  have HR7 := Lib.hid (And.intro hl7 (And.intro hm7 (And.intro hI7 (HBE.out.trans (hb7.mono HBE.out.size)))))
  clear hl7 hm7 hI7 hb7 HO
  generalize hL : (ofL lab).length = n9 at *
  have HL := Lib.hid hL; clear hL
  go_wp2_with fail
  go_ret
  exact ⟨_, _, by rw [HL.out]; rfl, by rw [HL.out]; exact HR7.out.1, HR7.out.2.1, HR7.out.2.2.1, HR7.out.2.2.2⟩

set_option maxHeartbeats 2000000 in
set_option maxRecDepth 20000 in
theorem meetF_any (la lb : List Ft) (A B : Option Addr) (n m ca cb : Nat) (w : World) (hn : n = la.length) (hm : m = lb.length) (hs : n ≤ 1100000) (hs2 : m ≤ 1100000) (hA : FactsAt w w.heap.size A la) (hB : FactsAt w w.heap.size B lb) :
    Calls Try.prog 32 #[.slice A n ca, .slice B m cb] w (OfPost (la.filter fun x => decide (x ∈ lb)) w) := by
  have HN := Lib.hid hn; clear hn
  have H := Lib.hid hA; clear hA
  have HH := Lib.hid (fun x W (hb : Below w.heap.size w W) => hasF_any lb B m cb x W hm (by omega) (hB.next hb))
  clear hm hB
  have hm0 : n ≤ 9223372036854775807 := by omega
  obtain ⟨pf, hpf⟩ : ∃ pf : Ft → Bool, pf = fun x => decide (x ∈ lb) := ⟨_, rfl⟩
  have HPF := Lib.hid (fun x => congrFun hpf x)
  rw [← hpf]
  clear hpf
  go_enter Try.func32, Try.ntmps32
  go_wp2_with fail
  go_loopg [5, 10] n (fun kx o i wr => ∃ j : Nat, kx = n - j ∧ j ≤ n ∧ i = .int .i64 j ∧ Hid (FRow w o ((la.take j).filter pf) wr))
  case atStart => exact ⟨0, by omega, Nat.zero_le _, rfl, FRow.nil (Below.refl _ _)⟩
  case round =>
    obtain ⟨j, hgk, hj, rfl, hrow⟩ := hrel
    have HGK := Lib.hid hgk; clear hgk
    have hlen : ((la.take j).filter pf).length ≤ j := Nat.le_trans (List.length_filter_le _ _) (by rw [List.length_take]; omega)
    by_cases hlt : j < n
    · obtain ⟨⟨fk, fa, fb⟩, hf⟩ := get_of_lt HN.out hlt
      obtain ⟨b, off, rfl, hb, h0, h1, h2⟩ := H.out.three hf
      have g0 := (hrow.out.bel.cell (p := ⟨b, off + j*3, none⟩) hb).trans h0
      have g1 := (hrow.out.bel.cell (p := ⟨b, off + j*3+1, none⟩) hb).trans h1
      have g2 := (hrow.out.bel.cell (p := ⟨b, off + j*3+2, none⟩) hb).trans h2
      dsimp only at g0 g1 g2
      have HF := Lib.hid hf; clear hf h0 h1 h2
      obtain ⟨A5, c5, rfl, hl5, hm5, hI5⟩ := hrow.out.facts
      clear hI5
      unfold maxLen at hm5
      generalize hxs : (la.take j).filter pf = xs at *
      have HXS := Lib.hid hxs; clear hxs
      generalize hn5 : xs.length = n5 at *
      have HN5 := Lib.hid hn5; clear hn5
      have HV := Lib.hid (fun W (hb : Below w.heap.size w W) => HH.out ⟨fk, fa, fb⟩ W hb)
      unfold valF at HV
      dsimp only at HV
      have HPV := Lib.hid (HPF.out ⟨fk, fa, fb⟩)
      go_wp2_with fail
      clear g0 g1 g2
      have HR1 := Lib.hid (hrow.out.next ((Below.refl _ _).alloc (Nat.le_refl _) (.cells #[.int .i64 fk, .int .i64 fa, .int .i64 fb] 45)))
      have HB1 := Lib.hid (Blk.new wr 45 #[.int .i64 fk, .int .i64 fa, .int .i64 fb])
      generalize wr.heap.size = p at *
      generalize World.alloc wr _ = w1 at *
      clear hrow
      have k0 := HB1.out.cell 0
      have k1 := HB1.out.cell 1
      have k2 := HB1.out.cell 2
      simp at k0 k1 k2
      cases hok : decide ((⟨fk, fa, fb⟩ : Ft) ∈ lb) with
      | false =>
        have HT := Lib.hid (filtP_no HF.out (p := pf) (by rw [HPV.out, hok] <;> rfl))
        rw [hok] at HV
        clear hok
        go_wp2_with fail
        refine (HV.out _ HR1.out.bel).mono ?_
        rintro e w2 ⟨rfl, hb2⟩
        have HR2 := Lib.hid (HR1.out.next hb2); clear hb2
        go_wp2_with fail
        go_roundg (n - (j + 1))
        case measure => rw [HGK.out]; omega
        case rel => exact ⟨j+1, rfl, hlt, by go_num, by rw [HT.out, HXS.out]; exact HR2.out⟩
      | true =>
        have HT := Lib.hid (filtP_yes HF.out (p := pf) (by rw [HPV.out, hok] <;> rfl))
        rw [hok] at HV
        clear hok
        go_wp2_with fail
        refine (HV.out _ HR1.out.bel).mono ?_
        rintro e w2 ⟨rfl, hb2⟩
        have HR2 := Lib.hid (HR1.out.next hb2)
        have HB2 := Lib.hid (HB1.out.belowB hb2); clear hb2 k0 k1 k2
        have k0 := HB2.out.cell 0
        have k1 := HB2.out.cell 1
        have k2 := HB2.out.cell 2
        simp at k0 k1 k2
        have hnm : n5 + 1 ≤ maxLen := by unfold maxLen; omega
        have hby : (n5 + 1) * 24 ≤ 140737488355328 := by omega
        go_wp2_with (
          at_builtin
          refine wpList_append_oneL rfl _ _ _ rfl Try.underlying43 infoFt rfl rfl (HR2.out.row HN5.out) rfl rfl rfl (one_ft ⟨_, _, _⟩) hnm hby ?_
          intro v' w3 hR3 hb3)
        have HR3 := Lib.hid (FRow.add (x := ⟨fk, fa, fb⟩) HN5.out hR3)
        go_roundg (n - (j + 1))
        case measure => rw [HGK.out]; omega
        case rel => exact ⟨j+1, rfl, hlt, by go_num, by rw [HT.out, HXS.out]; exact HR3.out⟩
    · obtain rfl : j = n := by omega
      have HT : Hid ((la.take j).filter pf = la.filter pf) := Lib.hid (by rw [HN.out, List.take_length])
      rw [HT.out] at hrow hlen
      obtain ⟨A6, c6, rfl, hl6, hm6, hI6⟩ := hrow.out.facts
      have HO := Lib.hid (of_any (la.filter pf) A6 _ c6 wr rfl (by omega) hI6)
      have HBE := Lib.hid hrow.out.bel
      clear hI6 hrow HT
      unfold maxLen at hm6
      unfold OfPost at HO
      go_wp2_with fail
      refine HO.out.mono ?_
      rintro e w3 ⟨A7, c7, rfl, hl7, hm7, hI7, hb7⟩
      have HR7 := Lib.hid (And.intro hl7 (And.intro hm7 (And.intro hI7 (HBE.out.trans (hb7.mono HBE.out.size)))))
      clear hl7 hm7 hI7 hb7 HO
      generalize hL : (ofL (la.filter pf)).length = n9 at *
      have HL := Lib.hid hL; clear hL
      go_wp2_with fail
      go_ret
      exact ⟨_, _, by rw [HL.out]; rfl, by rw [HL.out]; exact HR7.out.1, HR7.out.2.1, HR7.out.2.2.1, HR7.out.2.2.2⟩

set_option maxHeartbeats 2000000 in
set_option maxRecDepth 20000 in
theorem minusF_any (la lb : List Ft) (A B : Option Addr) (n m ca cb : Nat) (w : World) (hn : n = la.length) (hm : m = lb.length) (hs : n ≤ 1100000) (hs2 : m ≤ 1100000) (hA : FactsAt w w.heap.size A la) (hB : FactsAt w w.heap.size B lb) :
    Calls Try.prog 33 #[.slice A n ca, .slice B m cb] w (OfPost (la.filter fun x => !decide (x ∈ lb)) w) := by
  have HN := Lib.hid hn; clear hn
  have H := Lib.hid hA; clear hA
  have HH := Lib.hid (fun x W (hb : Below w.heap.size w W) => hasF_any lb B m cb x W hm (by omega) (hB.next hb))
  clear hm hB
  have hm0 : n ≤ 9223372036854775807 := by omega
  obtain ⟨pf, hpf⟩ : ∃ pf : Ft → Bool, pf = fun x => !decide (x ∈ lb) := ⟨_, rfl⟩
  have HPF := Lib.hid (fun x => congrFun hpf x)
  rw [← hpf]
  clear hpf
  go_enter Try.func33, Try.ntmps33
  go_wp2_with fail
  go_loopg [5, 10] n (fun kx o i wr => ∃ j : Nat, kx = n - j ∧ j ≤ n ∧ i = .int .i64 j ∧ Hid (FRow w o ((la.take j).filter pf) wr))
  case atStart => exact ⟨0, by omega, Nat.zero_le _, rfl, FRow.nil (Below.refl _ _)⟩
  case round =>
    obtain ⟨j, hgk, hj, rfl, hrow⟩ := hrel
    have HGK := Lib.hid hgk; clear hgk
    have hlen : ((la.take j).filter pf).length ≤ j := Nat.le_trans (List.length_filter_le _ _) (by rw [List.length_take]; omega)
    by_cases hlt : j < n
    · obtain ⟨⟨fk, fa, fb⟩, hf⟩ := get_of_lt HN.out hlt
      obtain ⟨b, off, rfl, hb, h0, h1, h2⟩ := H.out.three hf
      have g0 := (hrow.out.bel.cell (p := ⟨b, off + j*3, none⟩) hb).trans h0
      have g1 := (hrow.out.bel.cell (p := ⟨b, off + j*3+1, none⟩) hb).trans h1
      have g2 := (hrow.out.bel.cell (p := ⟨b, off + j*3+2, none⟩) hb).trans h2
      dsimp only at g0 g1 g2
      have HF := Lib.hid hf; clear hf h0 h1 h2
      obtain ⟨A5, c5, rfl, hl5, hm5, hI5⟩ := hrow.out.facts
      clear hI5
      unfold maxLen at hm5
      generalize hxs : (la.take j).filter pf = xs at *
      have HXS := Lib.hid hxs; clear hxs
      generalize hn5 : xs.length = n5 at *
      have HN5 := Lib.hid hn5; clear hn5
      have HV := Lib.hid (fun W (hb : Below w.heap.size w W) => HH.out ⟨fk, fa, fb⟩ W hb)
      unfold valF at HV
      dsimp only at HV
      have HPV := Lib.hid (HPF.out ⟨fk, fa, fb⟩)
      go_wp2_with fail
      clear g0 g1 g2
      have HR1 := Lib.hid (hrow.out.next ((Below.refl _ _).alloc (Nat.le_refl _) (.cells #[.int .i64 fk, .int .i64 fa, .int .i64 fb] 45)))
      have HB1 := Lib.hid (Blk.new wr 45 #[.int .i64 fk, .int .i64 fa, .int .i64 fb])
      generalize wr.heap.size = p at *
      generalize World.alloc wr _ = w1 at *
      clear hrow
      have k0 := HB1.out.cell 0
      have k1 := HB1.out.cell 1
      have k2 := HB1.out.cell 2
      simp at k0 k1 k2
      cases hok : decide ((⟨fk, fa, fb⟩ : Ft) ∈ lb) with
      | true =>
        have HT := Lib.hid (filtP_no HF.out (p := pf) (by rw [HPV.out, hok] <;> rfl))
        rw [hok] at HV
        clear hok
        go_wp2_with fail
        refine (HV.out _ HR1.out.bel).mono ?_
        rintro e w2 ⟨rfl, hb2⟩
        have HR2 := Lib.hid (HR1.out.next hb2); clear hb2
        go_wp2_with fail
        go_roundg (n - (j + 1))
        case measure => rw [HGK.out]; omega
        case rel => exact ⟨j+1, rfl, hlt, by go_num, by rw [HT.out, HXS.out]; exact HR2.out⟩
      | false =>
        have HT := Lib.hid (filtP_yes HF.out (p := pf) (by rw [HPV.out, hok] <;> rfl))
        rw [hok] at HV
        clear hok
        go_wp2_with fail
        refine (HV.out _ HR1.out.bel).mono ?_
        rintro e w2 ⟨rfl, hb2⟩
        have HR2 := Lib.hid (HR1.out.next hb2)
        have HB2 := Lib.hid (HB1.out.belowB hb2); clear hb2 k0 k1 k2
        have k0 := HB2.out.cell 0
        have k1 := HB2.out.cell 1
        have k2 := HB2.out.cell 2
        simp at k0 k1 k2
        have hnm : n5 + 1 ≤ maxLen := by unfold maxLen; omega
        have hby : (n5 + 1) * 24 ≤ 140737488355328 := by omega
        go_wp2_with (
          at_builtin
          refine wpList_append_oneL rfl _ _ _ rfl Try.underlying43 infoFt rfl rfl (HR2.out.row HN5.out) rfl rfl rfl (one_ft ⟨_, _, _⟩) hnm hby ?_
          intro v' w3 hR3 hb3)
        have HR3 := Lib.hid (FRow.add (x := ⟨fk, fa, fb⟩) HN5.out hR3)
        go_roundg (n - (j + 1))
        case measure => rw [HGK.out]; omega
        case rel => exact ⟨j+1, rfl, hlt, by go_num, by rw [HT.out, HXS.out]; exact HR3.out⟩
    · obtain rfl : j = n := by omega
      have HT : Hid ((la.take j).filter pf = la.filter pf) := Lib.hid (by rw [HN.out, List.take_length])
      rw [HT.out] at hrow hlen
      obtain ⟨A6, c6, rfl, hl6, hm6, hI6⟩ := hrow.out.facts
      have HO := Lib.hid (of_any (la.filter pf) A6 _ c6 wr rfl (by omega) hI6)
      have HBE := Lib.hid hrow.out.bel
      clear hI6 hrow HT
      unfold maxLen at hm6
      unfold OfPost at HO
      go_wp2_with fail
      refine HO.out.mono ?_
      rintro e w3 ⟨A7, c7, rfl, hl7, hm7, hI7, hb7⟩
      have HR7 := Lib.hid (And.intro hl7 (And.intro hm7 (And.intro hI7 (HBE.out.trans (hb7.mono HBE.out.size)))))
      clear hl7 hm7 hI7 hb7 HO
      generalize hL : (ofL (la.filter pf)).length = n9 at *
      have HL := Lib.hid hL; clear hL
      go_wp2_with fail
      go_ret
      exact ⟨_, _, by rw [HL.out]; rfl, by rw [HL.out]; exact HR7.out.1, HR7.out.2.1, HR7.out.2.2.1, HR7.out.2.2.2⟩

set_option maxHeartbeats 2000000 in
set_option maxRecDepth 20000 in
theorem applyF_any (l less more : List Ft) (A B C : Option Addr) (n m k ca cb cc : Nat) (w : World) (hn : n = l.length) (hm : m = less.length) (hk : k = more.length) (hs : n ≤ 1100000) (hs2 : m ≤ 1100000) (hs3 : k ≤ 1100000) (hA : FactsAt w w.heap.size A l) (hB : FactsAt w w.heap.size B less) (hC : FactsAt w w.heap.size C more) :
    Calls Try.prog 35 #[.slice A n ca, .slice B m cb, .slice C k cc] w (OfPost ((l.filter fun x => !decide (x ∈ less)) ++ more) w) := by
  have HM := Lib.hid (minusF_any l less A B n m ca cb w hn hm hs hs2 hA hB)
  have HL1 : Hid ((ofL (l.filter fun x => !decide (x ∈ less))).length ≤ 1100000) := Lib.hid (by
    have h1 := ofL_len_le (l.filter fun x => !decide (x ∈ less))
    have h2 := List.length_filter_le (fun x => !decide (x ∈ less)) l
    omega)
  have HC := Lib.hid hC
  have HK := Lib.hid hk
  clear hA hB hC hn hm hk
  unfold OfPost at HM
  generalize (l.filter fun x => !decide (x ∈ less)) = ls at *
  go_enter Try.func35, Try.ntmps35
  go_wp2_with fail
  refine HM.out.mono ?_
  rintro e w1 ⟨A6, c6, rfl, hl6, hm6, hI6, hb6⟩
  have HJ := Lib.hid (joinF_any (ofL ls) more A6 C _ k c6 cc w1 rfl HK.out HL1.out hs3 hI6 (HC.out.next hb6))
  have HBE := Lib.hid hb6
  clear hI6 hb6 HM
  unfold maxLen at hm6
  unfold OfPost at HJ
  rw [ofL_app] at HJ
  generalize ls ++ more = lab at *
  go_wp2_with fail
  refine HJ.out.mono ?_
  rintro e w3 ⟨A7, c7, rfl, hl7, hm7, hI7, hb7⟩
  have HR7 := Lib.hid (And.intro hl7 (And.intro hm7 (And.intro hI7 (HBE.out.trans (hb7.mono HBE.out.size)))))
  clear hl7 hm7 hI7 hb7 HJ
  generalize hL : (ofL lab).length = n9 at *
  have HL := Lib.hid hL; clear hL
  go_wp2_with fail
  go_ret
  exact ⟨_, _, by rw [HL.out]; rfl, by rw [HL.out]; exact HR7.out.1, HR7.out.2.1, HR7.out.2.2.1, HR7.out.2.2.2⟩
end Go.Proofs.Ytnaiflokmihmeaa
