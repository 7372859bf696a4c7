/- Facts: FactsClash (reference). -/
import Derived.Test.YtogjfmgecnoceaaFacB
import Derived.Test.YtogjfmgecnoceaaFacC
import Derived.Test.YtogjfmgecnoceaaFacD
import Derived.Deep.RegionHeld3
namespace Go.Proofs.Ytogjfmgecnoceaa
open Go.RowKit
set_option linter.unusedVariables false
set_option linter.unusedSimpArgs false

def clashR (f g : Ft) : Bool := if okF f = false ∨ okF g = false ∨ f = g then false else (takeL f).any (fun x => decide (x ∈ takeL g))
/-- what stays while a pair is looked for -/
structure F7 (w : World) (f g : Ft) (p : Nat) (x y : Int) (w0 w' : World) : Prop where
  two : Two2 w f g w'
  var : Blk w' p 113 #[.int .i64 x, .int .i64 y]
  bel : Below w0.heap.size w0 w'
section
variable {w w0 W W' : World} {f g : Ft} {p : Nat} {x y : Int}
theorem F7.next (h : F7 w f g p x y w0 W) (hb : Below W.heap.size W W') : F7 w f g p x y w0 W' := ⟨h.two.next hb, h.var.belowB hb, h.bel.trans (hb.mono h.bel.size)⟩
theorem F7.drew (h : F7 w f g p x y w0 W) : F7 w f g p x y w0 W.drew := ⟨⟨h.two.bel.drew, h.two.one, h.two.two⟩, h.var, h.bel.drew⟩
theorem F7.all (h : F7 w f g p x y w0 W) : W.cell? ⟨w.heap.size + 1, 0, none⟩ = some (.int .i64 g.k) ∧ W.cell? ⟨w.heap.size + 1, 1, none⟩ = some (.int .i64 g.a) ∧ W.cell? ⟨w.heap.size + 1, 2, none⟩ = some (.int .i64 g.b) ∧ W.cell? ⟨p, 0, none⟩ = some (.int .i64 x) ∧ W.cell? ⟨p, 1, none⟩ = some (.int .i64 y) ∧ F7 w f g p x y w0 W :=
  ⟨h.two.two.cell 0, h.two.two.cell 1, h.two.two.cell 2, h.var.cell 0, h.var.cell 1, h⟩
end
theorem PairsAt.drew {w : World} {B : Nat} {A : Option Addr} {ps : List (Int × Int)} (h : PairsAt w B A ps) : PairsAt w.drew B A ps := h

set_option maxHeartbeats 1000000 in
set_option maxRecDepth 20000 in
theorem factsClash_any (f g : Ft) (w : World) : Calls Try.prog 36 #[valF f, valF g] w fun e w' => e = .returned (.bool (clashR f g)) ∧ Below w.heap.size w w' := by
  have HF := Lib.hid (fun W => factis_any f W)
  have HG := Lib.hid (fun W => factis_any g W)
  have HTF := Lib.hid (fun W => takes_any f W)
  have HTG := Lib.hid (fun W => takes_any g W)
  have HL := Lib.hid (takeL_len f)
  have HLG := Lib.hid (takeL_len g)
  have HT := Lib.hid (show Two2 w f g _ from ⟨(two_boxes w f g).1, (two_boxes w f g).2.1, (two_boxes w f g).2.2⟩)
  obtain ⟨k, a, b⟩ := f
  obtain ⟨kk, aa, bb⟩ := g
  unfold valF at HF HG HTF HTG ⊢
  unfold celF at HT
  dsimp only at HF HG HT HTF HTG ⊢
  cases hf : okF ⟨k, a, b⟩ with
  | false =>
    have HV : Hid (clashR ⟨k, a, b⟩ ⟨kk, aa, bb⟩ = false) := Lib.hid (by simp [clashR, hf])
    rw [hf] at HF
    clear hf
    go_enter Try.func36, Try.ntmps36
    go_wp2_with fail
    generalize World.alloc (World.alloc w _) _ = w1 at *
    refine (HF.out w1).mono ?_
    rintro e w2 ⟨rfl, hb⟩
    have HT2 := Lib.hid (HT.out.next hb)
    go_wp2_with fail
    go_ret
    exact ⟨by rw [HV.out]; rfl, HT2.out.bel⟩
  | true =>
    cases hg : okF ⟨kk, aa, bb⟩ with
    | false =>
      have HV : Hid (clashR ⟨k, a, b⟩ ⟨kk, aa, bb⟩ = false) := Lib.hid (by simp [clashR, hg])
      rw [hf] at HF
      rw [hg] at HG
      clear hf hg
      go_enter Try.func36, Try.ntmps36
      go_wp2_with fail
      generalize World.alloc (World.alloc w _) _ = w1 at *
      refine (HF.out w1).mono ?_
      rintro e w2 ⟨rfl, hb⟩
      have HT2 := Lib.hid (HT.out.next hb)
      have k0 := HT2.out.two.cell 0
      have k1 := HT2.out.two.cell 1
      have k2 := HT2.out.two.cell 2
      simp at k0 k1 k2
      clear hb
      go_wp2_with fail
      refine (HG.out w2).mono ?_
      rintro e w3 ⟨rfl, hb⟩
      have HT3 := Lib.hid (HT2.out.next hb)
      clear k0 k1 k2
      go_wp2_with fail
      go_ret
      exact ⟨by rw [HV.out]; rfl, HT3.out.bel⟩
    | true =>
      have HV : Hid (clashR ⟨k, a, b⟩ ⟨kk, aa, bb⟩ = if k = kk ∧ a = aa ∧ b = bb then false else (takeL ⟨k, a, b⟩).any (fun x => decide (x ∈ takeL ⟨kk, aa, bb⟩))) := Lib.hid (by simp [clashR, hf, hg])
      rw [hf] at HF
      rw [hg] at HG
      clear hf hg
      have hsplit : (k = kk ∧ a = aa ∧ b = bb) ∨ (k = kk ∧ a = aa ∧ (b == bb) = false) ∨ (k = kk ∧ (a == aa) = false) ∨ (k == kk) = false := by
        simp
        omega
      obtain ⟨F, hF⟩ : ∃ F : Ft, F = ⟨k, a, b⟩ := ⟨_, rfl⟩
      obtain ⟨G, hG⟩ : ∃ G : Ft, G = ⟨kk, aa, bb⟩ := ⟨_, rfl⟩
      have HTT : Hid (Two2 w F G _) := Lib.hid (by rw [hF, hG]; exact HT.out)
      have HTG2 := Lib.hid (fun W => takes_any G W)
      have HLG2 := Lib.hid (takeL_len G)
      rw [← hG] at HV ⊢
      clear HTG HLG
      rcases hsplit with ⟨rfl, rfl, rfl⟩ | ⟨rfl, rfl, e1⟩ | ⟨rfl, e1⟩ | e1
      ·
        go_enter Try.func36, Try.ntmps36
        go_wp2_with fail
        generalize World.alloc (World.alloc w _) _ = w1 at *
        refine (HF.out w1).mono ?_
        rintro e w2 ⟨rfl, hb⟩
        have HT2 := Lib.hid (HTT.out.next hb)
        have k0 := HT2.out.two.cell 0
        have k1 := HT2.out.two.cell 1
        have k2 := HT2.out.two.cell 2
        simp [hG] at k0 k1 k2
        clear hb
        go_wp2_with fail
        refine (HG.out w2).mono ?_
        rintro e w3 ⟨rfl, hb⟩
        have HT3 := Lib.hid (HT2.out.next hb)
        clear k0 k1 k2 hb
        have k0 := HT3.out.two.cell 0
        have k1 := HT3.out.two.cell 1
        have k2 := HT3.out.two.cell 2
        have k3 := HT3.out.one.cell 0
        have k4 := HT3.out.one.cell 1
        have k5 := HT3.out.one.cell 2
        simp [hF, hG] at k0 k1 k2 k3 k4 k5
        go_wp2_with fail
        go_ret
        exact ⟨by rw [HV.out, if_pos (by simp)]; rfl, HT3.out.bel⟩
      all_goals
        have HVV := Lib.hid (HV.out.trans (if_neg (by simp at e1; omega)))
        go_enter Try.func36, Try.ntmps36
        go_wp2_with fail
        generalize World.alloc (World.alloc w _) _ = w1 at *
        refine (HF.out w1).mono ?_
        rintro e w2 ⟨rfl, hb⟩
        have HT2 := Lib.hid (HTT.out.next hb)
        have k0 := HT2.out.two.cell 0
        have k1 := HT2.out.two.cell 1
        have k2 := HT2.out.two.cell 2
        simp [hG] at k0 k1 k2
        clear hb
        go_wp2_with fail
        refine (HG.out w2).mono ?_
        rintro e w3 ⟨rfl, hb⟩
        have HT3 := Lib.hid (HT2.out.next hb)
        clear k0 k1 k2 hb
        have k0 := HT3.out.two.cell 0
        have k1 := HT3.out.two.cell 1
        have k2 := HT3.out.two.cell 2
        have k3 := HT3.out.one.cell 0
        have k4 := HT3.out.one.cell 1
        have k5 := HT3.out.one.cell 2
        simp [hF, hG] at k0 k1 k2 k3 k4 k5
        go_wp2_with fail
        refine (HTF.out w3).mono ?_
        rintro e w4 ⟨A, c, rfl, hpa, hb⟩
        have HPA := Lib.hid hpa; clear hpa
        have HT4 := Lib.hid (HT3.out.next hb)
        clear k0 k1 k2 k3 k4 k5 hb e1 hF hG
        generalize takeL _ = tl at HVV HPA HL ⊢
        generalize hln : tl.length = n at *
        have HLN := Lib.hid hln; clear hln
        have hn2 := HL.out
        go_wp2_with fail
        go_loopg [25] n (fun kx i wr => ∃ j : Nat, kx = n - j ∧ j ≤ n ∧ i = .int .i64 j ∧ Hid (Two2 w F G wr) ∧ Hid (Below w4.heap.size w4 wr) ∧ Hid (∀ i, i < j → ∀ p, tl[i]? = some p → p ∉ takeL G))
        case atStart => exact ⟨0, by omega, Nat.zero_le _, rfl, HT4.out, Below.refl _ _, Lib.hid (fun i hi => by omega)⟩
        case round =>
          obtain ⟨j, hgk, hj, rfl, htw, hbel, hall⟩ := hrel
          have HGK := Lib.hid hgk; clear hgk
          by_cases hlt : j < n
          · obtain ⟨⟨x, y⟩, hx⟩ := get_of_lt HLN.out.symm hlt
            obtain ⟨b0, off, rfl, hb0, h0, h1⟩ := HPA.out j _ hx
            have g0 := (hbel.out.cell (p := ⟨b0, off + j*2, none⟩) hb0).trans h0
            have g1 := (hbel.out.cell (p := ⟨b0, off + j*2+1, none⟩) hb0).trans h1
            dsimp only at g0 g1
            have HX := Lib.hid hx; clear hx h0 h1
            have hF7 : F7 w F G wr.heap.size x y w4 (wr.alloc (.cells #[.int .i64 x, .int .i64 y] 113)) := ⟨htw.out.next ((Below.refl _ _).alloc (Nat.le_refl _) _), Blk.new _ _ _, hbel.out.alloc hbel.out.size _⟩
            go_wp2_with fail
            have HNW : Hid (∀ r, decide ((x, y) ∈ takeL G) = r → ∀ A n c W, n = (takeL G).length → PairsAt W W.heap.size A (takeL G) → Calls Try.prog 97 #[.slice A n c, .agg #[.int .i64 x, .int .i64 y]] W fun e w' => e = .returned (.bool r) ∧ Below W.heap.size W w') := Lib.hid (by
              rintro r rfl A n c W hn hp
              exact containsP_any (takeL G) A n c x y W hn (by rw [hn]; exact Nat.le_trans HLG2.out (by decide)) hp)
            by_cases hin : decide ((x, y) ∈ takeL G) = true
            · have HC := Lib.hid (HNW.out _ hin)
              have HYES : Hid (tl.any (fun x => decide (x ∈ takeL G)) = true) := Lib.hid (List.any_eq_true.2 ⟨_, List.mem_of_getElem? HX.out, hin⟩)
              clear hin HNW
              go_region_held3 (fun w' => w'.cell? ⟨w.heap.size + 1, 0, none⟩ = some (.int .i64 G.k) ∧ w'.cell? ⟨w.heap.size + 1, 1, none⟩ = some (.int .i64 G.a) ∧ w'.cell? ⟨w.heap.size + 1, 2, none⟩ = some (.int .i64 G.b) ∧ w'.cell? ⟨wr.heap.size, 0, none⟩ = some (.int .i64 x) ∧ w'.cell? ⟨wr.heap.size, 1, none⟩ = some (.int .i64 y) ∧ F7 w F G wr.heap.size x y w4 w')
                (first | exact F7.all (by assumption) | exact F7.all (F7.drew (by assumption)))
                (first
                  | (go_at_call 96; refine (HTG2.out _).mono ?_; rintro e w5 ⟨A5, c5, rfl, hpa5, hb5⟩; have hS5 := F7.next (by first | assumption | exact F7.drew (by assumption) | (go_split_ands; assumption)) hb5)
                  | (go_at_call 97; refine (HC.out _ _ _ _ rfl (by first | exact hpa5 | exact PairsAt.drew hpa5)).mono ?_; rintro e w6 ⟨rfl, hb6⟩; have hS6 := F7.next (by first | assumption | exact F7.drew (by assumption) | (go_split_ands; assumption)) hb6))
              all_goals
                go_wp2_with fail
                go_ret
                exact ⟨by rw [HVV.out, HYES.out]; rfl, hS6.two.bel⟩
            · have hin' : decide ((x, y) ∈ takeL G) = false := by simpa using hin
              have HC := Lib.hid (HNW.out _ hin')
              have HNO : Hid (∀ p, tl[j]? = some p → p ∉ takeL G) := Lib.hid (fun p hp => by rw [HX.out] at hp; rw [← Option.some.inj hp]; simpa using hin)
              clear hin hin' HNW
              go_region_held3 (fun w' => w'.cell? ⟨w.heap.size + 1, 0, none⟩ = some (.int .i64 G.k) ∧ w'.cell? ⟨w.heap.size + 1, 1, none⟩ = some (.int .i64 G.a) ∧ w'.cell? ⟨w.heap.size + 1, 2, none⟩ = some (.int .i64 G.b) ∧ w'.cell? ⟨wr.heap.size, 0, none⟩ = some (.int .i64 x) ∧ w'.cell? ⟨wr.heap.size, 1, none⟩ = some (.int .i64 y) ∧ F7 w F G wr.heap.size x y w4 w')
                (first | exact F7.all (by assumption) | exact F7.all (F7.drew (by assumption)))
                (first
                  | (go_at_call 96; refine (HTG2.out _).mono ?_; rintro e w5 ⟨A5, c5, rfl, hpa5, hb5⟩; have hS5 := F7.next (by first | assumption | exact F7.drew (by assumption) | (go_split_ands; assumption)) hb5)
                  | (go_at_call 97; refine (HC.out _ _ _ _ rfl (by first | exact hpa5 | exact PairsAt.drew hpa5)).mono ?_; rintro e w6 ⟨rfl, hb6⟩; have hS6 := F7.next (by first | assumption | exact F7.drew (by assumption) | (go_split_ands; assumption)) hb6))
              all_goals
                go_wp2_with fail
                go_roundg (n - (j + 1))
                case measure => rw [HGK.out]; omega
                case rel => exact ⟨j+1, rfl, by omega, by go_num, hS6.two, hS6.bel, Lib.hid (forall_lt_succ hall.out HNO.out)⟩
          · obtain rfl : j = n := by omega
            have HNO : Hid (tl.any (fun x => decide (x ∈ takeL G)) = false) := Lib.hid (by
              rw [List.any_eq_false]
              intro p hp
              obtain ⟨i, hi⟩ := List.mem_iff_getElem?.1 hp
              simpa using hall.out i (by rw [← HLN.out]; exact (List.getElem?_eq_some_iff.1 hi).1) p hi)
            go_wp2_with fail
            go_ret
            exact ⟨by rw [HVV.out, HNO.out]; rfl, htw.out.bel⟩
end Go.Proofs.Ytogjfmgecnoceaa
