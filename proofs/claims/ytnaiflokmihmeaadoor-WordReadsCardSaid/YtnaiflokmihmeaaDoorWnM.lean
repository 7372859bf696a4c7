/- Walk: WordsOf (package gantref4). -/
import Derived.Test.YtnaiflokmihmeaaDoorWnK
import Derived.Test.YtnaiflokmihmeaaDoorMapM
namespace Go.Proofs.YtnaiflokmihmeaaDoor
open Go.RowKit
set_option linter.unusedVariables false
set_option linter.unusedSimpArgs false

theorem ext_nil (s : ByteArray) (i : Nat) : s.extract i i = ByteArray.empty := by
  rw [Lib.extract_eq]; simp; rfl
theorem ext_zero {s : ByteArray} {b i : Nat} (h : i ≤ b) : s.extract b i = ByteArray.empty := by
  rw [Lib.extract_eq, show i - b = 0 by omega, List.take_zero]; rfl
theorem ext_more {s : ByteArray} {b i : Nat} (h : b ≤ i) (hi : i < s.size) : s.extract b i ++ s.extract i (i + 1) = s.extract b (i + 1) := by
  rw [ByteArray.extract_append_extract]
  congr 1 <;> omega
theorem ext_size {s : ByteArray} {b i : Nat} (h : i ≤ s.size) : (s.extract b i).size = i - b := by rw [ByteArray.size_extract]; omega

theorem cls_vals (x : UInt8) : clsN x.toNat = 110 ∨ clsN x.toNat = 100 ∨ clsN x.toNat = 115 ∨ clsN x.toNat = 99 ∨ clsN x.toNat = 98 ∨ clsN x.toNat = 120 ∨ clsN x.toNat = 47 := byte_all (p := fun x => clsN x.toNat = 110 ∨ clsN x.toNat = 100 ∨ clsN x.toNat = 115 ∨ clsN x.toNat = 99 ∨ clsN x.toNat = 98 ∨ clsN x.toNat = 120 ∨ clsN x.toNat = 47) (by decide +kernel) x
abbrev MK (w : World) (b : Nat) (l : List (Int × Int)) : Prop := MapOf (fun x : Int => .int .u8 x) (fun x : Int => .int .i64 x) w b l
theorem kU8 : KLaw Tryd.prog 5 (fun x : Int => .int .u8 x) := klaw_int Tryd.underlying5
theorem zI (w : World) : (zeroValue 3).run Tryd.prog w = .ok (.int .i64 0) w := by kernel_rfl
def tabK : List (Int × Int) := aput (aput (aput [] 110 1) 100 2) 115 3
theorem tabK_get (f : Nat) : ((aget tabK (f : Int)).map fun x : Int => Value.int .i64 x).getD (.int .i64 0) = .int .i64 (kdC f : Nat) := by
  have e : tabK = [(110, 1), (100, 2), (115, 3)] := by decide
  rw [e]
  by_cases h1 : f = 110
  · subst h1; rfl
  by_cases h2 : f = 100
  · subst h2; rfl
  by_cases h3 : f = 115
  · subst h3; rfl
  · have a1 : ¬ (f : Int) = 110 := by omega
    have a2 : ¬ (f : Int) = 100 := by omega
    have a3 : ¬ (f : Int) = 115 := by omega
    simp [aget, a1, a2, a3, kdC, h1, h2, h3]
set_option maxHeartbeats 8000000 in
set_option maxRecDepth 20000 in
theorem wordsOf_any (s : ByteArray) (w : World) (hM : MaxL w) :
    Calls Tryd.prog 13 #[.string s] w (WsPost (readR s) w) := by
  rcases Nat.lt_or_ge 4096 s.size with hs | hs
  · have HR := Lib.hid (show readR s = ([], 2) by unfold readR; rw [if_pos hs])
    go_enter Tryd.func13, Tryd.ntmps13
    go_wp2_with fail
    go_ret2
    exact WsPost.err (er := 2) HR.out (Below.refl _ _)
  have hR := wF_all hs
  generalize hR0 : readR s = R at *
  have HRR := Lib.hid hR
  have HM := Lib.hid hM
  clear hR0 hR hM
  go_enter Tryd.func13, Tryd.ntmps13
  go_wp2_with fail
  go_loopg [4, 5, 6, 7] (s.size + 1) (fun kx o tx co io wr => ∃ (i b : Nat) (cm : Bool) (acc : List Wrd) (T : ByteArray), kx = s.size + 1 - i ∧ i ≤ s.size + 1 ∧ b ≤ i ∧ tx = .string T ∧ co = .bool cm ∧ io = .int .i64 i ∧ Hid (T = s.extract b i ∧ (cm = true → b = i)) ∧ Hid (WRow w o acc wr) ∧ Hid (wF s i b cm acc = R ∧ acc.length ≤ b))
  case atStart => exact ⟨0, 0, false, [], ByteArray.empty, rfl, Nat.zero_le _, Nat.le_refl _, rfl, rfl, rfl, Lib.hid ⟨(ext_nil s 0).symm, fun h => rfl⟩, WRow.nil (Below.refl _ _), Lib.hid ⟨HRR.out, Nat.zero_le _⟩⟩
  case round =>
    clear HRR
    obtain ⟨i, b, cm, acc, T, hgk, hi, hbi, rfl, rfl, rfl, htx, hrow, hst⟩ := hrel
    have HGK := Lib.hid hgk; clear hgk
    by_cases hle : i ≤ s.size
    · have hi2 : (i : Int) ≤ (s.size : Int) := by omega
      clear hi
      rcases Nat.lt_or_ge i s.size with hlt | hge
      · have HB := Lib.hid (bl_at s hlt)
        have hcc := cAt_some HB.out
        obtain ⟨c, hc⟩ : ∃ c, cAt (bl s) i = c := ⟨_, rfl⟩
        have HCL := Lib.hid (show ∀ w, Calls Tryd.prog 26 #[.int .u8 ((s[i]'hlt).toNat : Int)] w fun e w' => e = .returned (.int .u8 (c : Int)) ∧ w' = w from fun w => by have := class_any (s[i]'hlt).toNat w; rwa [← hcc, hc] at this)
        have HC := Lib.hid hc
        have HCV := Lib.hid (show c = 110 ∨ c = 100 ∨ c = 115 ∨ c = 99 ∨ c = 98 ∨ c = 120 ∨ c = 47 from by rw [← hc, hcc]; exact cls_vals _)
        clear hcc hc
        cases cm with
        | true =>
          have hbi2 : b = i := htx.out.2 rfl
          subst hbi2
          have HTE : Hid (T = s.extract (b + 1) (b + 1)) := Lib.hid (htx.out.1.trans ((ext_nil s b).trans (ext_nil s (b + 1)).symm))
          have hnx : wF s (b + 1) (b + 1) (decide ((s[b]'hlt).toNat ≠ 10)) acc = R := by rw [← hst.out.1, wF_cm hle, HB.out, Option.elim_some]
          have HAC := Lib.hid hst.out.2
          have e10 : (((s[b]'hlt).toNat : Int) == 10) = decide ((s[b]'hlt).toNat = 10) := ieq (s[b]'hlt).toNat 10
          cases h10 : decide ((s[b]'hlt).toNat = 10) with
          | true =>
            rw [h10] at e10
            rw [decide_eq_false (by rw [ne_eq, Decidable.not_not]; exact of_decide_eq_true h10)] at hnx
            have HNX := Lib.hid hnx
            clear hnx h10
            go_wp2_with (go_at_call 26; refine (HCL.out _).mono ?_; rintro e w' ⟨rfl, hw⟩; rw [hw])
            go_roundg (s.size + 1 - (b + 1))
            case measure => rw [HGK.out]; omega
            case rel => exact ⟨b + 1, b + 1, false, acc, T, rfl, by omega, by omega, rfl, by first | rfl | (rw [bne, e10]; rfl), by go_num, Lib.hid ⟨HTE.out, fun _ => rfl⟩, hrow, Lib.hid ⟨HNX.out, by have := HAC.out; omega⟩⟩
          | false =>
            rw [h10] at e10
            rw [decide_eq_true (of_decide_eq_false h10)] at hnx
            have HNX := Lib.hid hnx
            clear hnx h10
            go_wp2_with (go_at_call 26; refine (HCL.out _).mono ?_; rintro e w' ⟨rfl, hw⟩; rw [hw])
            go_roundg (s.size + 1 - (b + 1))
            case measure => rw [HGK.out]; omega
            case rel => exact ⟨b + 1, b + 1, true, acc, T, rfl, by omega, by omega, rfl, by first | rfl | (rw [bne, e10]; rfl), by go_num, Lib.hid ⟨HTE.out, fun _ => rfl⟩, hrow, Lib.hid ⟨HNX.out, by have := HAC.out; omega⟩⟩
        | false =>
          go_upto_region 14 with (go_at_call 26; refine (HCL.out _).mono ?_; rintro e w' ⟨rfl, hw⟩; rw [hw])
          rename_i K hK K2 hK2
          have KEY : Hid (∀ (x2 x3 x9 x10 x11 x15 x16 x17 x18 x19 x20 x21 x22 x23 x24 x25 x26 x27 x28 x29 x30 x31 x32 x33 x34 x35 x36 x37 x38 x39 x40 x41 x42 x43 x44 x45 x46 x47 x48 x49 x50 x51 x52 x53 x54 x55 x56 x57 x58 x59 x60 x61 x62 x63 x64 x65 x66 x67 x68 x69 x70 x71 x72 x73 x74 x75 x76 x77 x78 x79 x80 x81 x82 x83 x84 x85 x86 x87 x88 x89 x90 x91 x92 x93 x94 x95 x96 x97 x98 x99 x100 x101 x102 x103 x104 x105 x106 x107 x108 x109 x110 x111 x112 x113 x114 x115 x116 x117 x118 x119 x120 x121 x122 x123 x124 : Value) (o1 : Value) (ac1 : List Wrd) (w1 : World), WRow w o1 ac1 w1 → ac1.length ≤ i → swW (fun b' c' => wF s (i + 1) b' c' ac1) c i = R → K ⟨#[.string s, undef, x2, x3, o1, .string ⟨#[]⟩, .bool false, .int .i64 i, .int .u8 c, x9, x10, x11, .string s, .int .i64 s.size, .bool (decide ((4096 : Int) < (s.size : Int))), x15, x16, x17, x18, x19, x20, x21, x22, x23, x24, x25, x26, x27, x28, x29, x30, x31, x32, x33, x34, x35, x36, x37, x38, x39, x40, x41, x42, x43, x44, x45, x46, x47, x48, x49, x50, x51, x52, x53, x54, x55, x56, x57, x58, x59, x60, x61, x62, x63, x64, x65, x66, x67, x68, x69, x70, x71, x72, x73, x74, x75, x76, x77, x78, x79, x80, x81, x82, x83, x84, x85, x86, x87, x88, x89, x90, x91, x92, x93, x94, x95, x96, x97, x98, x99, x100, x101, x102, x103, x104, x105, x106, x107, x108, x109, x110, x111, x112, x113, x114, x115, x116, x117, x118, x119, x120, x121, x122, x123, x124, undef], []⟩ w1) := Lib.hid (by
            clear hK2 K2 hrow hst htx
            intro x2 x3 x9 x10 x11 x15 x16 x17 x18 x19 x20 x21 x22 x23 x24 x25 x26 x27 x28 x29 x30 x31 x32 x33 x34 x35 x36 x37 x38 x39 x40 x41 x42 x43 x44 x45 x46 x47 x48 x49 x50 x51 x52 x53 x54 x55 x56 x57 x58 x59 x60 x61 x62 x63 x64 x65 x66 x67 x68 x69 x70 x71 x72 x73 x74 x75 x76 x77 x78 x79 x80 x81 x82 x83 x84 x85 x86 x87 x88 x89 x90 x91 x92 x93 x94 x95 x96 x97 x98 x99 x100 x101 x102 x103 x104 x105 x106 x107 x108 x109 x110 x111 x112 x113 x114 x115 x116 x117 x118 x119 x120 x121 x122 x123 x124 o1 ac1 w1 h1 h2 h3
            have H1 := Lib.hid h1
            have H2 := Lib.hid h2
            have H3 := Lib.hid h3
            clear h1 h2 h3
            refine hK _ _ ?_
            clear hK K
            have hcv : c = 110 ∨ c = 100 ∨ c = 115 ∨ c = 99 ∨ c = 98 ∨ c = 120 ∨ c = 47 := HCV.out
            rcases hcv with rfl | rfl | rfl | rfl | rfl | rfl | rfl
            · go_wp2_with fail
              go_roundg (s.size + 1 - (i + 1))
              case measure => rw [HGK.out]; omega
              case rel => exact ⟨i + 1, i, false, ac1, s.extract i (i + 1), rfl, by omega, by omega, rfl, rfl, by go_num, Lib.hid ⟨rfl, fun h => by cases h⟩, H1, Lib.hid ⟨H3.out, by have := H2.out; omega⟩⟩
            · go_wp2_with fail
              go_roundg (s.size + 1 - (i + 1))
              case measure => rw [HGK.out]; omega
              case rel => exact ⟨i + 1, i, false, ac1, s.extract i (i + 1), rfl, by omega, by omega, rfl, rfl, by go_num, Lib.hid ⟨rfl, fun h => by cases h⟩, H1, Lib.hid ⟨H3.out, by have := H2.out; omega⟩⟩
            · go_wp2_with fail
              go_roundg (s.size + 1 - (i + 1))
              case measure => rw [HGK.out]; omega
              case rel => exact ⟨i + 1, i, false, ac1, s.extract i (i + 1), rfl, by omega, by omega, rfl, rfl, by go_num, Lib.hid ⟨rfl, fun h => by cases h⟩, H1, Lib.hid ⟨H3.out, by have := H2.out; omega⟩⟩
            · go_wp2_with fail
              go_roundg (s.size + 1 - (i + 1))
              case measure => rw [HGK.out]; omega
              case rel => exact ⟨i + 1, i + 1, true, ac1, ByteArray.empty, rfl, by omega, by omega, rfl, rfl, by go_num, Lib.hid ⟨(ext_nil s _).symm, fun _ => rfl⟩, H1, Lib.hid ⟨H3.out, by have := H2.out; omega⟩⟩
            · go_wp2_with fail
              go_roundg (s.size + 1 - (i + 1))
              case measure => rw [HGK.out]; omega
              case rel => exact ⟨i + 1, i + 1, false, ac1, ByteArray.empty, rfl, by omega, by omega, rfl, rfl, by go_num, Lib.hid ⟨(ext_nil s _).symm, fun _ => rfl⟩, H1, Lib.hid ⟨H3.out, by have := H2.out; omega⟩⟩
            · go_wp2_with fail
              go_ret2
              exact WsPost.err (er := 15) H3.out.symm (WRow.bel H1.out)
            · go_wp2_with fail
              go_ret2
              exact WsPost.err (er := 15) H3.out.symm (WRow.bel H1.out))
          clear hK
          rcases Nat.lt_or_ge b i with hlt2 | hge2
          · have hTs : T.size = i - b := by rw [htx.out.1, ext_size hle]
            have hT0 : 0 < T.size := by omega
            have e0 := emp_no hT0
            have hTi : T.size ≤ 4096 := by omega
            have hsub : ((i : Int) - (T.size : Int)) = (b : Int) := by omega
            clear hTs
            have hfx : (bl s)[b]? = some (T[0]'hT0) := by
              have h := bl_at T hT0
              rw [show bl T = ((bl s).drop b).take (i - b) by rw [htx.out.1]; exact Lib.extract_data s b i, List.getElem?_take, if_pos (by omega), List.getElem?_drop] at h
              exact h
            obtain ⟨f, hf⟩ : ∃ f, cAt (bl s) b = f := ⟨_, rfl⟩
            have HCF := Lib.hid (show ∀ w, Calls Tryd.prog 26 #[.int .u8 ((T[0]'hT0).toNat : Int)] w fun e w' => e = .returned (.int .u8 (f : Int)) ∧ w' = w from fun w => by have := class_any (T[0]'hT0).toNat w; rwa [← cAt_some hfx, hf] at this)
            have HF := Lib.hid hf
            clear hf hfx
            have hM0 : MK (wr.alloc (.map #[] 0)) wr.heap.size [] := MapOf.made wr
            obtain ⟨w2, r2, hM2, g2⟩ := hM0.update kU8 Tryd.underlying48 110 1
            obtain ⟨w3, r3, hM3, g3⟩ := hM2.update kU8 Tryd.underlying48 100 2
            obtain ⟨w4, r4, hM4, g4⟩ := hM3.update kU8 Tryd.underlying48 115 3
            have hlk := hM4.lookup kU8 Tryd.underlying48 (zI w4) (f : Int) false (v := .int .i64 (kdC f : Nat)) (tabK_get f) rfl
            simp only [Bool.false_eq_true, if_false] at hlk
            have hB4 : Below wr.heap.size wr w4 := by
              have h0 : Below wr.heap.size wr (wr.alloc (.map #[] 0)) := (Below.refl _ _).alloc (Nat.le_refl _) _
              have hk : ∀ k, some wr.heap.size = some k → wr.heap.size ≤ k := fun k e => by injection e with e; omega
              have h2 := h0.grown g2 h0.size hk
              have h3 := h2.grown g3 h2.size hk
              exact h3.grown g4 h3.size hk
            have HB4 := Lib.hid hB4
            have HR4 := Lib.hid (hrow.out.next hB4)
            have HLK := Lib.hid hlk
            clear hM0 hM2 hM3 hM4 g2 g3 g4 hB4
            have hmm := @run_makeMap Tryd.prog
            by_cases hf : f = 110
            · by_cases hc : c = 110
              · have ef110 : (((f : Nat) : Int) == 110) = true := (ieq f 110).trans (decide_eq_true hf)
                have ef100 : (((f : Nat) : Int) == 100) = false := (ieq f 100).trans (decide_eq_false (by omega))
                have ec110 : (((c : Nat) : Int) == 110) = true := (ieq c 110).trans (decide_eq_true hc)
                have ec100 : (((c : Nat) : Int) == 100) = false := (ieq c 100).trans (decide_eq_false (by omega))
                have ec47 : (((c : Nat) : Int) == 47) = false := (ieq c 47).trans (decide_eq_false (by omega))
                have HMORE : Hid (moreB (bl s) b i = true) := Lib.hid (by unfold moreB; rw [HF.out, HC.out]; rw [hf, hc]; rfl)
                have HNXT : Hid (wF s (i + 1) b false acc = R) := Lib.hid (by rw [← wF_more hle hlt2 HMORE.out]; exact hst.out.1)
                have HTX : Hid (T ++ s.extract i (i + 1) = s.extract b (i + 1)) := Lib.hid (by rw [htx.out.1]; exact ext_more (by omega) hlt)
                clear hf hc
                clear r2 r3 r4 HLK HR4 HB4
                clear hsub
                go_wp2_with ((go_at_call 26; with_reducible refine (HCF.out _).mono ?_; rintro e w' ⟨rfl, hw⟩; rw [hw]))
                go_roundg (s.size + 1 - (i + 1))
                case measure => rw [HGK.out]; omega
                case rel => exact ⟨i + 1, b, false, acc, T ++ s.extract i (i + 1), rfl, by omega, by omega, rfl, rfl, by go_num, Lib.hid ⟨HTX.out, fun h => by cases h⟩, hrow, Lib.hid ⟨HNXT.out, hst.out.2⟩⟩
              · by_cases hc2 : c = 100
                · have ef110 : (((f : Nat) : Int) == 110) = true := (ieq f 110).trans (decide_eq_true hf)
                  have ef100 : (((f : Nat) : Int) == 100) = false := (ieq f 100).trans (decide_eq_false (by omega))
                  have ec110 : (((c : Nat) : Int) == 110) = false := (ieq c 110).trans (decide_eq_false (by omega))
                  have ec100 : (((c : Nat) : Int) == 100) = true := (ieq c 100).trans (decide_eq_true hc2)
                  have ec47 : (((c : Nat) : Int) == 47) = false := (ieq c 47).trans (decide_eq_false (by omega))
                  have HN := Lib.hid (And.intro hf hc2)
                  clear hf hc hc2
                  have HMORE : Hid (moreB (bl s) b i = false) := Lib.hid (by unfold moreB; rw [HF.out, HC.out]; rw [HN.out.1, HN.out.2]; simp)
                  have hlk := HLK.out
                  have HST2 := Lib.hid (hst.out.1.symm)
                  go_upto_region 22 with ((go_at_call 26; with_reducible refine (HCF.out _).mono ?_; rintro e w' ⟨rfl, hw⟩; rw [hw]))
                  have HR5 := Lib.hid (HR4.out.next ((Below.refl _ _).alloc (Nat.le_refl _) (.cells #[.int .i64 (kdC f : Nat), .int .i64 b, .string T] 32)))
                  have HNE := Lib.hid (ownsRow_no HR4.out)
                  have HB5 := Lib.hid (Blk.new w4 32 #[.int .i64 (kdC f : Nat), .int .i64 b, .string T])
                  clear HB4 HR4 HLK hlk r2 r3 r4
                  generalize w4.heap.size = g at *
                  generalize hw5 : World.alloc w4 _ = w5 at *
                  clear hw5
                  have k0 := HB5.out.cell 0
                  have k1 := HB5.out.cell 1
                  have k2 := HB5.out.cell 2
                  simp at k0 k1 k2
                  have HWV := Lib.hid (wordValid_any (kdC f : Nat) b T w5 (by omega) (HM.out.below HR5.out.bel))
                  obtain ⟨vv, hv⟩ : ∃ vv, validB (kdC f : Nat) T = vv := ⟨_, rfl⟩
                  rw [hv] at HWV
                  have HV := Lib.hid hv
                  clear hv
                  cases vv with
                  | false =>
                    have HRB : Hid (R = ([], 2)) := Lib.hid (HST2.out.trans (wF_bad hle hlt2 HMORE.out (by rw [HF.out, ← htx.out.1]; exact HV.out)))
                    go_wp2_with (go_at_call 16; refine HWV.out.mono ?_; rintro e w6 ⟨rfl, hb6⟩; have HB6 := Lib.hid hb6; clear hb6)
                    go_ret2
                    exact WsPost.err (er := 2) HRB.out (HR5.out.bel.trans (HB6.out.mono HR5.out.bel.size))
                  | true =>
                    have HGO : Hid (swW (fun b' c' => wF s (i + 1) b' c' (acc ++ [⟨kdC f, b, T⟩])) c i = R) := Lib.hid (by
                      rw [HST2.out, wF_word hle hlt2 HMORE.out (by rw [HF.out, ← htx.out.1]; exact HV.out), wF_sw hle (Nat.lt_irrefl _), HC.out, HF.out, ← htx.out.1])
                    go_upto_region 24 with (go_at_call 16; refine HWV.out.mono ?_; rintro e w6 ⟨rfl, hb6⟩; have HB6 := Lib.hid hb6; clear hb6)
                    have HR6 := Lib.hid (HR5.out.next HB6.out)
                    have HK6 := Lib.hid (HB5.out.belowB HB6.out)
                    clear k0 k1 k2
                    have k0 := HK6.out.cell 0
                    have k1 := HK6.out.cell 1
                    have k2 := HK6.out.cell 2
                    simp at k0 k1 k2
                    obtain ⟨A5, c5, hov, hl5, hm5, hI5⟩ := HR6.out.words
                    clear hI5
                    subst hov
                    unfold maxLen at hm5
                    have hal : acc.length ≤ 4096 := by have := hst.out.2; omega
                    have HAL := Lib.hid (show (acc ++ [(⟨kdC f, b, T⟩ : Wrd)]).length ≤ i by rw [List.length_append]; have := hst.out.2; simp; omega)
                    generalize hn5 : acc.length = n5 at *
                    have HN5 := Lib.hid hn5; clear hn5
                    have hnm : n5 + 1 ≤ 4294967296 := by omega
                    go_wp2_with (
                      at_builtin
                      refine wpList_append_oneG rfl (.tmp 106) (.tmp 108) _ rfl Tryd.underlying26 infoW rfl rfl (HR6.out.row HN5.out) rfl rfl rfl (one_w ⟨kdC f, b, T⟩) hnm ?_
                      intro v' w7 hR7 hb7 hg7)
                    have HR7 := Lib.hid (WRow.add (x := ⟨kdC f, b, T⟩) HN5.out hR7)
                    apply KEY.out
                    · exact HR7.out
                    · exact HAL.out
                    · exact HGO.out
                · by_cases hc3 : c = 47
                  · have ef110 : (((f : Nat) : Int) == 110) = true := (ieq f 110).trans (decide_eq_true hf)
                    have ef100 : (((f : Nat) : Int) == 100) = false := (ieq f 100).trans (decide_eq_false (by omega))
                    have ec110 : (((c : Nat) : Int) == 110) = false := (ieq c 110).trans (decide_eq_false (by omega))
                    have ec100 : (((c : Nat) : Int) == 100) = false := (ieq c 100).trans (decide_eq_false (by omega))
                    have ec47 : (((c : Nat) : Int) == 47) = true := (ieq c 47).trans (decide_eq_true hc3)
                    have HN := Lib.hid (And.intro hf hc3)
                    clear hf hc hc2 hc3
                    have HMORE : Hid (moreB (bl s) b i = false) := Lib.hid (by unfold moreB; rw [HF.out, HC.out]; rw [HN.out.1, HN.out.2]; simp)
                    have hlk := HLK.out
                    have HST2 := Lib.hid (hst.out.1.symm)
                    go_upto_region 22 with ((go_at_call 26; with_reducible refine (HCF.out _).mono ?_; rintro e w' ⟨rfl, hw⟩; rw [hw]))
                    have HR5 := Lib.hid (HR4.out.next ((Below.refl _ _).alloc (Nat.le_refl _) (.cells #[.int .i64 (kdC f : Nat), .int .i64 b, .string T] 32)))
                    have HNE := Lib.hid (ownsRow_no HR4.out)
                    have HB5 := Lib.hid (Blk.new w4 32 #[.int .i64 (kdC f : Nat), .int .i64 b, .string T])
                    clear HB4 HR4 HLK hlk r2 r3 r4
                    generalize w4.heap.size = g at *
                    generalize hw5 : World.alloc w4 _ = w5 at *
                    clear hw5
                    have k0 := HB5.out.cell 0
                    have k1 := HB5.out.cell 1
                    have k2 := HB5.out.cell 2
                    simp at k0 k1 k2
                    have HWV := Lib.hid (wordValid_any (kdC f : Nat) b T w5 (by omega) (HM.out.below HR5.out.bel))
                    obtain ⟨vv, hv⟩ : ∃ vv, validB (kdC f : Nat) T = vv := ⟨_, rfl⟩
                    rw [hv] at HWV
                    have HV := Lib.hid hv
                    clear hv
                    cases vv with
                    | false =>
                      have HRB : Hid (R = ([], 2)) := Lib.hid (HST2.out.trans (wF_bad hle hlt2 HMORE.out (by rw [HF.out, ← htx.out.1]; exact HV.out)))
                      go_wp2_with (go_at_call 16; refine HWV.out.mono ?_; rintro e w6 ⟨rfl, hb6⟩; have HB6 := Lib.hid hb6; clear hb6)
                      go_ret2
                      exact WsPost.err (er := 2) HRB.out (HR5.out.bel.trans (HB6.out.mono HR5.out.bel.size))
                    | true =>
                      have HGO : Hid (swW (fun b' c' => wF s (i + 1) b' c' (acc ++ [⟨kdC f, b, T⟩])) c i = R) := Lib.hid (by
                        rw [HST2.out, wF_word hle hlt2 HMORE.out (by rw [HF.out, ← htx.out.1]; exact HV.out), wF_sw hle (Nat.lt_irrefl _), HC.out, HF.out, ← htx.out.1])
                      go_upto_region 24 with (go_at_call 16; refine HWV.out.mono ?_; rintro e w6 ⟨rfl, hb6⟩; have HB6 := Lib.hid hb6; clear hb6)
                      have HR6 := Lib.hid (HR5.out.next HB6.out)
                      have HK6 := Lib.hid (HB5.out.belowB HB6.out)
                      clear k0 k1 k2
                      have k0 := HK6.out.cell 0
                      have k1 := HK6.out.cell 1
                      have k2 := HK6.out.cell 2
                      simp at k0 k1 k2
                      obtain ⟨A5, c5, hov, hl5, hm5, hI5⟩ := HR6.out.words
                      clear hI5
                      subst hov
                      unfold maxLen at hm5
                      have hal : acc.length ≤ 4096 := by have := hst.out.2; omega
                      have HAL := Lib.hid (show (acc ++ [(⟨kdC f, b, T⟩ : Wrd)]).length ≤ i by rw [List.length_append]; have := hst.out.2; simp; omega)
                      generalize hn5 : acc.length = n5 at *
                      have HN5 := Lib.hid hn5; clear hn5
                      have hnm : n5 + 1 ≤ 4294967296 := by omega
                      go_wp2_with (
                        at_builtin
                        refine wpList_append_oneG rfl (.tmp 106) (.tmp 108) _ rfl Tryd.underlying26 infoW rfl rfl (HR6.out.row HN5.out) rfl rfl rfl (one_w ⟨kdC f, b, T⟩) hnm ?_
                        intro v' w7 hR7 hb7 hg7)
                      have HR7 := Lib.hid (WRow.add (x := ⟨kdC f, b, T⟩) HN5.out hR7)
                      apply KEY.out
                      · exact HR7.out
                      · exact HAL.out
                      · exact HGO.out
                  · have ef110 : (((f : Nat) : Int) == 110) = true := (ieq f 110).trans (decide_eq_true hf)
                    have ef100 : (((f : Nat) : Int) == 100) = false := (ieq f 100).trans (decide_eq_false (by omega))
                    have ec110 : (((c : Nat) : Int) == 110) = false := (ieq c 110).trans (decide_eq_false (by omega))
                    have ec100 : (((c : Nat) : Int) == 100) = false := (ieq c 100).trans (decide_eq_false (by omega))
                    have ec47 : (((c : Nat) : Int) == 47) = false := (ieq c 47).trans (decide_eq_false (by omega))
                    have HN := Lib.hid (And.intro hf hc)
                    clear hf hc hc2 hc3
                    have HMORE : Hid (moreB (bl s) b i = false) := Lib.hid (by unfold moreB; rw [HF.out, HC.out]; rw [HN.out.1]; simp [HN.out.2])
                    have hlk := HLK.out
                    have HST2 := Lib.hid (hst.out.1.symm)
                    go_upto_region 22 with ((go_at_call 26; with_reducible refine (HCF.out _).mono ?_; rintro e w' ⟨rfl, hw⟩; rw [hw]))
                    have HR5 := Lib.hid (HR4.out.next ((Below.refl _ _).alloc (Nat.le_refl _) (.cells #[.int .i64 (kdC f : Nat), .int .i64 b, .string T] 32)))
                    have HNE := Lib.hid (ownsRow_no HR4.out)
                    have HB5 := Lib.hid (Blk.new w4 32 #[.int .i64 (kdC f : Nat), .int .i64 b, .string T])
                    clear HB4 HR4 HLK hlk r2 r3 r4
                    generalize w4.heap.size = g at *
                    generalize hw5 : World.alloc w4 _ = w5 at *
                    clear hw5
                    have k0 := HB5.out.cell 0
                    have k1 := HB5.out.cell 1
                    have k2 := HB5.out.cell 2
                    simp at k0 k1 k2
                    have HWV := Lib.hid (wordValid_any (kdC f : Nat) b T w5 (by omega) (HM.out.below HR5.out.bel))
                    obtain ⟨vv, hv⟩ : ∃ vv, validB (kdC f : Nat) T = vv := ⟨_, rfl⟩
                    rw [hv] at HWV
                    have HV := Lib.hid hv
                    clear hv
                    cases vv with
                    | false =>
                      have HRB : Hid (R = ([], 2)) := Lib.hid (HST2.out.trans (wF_bad hle hlt2 HMORE.out (by rw [HF.out, ← htx.out.1]; exact HV.out)))
                      go_wp2_with (go_at_call 16; refine HWV.out.mono ?_; rintro e w6 ⟨rfl, hb6⟩; have HB6 := Lib.hid hb6; clear hb6)
                      go_ret2
                      exact WsPost.err (er := 2) HRB.out (HR5.out.bel.trans (HB6.out.mono HR5.out.bel.size))
                    | true =>
                      have HGO : Hid (swW (fun b' c' => wF s (i + 1) b' c' (acc ++ [⟨kdC f, b, T⟩])) c i = R) := Lib.hid (by
                        rw [HST2.out, wF_word hle hlt2 HMORE.out (by rw [HF.out, ← htx.out.1]; exact HV.out), wF_sw hle (Nat.lt_irrefl _), HC.out, HF.out, ← htx.out.1])
                      go_upto_region 24 with (go_at_call 16; refine HWV.out.mono ?_; rintro e w6 ⟨rfl, hb6⟩; have HB6 := Lib.hid hb6; clear hb6)
                      have HR6 := Lib.hid (HR5.out.next HB6.out)
                      have HK6 := Lib.hid (HB5.out.belowB HB6.out)
                      clear k0 k1 k2
                      have k0 := HK6.out.cell 0
                      have k1 := HK6.out.cell 1
                      have k2 := HK6.out.cell 2
                      simp at k0 k1 k2
                      obtain ⟨A5, c5, hov, hl5, hm5, hI5⟩ := HR6.out.words
                      clear hI5
                      subst hov
                      unfold maxLen at hm5
                      have hal : acc.length ≤ 4096 := by have := hst.out.2; omega
                      have HAL := Lib.hid (show (acc ++ [(⟨kdC f, b, T⟩ : Wrd)]).length ≤ i by rw [List.length_append]; have := hst.out.2; simp; omega)
                      generalize hn5 : acc.length = n5 at *
                      have HN5 := Lib.hid hn5; clear hn5
                      have hnm : n5 + 1 ≤ 4294967296 := by omega
                      go_wp2_with (
                        at_builtin
                        refine wpList_append_oneG rfl (.tmp 106) (.tmp 108) _ rfl Tryd.underlying26 infoW rfl rfl (HR6.out.row HN5.out) rfl rfl rfl (one_w ⟨kdC f, b, T⟩) hnm ?_
                        intro v' w7 hR7 hb7 hg7)
                      have HR7 := Lib.hid (WRow.add (x := ⟨kdC f, b, T⟩) HN5.out hR7)
                      apply KEY.out
                      · exact HR7.out
                      · exact HAL.out
                      · exact HGO.out
            · by_cases hf1 : f = 100
              · by_cases hc : c = 100
                · have ef110 : (((f : Nat) : Int) == 110) = false := (ieq f 110).trans (decide_eq_false (by omega))
                  have ef100 : (((f : Nat) : Int) == 100) = true := (ieq f 100).trans (decide_eq_true hf1)
                  have ec110 : (((c : Nat) : Int) == 110) = false := (ieq c 110).trans (decide_eq_false (by omega))
                  have ec100 : (((c : Nat) : Int) == 100) = true := (ieq c 100).trans (decide_eq_true hc)
                  have ec47 : (((c : Nat) : Int) == 47) = false := (ieq c 47).trans (decide_eq_false (by omega))
                  have HMORE : Hid (moreB (bl s) b i = true) := Lib.hid (by unfold moreB; rw [HF.out, HC.out]; rw [hf1, hc]; rfl)
                  have HNXT : Hid (wF s (i + 1) b false acc = R) := Lib.hid (by rw [← wF_more hle hlt2 HMORE.out]; exact hst.out.1)
                  have HTX : Hid (T ++ s.extract i (i + 1) = s.extract b (i + 1)) := Lib.hid (by rw [htx.out.1]; exact ext_more (by omega) hlt)
                  clear hf hf1 hc
                  clear r2 r3 r4 HLK HR4 HB4
                  clear hsub
                  go_wp2_with ((go_at_call 26; with_reducible refine (HCF.out _).mono ?_; rintro e w' ⟨rfl, hw⟩; rw [hw]))
                  go_roundg (s.size + 1 - (i + 1))
                  case measure => rw [HGK.out]; omega
                  case rel => exact ⟨i + 1, b, false, acc, T ++ s.extract i (i + 1), rfl, by omega, by omega, rfl, rfl, by go_num, Lib.hid ⟨HTX.out, fun h => by cases h⟩, hrow, Lib.hid ⟨HNXT.out, hst.out.2⟩⟩
                · by_cases hc2 : c = 47
                  · have ef110 : (((f : Nat) : Int) == 110) = false := (ieq f 110).trans (decide_eq_false (by omega))
                    have ef100 : (((f : Nat) : Int) == 100) = true := (ieq f 100).trans (decide_eq_true hf1)
                    have ec110 : (((c : Nat) : Int) == 110) = false := (ieq c 110).trans (decide_eq_false (by omega))
                    have ec100 : (((c : Nat) : Int) == 100) = false := (ieq c 100).trans (decide_eq_false (by omega))
                    have ec47 : (((c : Nat) : Int) == 47) = true := (ieq c 47).trans (decide_eq_true hc2)
                    obtain ⟨ct, hct⟩ : ∃ ct, ((((bl s).drop b).take (i - b)).contains 47) = ct := ⟨_, rfl⟩
                    have hct1 : decide (0 ≤ Lib.indexByte T.data.toList 47) = ct := by rw [← Lib.contains_iff_indexByte, show T.data.toList = ((bl s).drop b).take (i - b) by rw [htx.out.1]; exact Lib.extract_data s b i]; exact hct
                    have HCT : Hid (∀ w, Calls Tryd.prog 27 #[.string T, .string ⟨#[47]⟩] w fun e w' => e = .returned (.bool ct) ∧ w' = w) := Lib.hid (fun w => by have h := Tryd.strings_Contains_one T 47 w; rw [hct1] at h; exact h)
                    have HCTE := Lib.hid hct
                    clear hct hct1
                    cases ct with
                    | true =>
                      have HN := Lib.hid (And.intro hf1 hc2)
                      clear hf hf1 hc hc2
                      have HMORE : Hid (moreB (bl s) b i = false) := Lib.hid (by unfold moreB; rw [HF.out, HC.out]; rw [HN.out.1, HN.out.2, HCTE.out]; simp)
                      have hlk := HLK.out
                      have HST2 := Lib.hid (hst.out.1.symm)
                      go_upto_region 22 with (first | (go_at_call 26; with_reducible refine (HCF.out _).mono ?_; rintro e w' ⟨rfl, hw⟩; rw [hw]) | (go_at_call 27; refine (HCT.out _).mono ?_; rintro e w' ⟨rfl, hw⟩; rw [hw]))
                      have HR5 := Lib.hid (HR4.out.next ((Below.refl _ _).alloc (Nat.le_refl _) (.cells #[.int .i64 (kdC f : Nat), .int .i64 b, .string T] 32)))
                      have HNE := Lib.hid (ownsRow_no HR4.out)
                      have HB5 := Lib.hid (Blk.new w4 32 #[.int .i64 (kdC f : Nat), .int .i64 b, .string T])
                      clear HB4 HR4 HLK hlk r2 r3 r4
                      generalize w4.heap.size = g at *
                      generalize hw5 : World.alloc w4 _ = w5 at *
                      clear hw5
                      have k0 := HB5.out.cell 0
                      have k1 := HB5.out.cell 1
                      have k2 := HB5.out.cell 2
                      simp at k0 k1 k2
                      have HWV := Lib.hid (wordValid_any (kdC f : Nat) b T w5 (by omega) (HM.out.below HR5.out.bel))
                      obtain ⟨vv, hv⟩ : ∃ vv, validB (kdC f : Nat) T = vv := ⟨_, rfl⟩
                      rw [hv] at HWV
                      have HV := Lib.hid hv
                      clear hv
                      cases vv with
                      | false =>
                        have HRB : Hid (R = ([], 2)) := Lib.hid (HST2.out.trans (wF_bad hle hlt2 HMORE.out (by rw [HF.out, ← htx.out.1]; exact HV.out)))
                        go_wp2_with (go_at_call 16; refine HWV.out.mono ?_; rintro e w6 ⟨rfl, hb6⟩; have HB6 := Lib.hid hb6; clear hb6)
                        go_ret2
                        exact WsPost.err (er := 2) HRB.out (HR5.out.bel.trans (HB6.out.mono HR5.out.bel.size))
                      | true =>
                        have HGO : Hid (swW (fun b' c' => wF s (i + 1) b' c' (acc ++ [⟨kdC f, b, T⟩])) c i = R) := Lib.hid (by
                          rw [HST2.out, wF_word hle hlt2 HMORE.out (by rw [HF.out, ← htx.out.1]; exact HV.out), wF_sw hle (Nat.lt_irrefl _), HC.out, HF.out, ← htx.out.1])
                        go_upto_region 24 with (go_at_call 16; refine HWV.out.mono ?_; rintro e w6 ⟨rfl, hb6⟩; have HB6 := Lib.hid hb6; clear hb6)
                        have HR6 := Lib.hid (HR5.out.next HB6.out)
                        have HK6 := Lib.hid (HB5.out.belowB HB6.out)
                        clear k0 k1 k2
                        have k0 := HK6.out.cell 0
                        have k1 := HK6.out.cell 1
                        have k2 := HK6.out.cell 2
                        simp at k0 k1 k2
                        obtain ⟨A5, c5, hov, hl5, hm5, hI5⟩ := HR6.out.words
                        clear hI5
                        subst hov
                        unfold maxLen at hm5
                        have hal : acc.length ≤ 4096 := by have := hst.out.2; omega
                        have HAL := Lib.hid (show (acc ++ [(⟨kdC f, b, T⟩ : Wrd)]).length ≤ i by rw [List.length_append]; have := hst.out.2; simp; omega)
                        generalize hn5 : acc.length = n5 at *
                        have HN5 := Lib.hid hn5; clear hn5
                        have hnm : n5 + 1 ≤ 4294967296 := by omega
                        go_wp2_with (
                          at_builtin
                          refine wpList_append_oneG rfl (.tmp 106) (.tmp 108) _ rfl Tryd.underlying26 infoW rfl rfl (HR6.out.row HN5.out) rfl rfl rfl (one_w ⟨kdC f, b, T⟩) hnm ?_
                          intro v' w7 hR7 hb7 hg7)
                        have HR7 := Lib.hid (WRow.add (x := ⟨kdC f, b, T⟩) HN5.out hR7)
                        apply KEY.out
                        · exact HR7.out
                        · exact HAL.out
                        · exact HGO.out
                    | false =>
                      by_cases hn1 : i + 1 < s.size
                      · have hcn := cAt_some (bl_at s hn1)
                        obtain ⟨c2, hc2e⟩ : ∃ c2, cAt (bl s) (i + 1) = c2 := ⟨_, rfl⟩
                        have HCN := Lib.hid (show ∀ w, Calls Tryd.prog 26 #[.int .u8 ((s[i + 1]'hn1).toNat : Int)] w fun e w' => e = .returned (.int .u8 (c2 : Int)) ∧ w' = w from fun w => by have := class_any (s[i + 1]'hn1).toNat w; rwa [← hcn, hc2e] at this)
                        have HC2 := Lib.hid hc2e
                        clear hcn hc2e
                        by_cases hd : c2 = 100
                        · have ed : (((c2 : Nat) : Int) == 100) = true := (ieq c2 100).trans (decide_eq_true hd)
                          have HMORE : Hid (moreB (bl s) b i = true) := Lib.hid (by unfold moreB; rw [HF.out, HC.out]; rw [hf1, hc2, HCTE.out, HC2.out, hd]; rfl)
                          have HNXT : Hid (wF s (i + 1) b false acc = R) := Lib.hid (by rw [← wF_more hle hlt2 HMORE.out]; exact hst.out.1)
                          have HTX : Hid (T ++ s.extract i (i + 1) = s.extract b (i + 1)) := Lib.hid (by rw [htx.out.1]; exact ext_more (by omega) hlt)
                          clear hf hf1 hc hc2 hd
                          clear r2 r3 r4 HLK HR4 HB4
                          clear hsub
                          go_wp2_with (first | (go_at_call 26; with_reducible refine (HCF.out _).mono ?_; rintro e w' ⟨rfl, hw⟩; rw [hw]) | (go_at_call 26; with_reducible refine (HCN.out _).mono ?_; rintro e w' ⟨rfl, hw⟩; rw [hw]) | (go_at_call 27; refine (HCT.out _).mono ?_; rintro e w' ⟨rfl, hw⟩; rw [hw]))
                          go_roundg (s.size + 1 - (i + 1))
                          case measure => rw [HGK.out]; omega
                          case rel => exact ⟨i + 1, b, false, acc, T ++ s.extract i (i + 1), rfl, by omega, by omega, rfl, rfl, by go_num, Lib.hid ⟨HTX.out, fun h => by cases h⟩, hrow, Lib.hid ⟨HNXT.out, hst.out.2⟩⟩
                        · have ed : (((c2 : Nat) : Int) == 100) = false := (ieq c2 100).trans (decide_eq_false hd)
                          have HN := Lib.hid (And.intro hf1 (And.intro hc2 hd))
                          clear hf hf1 hc hc2 hd
                          have HMORE : Hid (moreB (bl s) b i = false) := Lib.hid (by unfold moreB; rw [HF.out, HC.out]; rw [HN.out.1, HN.out.2.1, HCTE.out, HC2.out]; simp [HN.out.2.2])
                          have hlk := HLK.out
                          have HST2 := Lib.hid (hst.out.1.symm)
                          go_upto_region 22 with (first | (go_at_call 26; with_reducible refine (HCF.out _).mono ?_; rintro e w' ⟨rfl, hw⟩; rw [hw]) | (go_at_call 26; with_reducible refine (HCN.out _).mono ?_; rintro e w' ⟨rfl, hw⟩; rw [hw]) | (go_at_call 27; refine (HCT.out _).mono ?_; rintro e w' ⟨rfl, hw⟩; rw [hw]))
                          have HR5 := Lib.hid (HR4.out.next ((Below.refl _ _).alloc (Nat.le_refl _) (.cells #[.int .i64 (kdC f : Nat), .int .i64 b, .string T] 32)))
                          have HNE := Lib.hid (ownsRow_no HR4.out)
                          have HB5 := Lib.hid (Blk.new w4 32 #[.int .i64 (kdC f : Nat), .int .i64 b, .string T])
                          clear HB4 HR4 HLK hlk r2 r3 r4
                          generalize w4.heap.size = g at *
                          generalize hw5 : World.alloc w4 _ = w5 at *
                          clear hw5
                          have k0 := HB5.out.cell 0
                          have k1 := HB5.out.cell 1
                          have k2 := HB5.out.cell 2
                          simp at k0 k1 k2
                          have HWV := Lib.hid (wordValid_any (kdC f : Nat) b T w5 (by omega) (HM.out.below HR5.out.bel))
                          obtain ⟨vv, hv⟩ : ∃ vv, validB (kdC f : Nat) T = vv := ⟨_, rfl⟩
                          rw [hv] at HWV
                          have HV := Lib.hid hv
                          clear hv
                          cases vv with
                          | false =>
                            have HRB : Hid (R = ([], 2)) := Lib.hid (HST2.out.trans (wF_bad hle hlt2 HMORE.out (by rw [HF.out, ← htx.out.1]; exact HV.out)))
                            go_wp2_with (go_at_call 16; refine HWV.out.mono ?_; rintro e w6 ⟨rfl, hb6⟩; have HB6 := Lib.hid hb6; clear hb6)
                            go_ret2
                            exact WsPost.err (er := 2) HRB.out (HR5.out.bel.trans (HB6.out.mono HR5.out.bel.size))
                          | true =>
                            have HGO : Hid (swW (fun b' c' => wF s (i + 1) b' c' (acc ++ [⟨kdC f, b, T⟩])) c i = R) := Lib.hid (by
                              rw [HST2.out, wF_word hle hlt2 HMORE.out (by rw [HF.out, ← htx.out.1]; exact HV.out), wF_sw hle (Nat.lt_irrefl _), HC.out, HF.out, ← htx.out.1])
                            go_upto_region 24 with (go_at_call 16; refine HWV.out.mono ?_; rintro e w6 ⟨rfl, hb6⟩; have HB6 := Lib.hid hb6; clear hb6)
                            have HR6 := Lib.hid (HR5.out.next HB6.out)
                            have HK6 := Lib.hid (HB5.out.belowB HB6.out)
                            clear k0 k1 k2
                            have k0 := HK6.out.cell 0
                            have k1 := HK6.out.cell 1
                            have k2 := HK6.out.cell 2
                            simp at k0 k1 k2
                            obtain ⟨A5, c5, hov, hl5, hm5, hI5⟩ := HR6.out.words
                            clear hI5
                            subst hov
                            unfold maxLen at hm5
                            have hal : acc.length ≤ 4096 := by have := hst.out.2; omega
                            have HAL := Lib.hid (show (acc ++ [(⟨kdC f, b, T⟩ : Wrd)]).length ≤ i by rw [List.length_append]; have := hst.out.2; simp; omega)
                            generalize hn5 : acc.length = n5 at *
                            have HN5 := Lib.hid hn5; clear hn5
                            have hnm : n5 + 1 ≤ 4294967296 := by omega
                            go_wp2_with (
                              at_builtin
                              refine wpList_append_oneG rfl (.tmp 106) (.tmp 108) _ rfl Tryd.underlying26 infoW rfl rfl (HR6.out.row HN5.out) rfl rfl rfl (one_w ⟨kdC f, b, T⟩) hnm ?_
                              intro v' w7 hR7 hb7 hg7)
                            have HR7 := Lib.hid (WRow.add (x := ⟨kdC f, b, T⟩) HN5.out hR7)
                            apply KEY.out
                            · exact HR7.out
                            · exact HAL.out
                            · exact HGO.out
                      · have HN := Lib.hid (And.intro hf1 (And.intro hc2 (cAt_none (l := bl s) (i := i + 1) (by rw [bl_len]; omega))))
                        clear hf hf1 hc hc2
                        have HMORE : Hid (moreB (bl s) b i = false) := Lib.hid (by unfold moreB; rw [HF.out, HC.out]; rw [HN.out.1, HN.out.2.1, HCTE.out, HN.out.2.2]; simp)
                        have hlk := HLK.out
                        have HST2 := Lib.hid (hst.out.1.symm)
                        go_upto_region 22 with (first | (go_at_call 26; with_reducible refine (HCF.out _).mono ?_; rintro e w' ⟨rfl, hw⟩; rw [hw]) | (go_at_call 27; refine (HCT.out _).mono ?_; rintro e w' ⟨rfl, hw⟩; rw [hw]))
                        have HR5 := Lib.hid (HR4.out.next ((Below.refl _ _).alloc (Nat.le_refl _) (.cells #[.int .i64 (kdC f : Nat), .int .i64 b, .string T] 32)))
                        have HNE := Lib.hid (ownsRow_no HR4.out)
                        have HB5 := Lib.hid (Blk.new w4 32 #[.int .i64 (kdC f : Nat), .int .i64 b, .string T])
                        clear HB4 HR4 HLK hlk r2 r3 r4
                        generalize w4.heap.size = g at *
                        generalize hw5 : World.alloc w4 _ = w5 at *
                        clear hw5
                        have k0 := HB5.out.cell 0
                        have k1 := HB5.out.cell 1
                        have k2 := HB5.out.cell 2
                        simp at k0 k1 k2
                        have HWV := Lib.hid (wordValid_any (kdC f : Nat) b T w5 (by omega) (HM.out.below HR5.out.bel))
                        obtain ⟨vv, hv⟩ : ∃ vv, validB (kdC f : Nat) T = vv := ⟨_, rfl⟩
                        rw [hv] at HWV
                        have HV := Lib.hid hv
                        clear hv
                        cases vv with
                        | false =>
                          have HRB : Hid (R = ([], 2)) := Lib.hid (HST2.out.trans (wF_bad hle hlt2 HMORE.out (by rw [HF.out, ← htx.out.1]; exact HV.out)))
                          go_wp2_with (go_at_call 16; refine HWV.out.mono ?_; rintro e w6 ⟨rfl, hb6⟩; have HB6 := Lib.hid hb6; clear hb6)
                          go_ret2
                          exact WsPost.err (er := 2) HRB.out (HR5.out.bel.trans (HB6.out.mono HR5.out.bel.size))
                        | true =>
                          have HGO : Hid (swW (fun b' c' => wF s (i + 1) b' c' (acc ++ [⟨kdC f, b, T⟩])) c i = R) := Lib.hid (by
                            rw [HST2.out, wF_word hle hlt2 HMORE.out (by rw [HF.out, ← htx.out.1]; exact HV.out), wF_sw hle (Nat.lt_irrefl _), HC.out, HF.out, ← htx.out.1])
                          go_upto_region 24 with (go_at_call 16; refine HWV.out.mono ?_; rintro e w6 ⟨rfl, hb6⟩; have HB6 := Lib.hid hb6; clear hb6)
                          have HR6 := Lib.hid (HR5.out.next HB6.out)
                          have HK6 := Lib.hid (HB5.out.belowB HB6.out)
                          clear k0 k1 k2
                          have k0 := HK6.out.cell 0
                          have k1 := HK6.out.cell 1
                          have k2 := HK6.out.cell 2
                          simp at k0 k1 k2
                          obtain ⟨A5, c5, hov, hl5, hm5, hI5⟩ := HR6.out.words
                          clear hI5
                          subst hov
                          unfold maxLen at hm5
                          have hal : acc.length ≤ 4096 := by have := hst.out.2; omega
                          have HAL := Lib.hid (show (acc ++ [(⟨kdC f, b, T⟩ : Wrd)]).length ≤ i by rw [List.length_append]; have := hst.out.2; simp; omega)
                          generalize hn5 : acc.length = n5 at *
                          have HN5 := Lib.hid hn5; clear hn5
                          have hnm : n5 + 1 ≤ 4294967296 := by omega
                          go_wp2_with (
                            at_builtin
                            refine wpList_append_oneG rfl (.tmp 106) (.tmp 108) _ rfl Tryd.underlying26 infoW rfl rfl (HR6.out.row HN5.out) rfl rfl rfl (one_w ⟨kdC f, b, T⟩) hnm ?_
                            intro v' w7 hR7 hb7 hg7)
                          have HR7 := Lib.hid (WRow.add (x := ⟨kdC f, b, T⟩) HN5.out hR7)
                          apply KEY.out
                          · exact HR7.out
                          · exact HAL.out
                          · exact HGO.out
                  · have ef110 : (((f : Nat) : Int) == 110) = false := (ieq f 110).trans (decide_eq_false (by omega))
                    have ef100 : (((f : Nat) : Int) == 100) = true := (ieq f 100).trans (decide_eq_true hf1)
                    by_cases hc3 : c = 110
                    · have ec110 : (((c : Nat) : Int) == 110) = true := (ieq c 110).trans (decide_eq_true hc3)
                      have ec100 : (((c : Nat) : Int) == 100) = false := (ieq c 100).trans (decide_eq_false (by omega))
                      have ec47 : (((c : Nat) : Int) == 47) = false := (ieq c 47).trans (decide_eq_false (by omega))
                      have HN := Lib.hid (And.intro hf1 (And.intro hc hc2))
                      clear hf hf1 hc hc2 hc3
                      have HMORE : Hid (moreB (bl s) b i = false) := Lib.hid (by unfold moreB; rw [HF.out, HC.out]; rw [HN.out.1]; simp [HN.out.2.1, HN.out.2.2])
                      have hlk := HLK.out
                      have HST2 := Lib.hid (hst.out.1.symm)
                      go_upto_region 22 with ((go_at_call 26; with_reducible refine (HCF.out _).mono ?_; rintro e w' ⟨rfl, hw⟩; rw [hw]))
                      have HR5 := Lib.hid (HR4.out.next ((Below.refl _ _).alloc (Nat.le_refl _) (.cells #[.int .i64 (kdC f : Nat), .int .i64 b, .string T] 32)))
                      have HNE := Lib.hid (ownsRow_no HR4.out)
                      have HB5 := Lib.hid (Blk.new w4 32 #[.int .i64 (kdC f : Nat), .int .i64 b, .string T])
                      clear HB4 HR4 HLK hlk r2 r3 r4
                      generalize w4.heap.size = g at *
                      generalize hw5 : World.alloc w4 _ = w5 at *
                      clear hw5
                      have k0 := HB5.out.cell 0
                      have k1 := HB5.out.cell 1
                      have k2 := HB5.out.cell 2
                      simp at k0 k1 k2
                      have HWV := Lib.hid (wordValid_any (kdC f : Nat) b T w5 (by omega) (HM.out.below HR5.out.bel))
                      obtain ⟨vv, hv⟩ : ∃ vv, validB (kdC f : Nat) T = vv := ⟨_, rfl⟩
                      rw [hv] at HWV
                      have HV := Lib.hid hv
                      clear hv
                      cases vv with
                      | false =>
                        have HRB : Hid (R = ([], 2)) := Lib.hid (HST2.out.trans (wF_bad hle hlt2 HMORE.out (by rw [HF.out, ← htx.out.1]; exact HV.out)))
                        go_wp2_with (go_at_call 16; refine HWV.out.mono ?_; rintro e w6 ⟨rfl, hb6⟩; have HB6 := Lib.hid hb6; clear hb6)
                        go_ret2
                        exact WsPost.err (er := 2) HRB.out (HR5.out.bel.trans (HB6.out.mono HR5.out.bel.size))
                      | true =>
                        have HGO : Hid (swW (fun b' c' => wF s (i + 1) b' c' (acc ++ [⟨kdC f, b, T⟩])) c i = R) := Lib.hid (by
                          rw [HST2.out, wF_word hle hlt2 HMORE.out (by rw [HF.out, ← htx.out.1]; exact HV.out), wF_sw hle (Nat.lt_irrefl _), HC.out, HF.out, ← htx.out.1])
                        go_upto_region 24 with (go_at_call 16; refine HWV.out.mono ?_; rintro e w6 ⟨rfl, hb6⟩; have HB6 := Lib.hid hb6; clear hb6)
                        have HR6 := Lib.hid (HR5.out.next HB6.out)
                        have HK6 := Lib.hid (HB5.out.belowB HB6.out)
                        clear k0 k1 k2
                        have k0 := HK6.out.cell 0
                        have k1 := HK6.out.cell 1
                        have k2 := HK6.out.cell 2
                        simp at k0 k1 k2
                        obtain ⟨A5, c5, hov, hl5, hm5, hI5⟩ := HR6.out.words
                        clear hI5
                        subst hov
                        unfold maxLen at hm5
                        have hal : acc.length ≤ 4096 := by have := hst.out.2; omega
                        have HAL := Lib.hid (show (acc ++ [(⟨kdC f, b, T⟩ : Wrd)]).length ≤ i by rw [List.length_append]; have := hst.out.2; simp; omega)
                        generalize hn5 : acc.length = n5 at *
                        have HN5 := Lib.hid hn5; clear hn5
                        have hnm : n5 + 1 ≤ 4294967296 := by omega
                        go_wp2_with (
                          at_builtin
                          refine wpList_append_oneG rfl (.tmp 106) (.tmp 108) _ rfl Tryd.underlying26 infoW rfl rfl (HR6.out.row HN5.out) rfl rfl rfl (one_w ⟨kdC f, b, T⟩) hnm ?_
                          intro v' w7 hR7 hb7 hg7)
                        have HR7 := Lib.hid (WRow.add (x := ⟨kdC f, b, T⟩) HN5.out hR7)
                        apply KEY.out
                        · exact HR7.out
                        · exact HAL.out
                        · exact HGO.out
                    · have ec110 : (((c : Nat) : Int) == 110) = false := (ieq c 110).trans (decide_eq_false (by omega))
                      have ec100 : (((c : Nat) : Int) == 100) = false := (ieq c 100).trans (decide_eq_false (by omega))
                      have ec47 : (((c : Nat) : Int) == 47) = false := (ieq c 47).trans (decide_eq_false (by omega))
                      have HN := Lib.hid (And.intro hf1 (And.intro hc hc2))
                      clear hf hf1 hc hc2 hc3
                      have HMORE : Hid (moreB (bl s) b i = false) := Lib.hid (by unfold moreB; rw [HF.out, HC.out]; rw [HN.out.1]; simp [HN.out.2.1, HN.out.2.2])
                      have hlk := HLK.out
                      have HST2 := Lib.hid (hst.out.1.symm)
                      go_upto_region 22 with ((go_at_call 26; with_reducible refine (HCF.out _).mono ?_; rintro e w' ⟨rfl, hw⟩; rw [hw]))
                      have HR5 := Lib.hid (HR4.out.next ((Below.refl _ _).alloc (Nat.le_refl _) (.cells #[.int .i64 (kdC f : Nat), .int .i64 b, .string T] 32)))
                      have HNE := Lib.hid (ownsRow_no HR4.out)
                      have HB5 := Lib.hid (Blk.new w4 32 #[.int .i64 (kdC f : Nat), .int .i64 b, .string T])
                      clear HB4 HR4 HLK hlk r2 r3 r4
                      generalize w4.heap.size = g at *
                      generalize hw5 : World.alloc w4 _ = w5 at *
                      clear hw5
                      have k0 := HB5.out.cell 0
                      have k1 := HB5.out.cell 1
                      have k2 := HB5.out.cell 2
                      simp at k0 k1 k2
                      have HWV := Lib.hid (wordValid_any (kdC f : Nat) b T w5 (by omega) (HM.out.below HR5.out.bel))
                      obtain ⟨vv, hv⟩ : ∃ vv, validB (kdC f : Nat) T = vv := ⟨_, rfl⟩
                      rw [hv] at HWV
                      have HV := Lib.hid hv
                      clear hv
                      cases vv with
                      | false =>
                        have HRB : Hid (R = ([], 2)) := Lib.hid (HST2.out.trans (wF_bad hle hlt2 HMORE.out (by rw [HF.out, ← htx.out.1]; exact HV.out)))
                        go_wp2_with (go_at_call 16; refine HWV.out.mono ?_; rintro e w6 ⟨rfl, hb6⟩; have HB6 := Lib.hid hb6; clear hb6)
                        go_ret2
                        exact WsPost.err (er := 2) HRB.out (HR5.out.bel.trans (HB6.out.mono HR5.out.bel.size))
                      | true =>
                        have HGO : Hid (swW (fun b' c' => wF s (i + 1) b' c' (acc ++ [⟨kdC f, b, T⟩])) c i = R) := Lib.hid (by
                          rw [HST2.out, wF_word hle hlt2 HMORE.out (by rw [HF.out, ← htx.out.1]; exact HV.out), wF_sw hle (Nat.lt_irrefl _), HC.out, HF.out, ← htx.out.1])
                        go_upto_region 24 with (go_at_call 16; refine HWV.out.mono ?_; rintro e w6 ⟨rfl, hb6⟩; have HB6 := Lib.hid hb6; clear hb6)
                        have HR6 := Lib.hid (HR5.out.next HB6.out)
                        have HK6 := Lib.hid (HB5.out.belowB HB6.out)
                        clear k0 k1 k2
                        have k0 := HK6.out.cell 0
                        have k1 := HK6.out.cell 1
                        have k2 := HK6.out.cell 2
                        simp at k0 k1 k2
                        obtain ⟨A5, c5, hov, hl5, hm5, hI5⟩ := HR6.out.words
                        clear hI5
                        subst hov
                        unfold maxLen at hm5
                        have hal : acc.length ≤ 4096 := by have := hst.out.2; omega
                        have HAL := Lib.hid (show (acc ++ [(⟨kdC f, b, T⟩ : Wrd)]).length ≤ i by rw [List.length_append]; have := hst.out.2; simp; omega)
                        generalize hn5 : acc.length = n5 at *
                        have HN5 := Lib.hid hn5; clear hn5
                        have hnm : n5 + 1 ≤ 4294967296 := by omega
                        go_wp2_with (
                          at_builtin
                          refine wpList_append_oneG rfl (.tmp 106) (.tmp 108) _ rfl Tryd.underlying26 infoW rfl rfl (HR6.out.row HN5.out) rfl rfl rfl (one_w ⟨kdC f, b, T⟩) hnm ?_
                          intro v' w7 hR7 hb7 hg7)
                        have HR7 := Lib.hid (WRow.add (x := ⟨kdC f, b, T⟩) HN5.out hR7)
                        apply KEY.out
                        · exact HR7.out
                        · exact HAL.out
                        · exact HGO.out
              · have HN := Lib.hid (And.intro hf hf1)
                have ef110 : (((f : Nat) : Int) == 110) = false := (ieq f 110).trans (decide_eq_false (by omega))
                have ef100 : (((f : Nat) : Int) == 100) = false := (ieq f 100).trans (decide_eq_false (by omega))
                clear hf hf1
                have HMORE : Hid (moreB (bl s) b i = false) := Lib.hid (by unfold moreB; rw [HF.out, HC.out]; simp [HN.out.1, HN.out.2])
                have hlk := HLK.out
                have HST2 := Lib.hid (hst.out.1.symm)
                go_upto_region 22 with ((go_at_call 26; with_reducible refine (HCF.out _).mono ?_; rintro e w' ⟨rfl, hw⟩; rw [hw]))
                have HR5 := Lib.hid (HR4.out.next ((Below.refl _ _).alloc (Nat.le_refl _) (.cells #[.int .i64 (kdC f : Nat), .int .i64 b, .string T] 32)))
                have HNE := Lib.hid (ownsRow_no HR4.out)
                have HB5 := Lib.hid (Blk.new w4 32 #[.int .i64 (kdC f : Nat), .int .i64 b, .string T])
                clear HB4 HR4 HLK hlk r2 r3 r4
                generalize w4.heap.size = g at *
                generalize hw5 : World.alloc w4 _ = w5 at *
                clear hw5
                have k0 := HB5.out.cell 0
                have k1 := HB5.out.cell 1
                have k2 := HB5.out.cell 2
                simp at k0 k1 k2
                have HWV := Lib.hid (wordValid_any (kdC f : Nat) b T w5 (by omega) (HM.out.below HR5.out.bel))
                obtain ⟨vv, hv⟩ : ∃ vv, validB (kdC f : Nat) T = vv := ⟨_, rfl⟩
                rw [hv] at HWV
                have HV := Lib.hid hv
                clear hv
                cases vv with
                | false =>
                  have HRB : Hid (R = ([], 2)) := Lib.hid (HST2.out.trans (wF_bad hle hlt2 HMORE.out (by rw [HF.out, ← htx.out.1]; exact HV.out)))
                  go_wp2_with (go_at_call 16; refine HWV.out.mono ?_; rintro e w6 ⟨rfl, hb6⟩; have HB6 := Lib.hid hb6; clear hb6)
                  go_ret2
                  exact WsPost.err (er := 2) HRB.out (HR5.out.bel.trans (HB6.out.mono HR5.out.bel.size))
                | true =>
                  have HGO : Hid (swW (fun b' c' => wF s (i + 1) b' c' (acc ++ [⟨kdC f, b, T⟩])) c i = R) := Lib.hid (by
                    rw [HST2.out, wF_word hle hlt2 HMORE.out (by rw [HF.out, ← htx.out.1]; exact HV.out), wF_sw hle (Nat.lt_irrefl _), HC.out, HF.out, ← htx.out.1])
                  go_upto_region 24 with (go_at_call 16; refine HWV.out.mono ?_; rintro e w6 ⟨rfl, hb6⟩; have HB6 := Lib.hid hb6; clear hb6)
                  have HR6 := Lib.hid (HR5.out.next HB6.out)
                  have HK6 := Lib.hid (HB5.out.belowB HB6.out)
                  clear k0 k1 k2
                  have k0 := HK6.out.cell 0
                  have k1 := HK6.out.cell 1
                  have k2 := HK6.out.cell 2
                  simp at k0 k1 k2
                  obtain ⟨A5, c5, hov, hl5, hm5, hI5⟩ := HR6.out.words
                  clear hI5
                  subst hov
                  unfold maxLen at hm5
                  have hal : acc.length ≤ 4096 := by have := hst.out.2; omega
                  have HAL := Lib.hid (show (acc ++ [(⟨kdC f, b, T⟩ : Wrd)]).length ≤ i by rw [List.length_append]; have := hst.out.2; simp; omega)
                  generalize hn5 : acc.length = n5 at *
                  have HN5 := Lib.hid hn5; clear hn5
                  have hnm : n5 + 1 ≤ 4294967296 := by omega
                  go_wp2_with (
                    at_builtin
                    refine wpList_append_oneG rfl (.tmp 106) (.tmp 108) _ rfl Tryd.underlying26 infoW rfl rfl (HR6.out.row HN5.out) rfl rfl rfl (one_w ⟨kdC f, b, T⟩) hnm ?_
                    intro v' w7 hR7 hb7 hg7)
                  have HR7 := Lib.hid (WRow.add (x := ⟨kdC f, b, T⟩) HN5.out hR7)
                  apply KEY.out
                  · exact HR7.out
                  · exact HAL.out
                  · exact HGO.out
          · obtain rfl : b = i := by omega
            have hT : T = ByteArray.empty := htx.out.1.trans (ext_nil s b)
            subst hT
            have HS0 := Lib.hid (show swW (fun b' c' => wF s (b + 1) b' c' acc) c b = R by rw [← hst.out.1, wF_sw hle (Nat.lt_irrefl _), HC.out])
            go_wp2_with fail
            apply KEY.out
            · exact hrow.out
            · exact hst.out.2
            · exact HS0.out
      · have HC : Hid (cAt (bl s) i = 98) := Lib.hid (cAt_none (by rw [bl_len]; exact hge))
        cases cm with
        | true =>
          have hbi2 : b = i := htx.out.2 rfl
          subst hbi2
          have HTE : Hid (T = s.extract (b + 1) (b + 1)) := Lib.hid (htx.out.1.trans ((ext_nil s b).trans (ext_nil s (b + 1)).symm))
          have HNX : Hid (wF s (b + 1) (b + 1) false acc = R) := Lib.hid (by rw [← hst.out.1, wF_cm hle, List.getElem?_eq_none (by rw [bl_len]; exact hge), Option.elim_none])
          have HAC := Lib.hid hst.out.2
          go_wp2_with fail
          go_roundg (s.size + 1 - (b + 1))
          case measure => rw [HGK.out]; omega
          case rel => exact ⟨b + 1, b + 1, false, acc, T, rfl, by omega, by omega, rfl, rfl, by go_num, Lib.hid ⟨HTE.out, fun _ => rfl⟩, hrow, Lib.hid ⟨HNX.out, by have := HAC.out; omega⟩⟩
        | false =>
          go_upto_region 14 with (fail)
          rename_i K hK K2 hK2
          have KEY : Hid (∀ (x2 x3 x9 x10 x11 x15 x16 x17 x18 x19 x20 x21 x22 x23 x24 x25 x26 x27 x28 x29 x30 x31 x32 x33 x34 x35 x36 x37 x38 x39 x40 x41 x42 x43 x44 x45 x46 x47 x48 x49 x50 x51 x52 x53 x54 x55 x56 x57 x58 x59 x60 x61 x62 x63 x64 x65 x66 x67 x68 x69 x70 x71 x72 x73 x74 x75 x76 x77 x78 x79 x80 x81 x82 x83 x84 x85 x86 x87 x88 x89 x90 x91 x92 x93 x94 x95 x96 x97 x98 x99 x100 x101 x102 x103 x104 x105 x106 x107 x108 x109 x110 x111 x112 x113 x114 x115 x116 x117 x118 x119 x120 x121 x122 x123 x124 : Value) (o1 : Value) (ac1 : List Wrd) (w1 : World), WRow w o1 ac1 w1 → ac1.length ≤ i → swW (fun b' c' => wF s (i + 1) b' c' ac1) 98 i = R → K ⟨#[.string s, undef, x2, x3, o1, .string ⟨#[]⟩, .bool false, .int .i64 i, .int .u8 98, x9, x10, x11, .string s, .int .i64 s.size, .bool (decide ((4096 : Int) < (s.size : Int))), x15, x16, x17, x18, x19, x20, x21, x22, x23, x24, x25, x26, x27, x28, x29, x30, x31, x32, x33, x34, x35, x36, x37, x38, x39, x40, x41, x42, x43, x44, x45, x46, x47, x48, x49, x50, x51, x52, x53, x54, x55, x56, x57, x58, x59, x60, x61, x62, x63, x64, x65, x66, x67, x68, x69, x70, x71, x72, x73, x74, x75, x76, x77, x78, x79, x80, x81, x82, x83, x84, x85, x86, x87, x88, x89, x90, x91, x92, x93, x94, x95, x96, x97, x98, x99, x100, x101, x102, x103, x104, x105, x106, x107, x108, x109, x110, x111, x112, x113, x114, x115, x116, x117, x118, x119, x120, x121, x122, x123, x124, undef], []⟩ w1) := Lib.hid (by
            clear hK2 K2 hrow hst htx
            intro x2 x3 x9 x10 x11 x15 x16 x17 x18 x19 x20 x21 x22 x23 x24 x25 x26 x27 x28 x29 x30 x31 x32 x33 x34 x35 x36 x37 x38 x39 x40 x41 x42 x43 x44 x45 x46 x47 x48 x49 x50 x51 x52 x53 x54 x55 x56 x57 x58 x59 x60 x61 x62 x63 x64 x65 x66 x67 x68 x69 x70 x71 x72 x73 x74 x75 x76 x77 x78 x79 x80 x81 x82 x83 x84 x85 x86 x87 x88 x89 x90 x91 x92 x93 x94 x95 x96 x97 x98 x99 x100 x101 x102 x103 x104 x105 x106 x107 x108 x109 x110 x111 x112 x113 x114 x115 x116 x117 x118 x119 x120 x121 x122 x123 x124 o1 ac1 w1 h1 h2 h3
            have H1 := Lib.hid h1
            have H2 := Lib.hid h2
            have H3 := Lib.hid h3
            clear h1 h2 h3
            refine hK _ _ ?_
            clear hK K
            go_wp2_with fail
            go_roundg (s.size + 1 - (i + 1))
            case measure => rw [HGK.out]; omega
            case rel => exact ⟨i + 1, i + 1, false, ac1, ByteArray.empty, rfl, by omega, by omega, rfl, rfl, by go_num, Lib.hid ⟨(ext_nil s _).symm, fun _ => rfl⟩, H1, Lib.hid ⟨H3.out, by have := H2.out; omega⟩⟩)
          clear hK
          rcases Nat.lt_or_ge b i with hlt2 | hge2
          · have hTs : T.size = i - b := by rw [htx.out.1, ext_size hle]
            have hT0 : 0 < T.size := by omega
            have e0 := emp_no hT0
            have hTi : T.size ≤ 4096 := by omega
            have hsub : ((i : Int) - (T.size : Int)) = (b : Int) := by omega
            clear hTs
            have hfx : (bl s)[b]? = some (T[0]'hT0) := by
              have h := bl_at T hT0
              rw [show bl T = ((bl s).drop b).take (i - b) by rw [htx.out.1]; exact Lib.extract_data s b i, List.getElem?_take, if_pos (by omega), List.getElem?_drop] at h
              exact h
            obtain ⟨f, hf⟩ : ∃ f, cAt (bl s) b = f := ⟨_, rfl⟩
            have HCF := Lib.hid (show ∀ w, Calls Tryd.prog 26 #[.int .u8 ((T[0]'hT0).toNat : Int)] w fun e w' => e = .returned (.int .u8 (f : Int)) ∧ w' = w from fun w => by have := class_any (T[0]'hT0).toNat w; rwa [← cAt_some hfx, hf] at this)
            have HF := Lib.hid hf
            clear hf hfx
            have hM0 : MK (wr.alloc (.map #[] 0)) wr.heap.size [] := MapOf.made wr
            obtain ⟨w2, r2, hM2, g2⟩ := hM0.update kU8 Tryd.underlying48 110 1
            obtain ⟨w3, r3, hM3, g3⟩ := hM2.update kU8 Tryd.underlying48 100 2
            obtain ⟨w4, r4, hM4, g4⟩ := hM3.update kU8 Tryd.underlying48 115 3
            have hlk := hM4.lookup kU8 Tryd.underlying48 (zI w4) (f : Int) false (v := .int .i64 (kdC f : Nat)) (tabK_get f) rfl
            simp only [Bool.false_eq_true, if_false] at hlk
            have hB4 : Below wr.heap.size wr w4 := by
              have h0 : Below wr.heap.size wr (wr.alloc (.map #[] 0)) := (Below.refl _ _).alloc (Nat.le_refl _) _
              have hk : ∀ k, some wr.heap.size = some k → wr.heap.size ≤ k := fun k e => by injection e with e; omega
              have h2 := h0.grown g2 h0.size hk
              have h3 := h2.grown g3 h2.size hk
              exact h3.grown g4 h3.size hk
            have HB4 := Lib.hid hB4
            have HR4 := Lib.hid (hrow.out.next hB4)
            have HLK := Lib.hid hlk
            clear hM0 hM2 hM3 hM4 g2 g3 g4 hB4
            have hmm := @run_makeMap Tryd.prog
            by_cases hf : f = 110
            · have ef110 : (((f : Nat) : Int) == 110) = true := (ieq f 110).trans (decide_eq_true hf)
              have ef100 : (((f : Nat) : Int) == 100) = false := (ieq f 100).trans (decide_eq_false (by omega))
              clear hf
              have HMORE : Hid (moreB (bl s) b i = false) := Lib.hid (by unfold moreB; rw [HF.out, HC.out]; simp)
              have hlk := HLK.out
              have HST2 := Lib.hid (hst.out.1.symm)
              go_upto_region 22 with ((go_at_call 26; with_reducible refine (HCF.out _).mono ?_; rintro e w' ⟨rfl, hw⟩; rw [hw]))
              have HR5 := Lib.hid (HR4.out.next ((Below.refl _ _).alloc (Nat.le_refl _) (.cells #[.int .i64 (kdC f : Nat), .int .i64 b, .string T] 32)))
              have HNE := Lib.hid (ownsRow_no HR4.out)
              have HB5 := Lib.hid (Blk.new w4 32 #[.int .i64 (kdC f : Nat), .int .i64 b, .string T])
              clear HB4 HR4 HLK hlk r2 r3 r4
              generalize w4.heap.size = g at *
              generalize hw5 : World.alloc w4 _ = w5 at *
              clear hw5
              have k0 := HB5.out.cell 0
              have k1 := HB5.out.cell 1
              have k2 := HB5.out.cell 2
              simp at k0 k1 k2
              have HWV := Lib.hid (wordValid_any (kdC f : Nat) b T w5 (by omega) (HM.out.below HR5.out.bel))
              obtain ⟨vv, hv⟩ : ∃ vv, validB (kdC f : Nat) T = vv := ⟨_, rfl⟩
              rw [hv] at HWV
              have HV := Lib.hid hv
              clear hv
              cases vv with
              | false =>
                have HRB : Hid (R = ([], 2)) := Lib.hid (HST2.out.trans (wF_bad hle hlt2 HMORE.out (by rw [HF.out, ← htx.out.1]; exact HV.out)))
                go_wp2_with (go_at_call 16; refine HWV.out.mono ?_; rintro e w6 ⟨rfl, hb6⟩; have HB6 := Lib.hid hb6; clear hb6)
                go_ret2
                exact WsPost.err (er := 2) HRB.out (HR5.out.bel.trans (HB6.out.mono HR5.out.bel.size))
              | true =>
                have HGO : Hid (swW (fun b' c' => wF s (i + 1) b' c' (acc ++ [⟨kdC f, b, T⟩])) 98 i = R) := Lib.hid (by
                  rw [HST2.out, wF_word hle hlt2 HMORE.out (by rw [HF.out, ← htx.out.1]; exact HV.out), wF_sw hle (Nat.lt_irrefl _), HC.out, HF.out, ← htx.out.1])
                go_upto_region 24 with (go_at_call 16; refine HWV.out.mono ?_; rintro e w6 ⟨rfl, hb6⟩; have HB6 := Lib.hid hb6; clear hb6)
                have HR6 := Lib.hid (HR5.out.next HB6.out)
                have HK6 := Lib.hid (HB5.out.belowB HB6.out)
                clear k0 k1 k2
                have k0 := HK6.out.cell 0
                have k1 := HK6.out.cell 1
                have k2 := HK6.out.cell 2
                simp at k0 k1 k2
                obtain ⟨A5, c5, hov, hl5, hm5, hI5⟩ := HR6.out.words
                clear hI5
                subst hov
                unfold maxLen at hm5
                have hal : acc.length ≤ 4096 := by have := hst.out.2; omega
                have HAL := Lib.hid (show (acc ++ [(⟨kdC f, b, T⟩ : Wrd)]).length ≤ i by rw [List.length_append]; have := hst.out.2; simp; omega)
                generalize hn5 : acc.length = n5 at *
                have HN5 := Lib.hid hn5; clear hn5
                have hnm : n5 + 1 ≤ 4294967296 := by omega
                go_wp2_with (
                  at_builtin
                  refine wpList_append_oneG rfl (.tmp 106) (.tmp 108) _ rfl Tryd.underlying26 infoW rfl rfl (HR6.out.row HN5.out) rfl rfl rfl (one_w ⟨kdC f, b, T⟩) hnm ?_
                  intro v' w7 hR7 hb7 hg7)
                have HR7 := Lib.hid (WRow.add (x := ⟨kdC f, b, T⟩) HN5.out hR7)
                apply KEY.out
                · exact HR7.out
                · exact HAL.out
                · exact HGO.out
            by_cases hf1 : f = 100
            · have ef110 : (((f : Nat) : Int) == 110) = false := (ieq f 110).trans (decide_eq_false (by omega))
              have ef100 : (((f : Nat) : Int) == 100) = true := (ieq f 100).trans (decide_eq_true hf1)
              clear hf hf1
              have HMORE : Hid (moreB (bl s) b i = false) := Lib.hid (by unfold moreB; rw [HF.out, HC.out]; simp)
              have hlk := HLK.out
              have HST2 := Lib.hid (hst.out.1.symm)
              go_upto_region 22 with ((go_at_call 26; with_reducible refine (HCF.out _).mono ?_; rintro e w' ⟨rfl, hw⟩; rw [hw]))
              have HR5 := Lib.hid (HR4.out.next ((Below.refl _ _).alloc (Nat.le_refl _) (.cells #[.int .i64 (kdC f : Nat), .int .i64 b, .string T] 32)))
              have HNE := Lib.hid (ownsRow_no HR4.out)
              have HB5 := Lib.hid (Blk.new w4 32 #[.int .i64 (kdC f : Nat), .int .i64 b, .string T])
              clear HB4 HR4 HLK hlk r2 r3 r4
              generalize w4.heap.size = g at *
              generalize hw5 : World.alloc w4 _ = w5 at *
              clear hw5
              have k0 := HB5.out.cell 0
              have k1 := HB5.out.cell 1
              have k2 := HB5.out.cell 2
              simp at k0 k1 k2
              have HWV := Lib.hid (wordValid_any (kdC f : Nat) b T w5 (by omega) (HM.out.below HR5.out.bel))
              obtain ⟨vv, hv⟩ : ∃ vv, validB (kdC f : Nat) T = vv := ⟨_, rfl⟩
              rw [hv] at HWV
              have HV := Lib.hid hv
              clear hv
              cases vv with
              | false =>
                have HRB : Hid (R = ([], 2)) := Lib.hid (HST2.out.trans (wF_bad hle hlt2 HMORE.out (by rw [HF.out, ← htx.out.1]; exact HV.out)))
                go_wp2_with (go_at_call 16; refine HWV.out.mono ?_; rintro e w6 ⟨rfl, hb6⟩; have HB6 := Lib.hid hb6; clear hb6)
                go_ret2
                exact WsPost.err (er := 2) HRB.out (HR5.out.bel.trans (HB6.out.mono HR5.out.bel.size))
              | true =>
                have HGO : Hid (swW (fun b' c' => wF s (i + 1) b' c' (acc ++ [⟨kdC f, b, T⟩])) 98 i = R) := Lib.hid (by
                  rw [HST2.out, wF_word hle hlt2 HMORE.out (by rw [HF.out, ← htx.out.1]; exact HV.out), wF_sw hle (Nat.lt_irrefl _), HC.out, HF.out, ← htx.out.1])
                go_upto_region 24 with (go_at_call 16; refine HWV.out.mono ?_; rintro e w6 ⟨rfl, hb6⟩; have HB6 := Lib.hid hb6; clear hb6)
                have HR6 := Lib.hid (HR5.out.next HB6.out)
                have HK6 := Lib.hid (HB5.out.belowB HB6.out)
                clear k0 k1 k2
                have k0 := HK6.out.cell 0
                have k1 := HK6.out.cell 1
                have k2 := HK6.out.cell 2
                simp at k0 k1 k2
                obtain ⟨A5, c5, hov, hl5, hm5, hI5⟩ := HR6.out.words
                clear hI5
                subst hov
                unfold maxLen at hm5
                have hal : acc.length ≤ 4096 := by have := hst.out.2; omega
                have HAL := Lib.hid (show (acc ++ [(⟨kdC f, b, T⟩ : Wrd)]).length ≤ i by rw [List.length_append]; have := hst.out.2; simp; omega)
                generalize hn5 : acc.length = n5 at *
                have HN5 := Lib.hid hn5; clear hn5
                have hnm : n5 + 1 ≤ 4294967296 := by omega
                go_wp2_with (
                  at_builtin
                  refine wpList_append_oneG rfl (.tmp 106) (.tmp 108) _ rfl Tryd.underlying26 infoW rfl rfl (HR6.out.row HN5.out) rfl rfl rfl (one_w ⟨kdC f, b, T⟩) hnm ?_
                  intro v' w7 hR7 hb7 hg7)
                have HR7 := Lib.hid (WRow.add (x := ⟨kdC f, b, T⟩) HN5.out hR7)
                apply KEY.out
                · exact HR7.out
                · exact HAL.out
                · exact HGO.out
            · have ef110 : (((f : Nat) : Int) == 110) = false := (ieq f 110).trans (decide_eq_false (by omega))
              have ef100 : (((f : Nat) : Int) == 100) = false := (ieq f 100).trans (decide_eq_false (by omega))
              clear hf hf1
              have HMORE : Hid (moreB (bl s) b i = false) := Lib.hid (by unfold moreB; rw [HF.out, HC.out]; simp)
              have hlk := HLK.out
              have HST2 := Lib.hid (hst.out.1.symm)
              go_upto_region 22 with ((go_at_call 26; with_reducible refine (HCF.out _).mono ?_; rintro e w' ⟨rfl, hw⟩; rw [hw]))
              have HR5 := Lib.hid (HR4.out.next ((Below.refl _ _).alloc (Nat.le_refl _) (.cells #[.int .i64 (kdC f : Nat), .int .i64 b, .string T] 32)))
              have HNE := Lib.hid (ownsRow_no HR4.out)
              have HB5 := Lib.hid (Blk.new w4 32 #[.int .i64 (kdC f : Nat), .int .i64 b, .string T])
              clear HB4 HR4 HLK hlk r2 r3 r4
              generalize w4.heap.size = g at *
              generalize hw5 : World.alloc w4 _ = w5 at *
              clear hw5
              have k0 := HB5.out.cell 0
              have k1 := HB5.out.cell 1
              have k2 := HB5.out.cell 2
              simp at k0 k1 k2
              have HWV := Lib.hid (wordValid_any (kdC f : Nat) b T w5 (by omega) (HM.out.below HR5.out.bel))
              obtain ⟨vv, hv⟩ : ∃ vv, validB (kdC f : Nat) T = vv := ⟨_, rfl⟩
              rw [hv] at HWV
              have HV := Lib.hid hv
              clear hv
              cases vv with
              | false =>
                have HRB : Hid (R = ([], 2)) := Lib.hid (HST2.out.trans (wF_bad hle hlt2 HMORE.out (by rw [HF.out, ← htx.out.1]; exact HV.out)))
                go_wp2_with (go_at_call 16; refine HWV.out.mono ?_; rintro e w6 ⟨rfl, hb6⟩; have HB6 := Lib.hid hb6; clear hb6)
                go_ret2
                exact WsPost.err (er := 2) HRB.out (HR5.out.bel.trans (HB6.out.mono HR5.out.bel.size))
              | true =>
                have HGO : Hid (swW (fun b' c' => wF s (i + 1) b' c' (acc ++ [⟨kdC f, b, T⟩])) 98 i = R) := Lib.hid (by
                  rw [HST2.out, wF_word hle hlt2 HMORE.out (by rw [HF.out, ← htx.out.1]; exact HV.out), wF_sw hle (Nat.lt_irrefl _), HC.out, HF.out, ← htx.out.1])
                go_upto_region 24 with (go_at_call 16; refine HWV.out.mono ?_; rintro e w6 ⟨rfl, hb6⟩; have HB6 := Lib.hid hb6; clear hb6)
                have HR6 := Lib.hid (HR5.out.next HB6.out)
                have HK6 := Lib.hid (HB5.out.belowB HB6.out)
                clear k0 k1 k2
                have k0 := HK6.out.cell 0
                have k1 := HK6.out.cell 1
                have k2 := HK6.out.cell 2
                simp at k0 k1 k2
                obtain ⟨A5, c5, hov, hl5, hm5, hI5⟩ := HR6.out.words
                clear hI5
                subst hov
                unfold maxLen at hm5
                have hal : acc.length ≤ 4096 := by have := hst.out.2; omega
                have HAL := Lib.hid (show (acc ++ [(⟨kdC f, b, T⟩ : Wrd)]).length ≤ i by rw [List.length_append]; have := hst.out.2; simp; omega)
                generalize hn5 : acc.length = n5 at *
                have HN5 := Lib.hid hn5; clear hn5
                have hnm : n5 + 1 ≤ 4294967296 := by omega
                go_wp2_with (
                  at_builtin
                  refine wpList_append_oneG rfl (.tmp 106) (.tmp 108) _ rfl Tryd.underlying26 infoW rfl rfl (HR6.out.row HN5.out) rfl rfl rfl (one_w ⟨kdC f, b, T⟩) hnm ?_
                  intro v' w7 hR7 hb7 hg7)
                have HR7 := Lib.hid (WRow.add (x := ⟨kdC f, b, T⟩) HN5.out hR7)
                apply KEY.out
                · exact HR7.out
                · exact HAL.out
                · exact HGO.out
          · obtain rfl : b = i := by omega
            have hT : T = ByteArray.empty := htx.out.1.trans (ext_nil s b)
            subst hT
            have HS0 := Lib.hid (show swW (fun b' c' => wF s (b + 1) b' c' acc) 98 b = R by rw [← hst.out.1, wF_sw hle (Nat.lt_irrefl _), HC.out])
            go_wp2_with fail
            apply KEY.out
            · exact hrow.out
            · exact hst.out.2
            · exact HS0.out
    · have HRE := Lib.hid (hst.out.1.symm.trans (wF_end (by omega)))
      obtain ⟨A5, c5, hov, hl5, hm5, hI5⟩ := hrow.out.words
      subst hov
      have HI := Lib.hid hI5
      clear hI5
      generalize hn5 : acc.length = n5 at *
      have HN5 := Lib.hid hn5; clear hn5
      go_wp2_with fail
      go_ret2
      rw [HRE.out]
      exact ⟨A5, c5, by rw [← HN5.out]; rfl, by rw [HN5.out]; exact hl5, hm5, HI.out, hrow.out.bel⟩
end Go.Proofs.YtnaiflokmihmeaaDoor
