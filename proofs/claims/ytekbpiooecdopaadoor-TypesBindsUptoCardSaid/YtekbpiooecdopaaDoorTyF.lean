/- types.Find (printed by tyf.py). -/
import Derived.Test.YtekbpiooecdopaaDoorTyC
import Derived.Deep.LoopGhost
import Derived.OwnWalk

namespace Go.Proofs.YtekbpiooecdopaaDoor
open Go.RowKit
set_option linter.unusedVariables false
set_option linter.unusedSimpArgs false

def findR (L0 L2 L3 L4 : List ByteArray) (s : ByteArray) : Int × Int := if 0 ≤ ixS s L0 then (1, ixS s L0) else if 0 ≤ ixS s L2 then (2, ixS s L2) else if 0 ≤ ixS s L3 then (3, ixS s L3) else if 0 ≤ ixS s L4 then (4, ixS s L4) else (0, -1)
set_option maxHeartbeats 8000000 in
set_option maxRecDepth 20000 in
theorem find_any {k : Wk} {n0 n2 n3 n4 : Nat} {s : ByteArray} {r : Int × Int} (w : World) (hk : WkIn w k n0 n2 n3 n4) (hr : findR k.L0 k.L2 k.L3 k.L4 s = r) :
    Calls Tryd.prog 4 #[.agg (wkC k n0 n2 n3 n4), .string s] w fun e w' => e = .returned (.tuple #[.int .i64 r.1, .int .i64 r.2]) ∧ Below w.heap.size w w' := by
  have HK := Lib.hid hk; clear hk
  have HR := Lib.hid hr; clear hr
  have HS0 : Hid (St w [] w) := Lib.hid St.start
  go_enter Tryd.func4, Tryd.ntmps4
  go_upto_region 0 with (fail)
  refine rgT [] HS0.out ?_
  refine bX (wkC k n0 n2 n3 n4) ?_
  intro b2 _ _ hb2
  refine nZ ?_
  iterate 2 refine pU ?_
  refine Seq.done fun w0 hws => ?_
  have HS := Lib.hid (hws.q1 (p := b2))
  clear hws HS0
  go_upto_region 1 with (fail)
  refine rgT [] HS.out ?_
  refine pU ?_
  refine Seq.loadCell rfl rfl rfl rfl (by repeat (first | exact mC | apply mT)) (v := .slice k.A0 n0 k.c0) rfl (by kernel_rfl) rfl (nZ ?_)
  iterate 2 refine pU ?_
  refine Seq.done fun w1 hws => ?_
  have HS1 := Lib.hid hws.st
  clear hws HS
  go_wp2_with fail
  go_loopg [17] n0 (fun kx s17 wr => ∃ i : Nat, kx = n0 - i ∧ s17 = .int .i64 (i : Int) ∧ i ≤ n0 ∧ Hid (∀ j < i, ∀ y, k.L0[j]? = some y → eqS s y = false) ∧ Hid (St w [(b2, 30, wkC k n0 n2 n3 n4)] wr))
  case atStart => exact ⟨0, rfl, rfl, Nat.zero_le _, Lib.hid forall_lt0, HS1⟩
  case round =>
    clear HS1
    obtain ⟨i, hgk, rfl, hile, HNO, HSR⟩ := hrel
    have HGK := Lib.hid hgk; clear hgk
    by_cases hin : i < n0
    · have hi2 : n0 ≤ 524288 := HK.out.e0.2
      have hwi : IntKind.i64.wrap ((i : Int) + 1) = (i : Int) + 1 := IntWalk.i64_in _ (by omega)
      have hil : i < k.L0.length := by rw [HK.out.e0.1]; exact hin
      obtain ⟨x, hx⟩ : ∃ x, k.L0[i]? = some x := ⟨_, List.getElem?_eq_getElem hil⟩
      obtain ⟨g, f, hA, hg, hF, hO, h0, hc⟩ := HK.out.h0 i x hx
      obtain ⟨F, hFF⟩ : ∃ F, (k.F0 i).toArray = F := ⟨_, rfl⟩
      have HIX : Hid (∀ w, (Instr.indexAt 22 (.slice k.A0 n0 k.c0) (.int .i64 (i : Int))).run Tryd.prog w = .ok (.pointer (some ⟨g, f + i * 12, none⟩)) w) := Lib.hid (fun w => by rw [hA]; exact run_indexT (by kernel_rfl) hin w)
      have HLD : Hid (∀ w', Below w.heap.size w w' → (loadVar 51 ⟨g, f + i * 12, none⟩).run Tryd.prog w' = .ok (.agg F) w') := Lib.hid (hFF ▸ fun w' hb => ld_sin hg hF hc hb (by kernel_rfl))
      have HF : Hid (F.size = 12) := Lib.hid (by rw [← hFF]; exact hF)
      have HO : Hid (∀ u ∈ F, u.oneCell' = true) := Lib.hid (by rw [← hFF]; exact fun u hu => hO u (by simpa using hu))
      have H0 : Hid (F[0]? = some (.string x)) := Lib.hid (by rw [← hFF]; simpa using h0)
      have HX := Lib.hid hx
      clear hx hA hg hF hO h0 hc hFF hil
      obtain ⟨b, hb⟩ : ∃ b, (x.toList == s.toList) = b := ⟨_, rfl⟩
      have HB : Hid (eqS s x = b) := Lib.hid (by rw [eqS_comm]; exact hb)
      go_upto_region 3 with (fail)
      refine rgT [] HSR.out ?_
      refine pU ?_
      refine Seq.indexT rfl rfl rfl rfl rfl HIX.out (nZ ?_)
      refine Seq.loadT rfl rfl rfl rfl HLD.out (nZ ?_)
      refine Seq.alloc rfl rfl rfl (z := .agg #[.string ⟨#[]⟩, .bool false, .string ⟨#[]⟩, .string ⟨#[]⟩, .bool false, .string ⟨#[]⟩, .string ⟨#[]⟩, .bool false, .bool false, .string ⟨#[]⟩, .string ⟨#[]⟩, .slice none 0 0]) (by kernel_rfl) rfl ?_
      intro be _ _ hbe
      refine nZ ?_
      refine pU ?_
      refine sV (n := 12) HO.out ?_ (hn' := HF.out)
      refine Seq.done fun w2 hws => ?_
      have HS2 := Lib.hid (hws.q1 (p := be))
      clear hws HSR
      go_upto_region 4 with (fail)
      refine rgT [] HS2.out ?_
      refine pU ?_
      refine Seq.loadCell rfl rfl rfl rfl (by repeat (first | exact mC | apply mT)) (v := .string x) H0.out (by kernel_rfl) rfl (nZ ?_)
      refine pU ?_
      refine pV (.bool b) (by intro w; go_simp <;> (first | (rw [hb]; done) | exact hb | (simp [hb]; done) | omega)) ?_
      refine Seq.done fun w3 hws => ?_
      have HS3 : Hid (St w [(b2, 30, wkC k n0 n2 n3 n4)] w3) := Lib.hid hws.st.drop
      clear hws HS2 hb
      cases b with
      | true =>
        have HV : Hid (r = (1, (i : Int))) := Lib.hid (by
          have h1 := ixS_found HX.out HB.out HNO.out
          rw [← HR.out]
          unfold findR
          rw [if_pos (show 0 ≤ ixS s k.L0 by rw [h1]; omega), h1])
        go_wp2_with fail
        go_ret2
        exact ⟨by rw [HV.out]; rfl, HS3.out.below⟩
      | false =>
        go_wp2_with fail
        go_roundg (n0 - (i + 1))
        case measure => rw [HGK.out]; omega
        case rel => exact ⟨i + 1, rfl, by go_num, by omega, Lib.hid (forall_lt1 HNO.out (fun y hy => by rw [HX.out] at hy; cases hy; exact HB.out)), HS3⟩
    · obtain rfl : n0 = i := by omega
      have HN0 : Hid (ixS s k.L0 = -1) := Lib.hid (ixS_none (by rw [HK.out.e0.1]; exact HNO.out))
      have HS := HSR
      clear HSR HNO HGK
      go_upto_region 7 with (fail)
      refine rgT [] HS.out ?_
      refine pU ?_
      refine Seq.loadCell rfl rfl rfl rfl (by repeat (first | exact mC | apply mT)) (v := .slice k.A2 n2 k.c2) rfl (by kernel_rfl) rfl (nZ ?_)
      iterate 2 refine pU ?_
      refine Seq.done fun w1 hws => ?_
      have HS1 := Lib.hid hws.st
      clear hws HS
      go_wp2_with fail
      go_loopg [31] n2 (fun kx s31 wr => ∃ i : Nat, kx = n2 - i ∧ s31 = .int .i64 (i : Int) ∧ i ≤ n2 ∧ Hid (∀ j < i, ∀ y, k.L2[j]? = some y → eqS s y = false) ∧ Hid (St w [(b2, 30, wkC k n0 n2 n3 n4)] wr))
      case atStart => exact ⟨0, rfl, rfl, Nat.zero_le _, Lib.hid forall_lt0, HS1⟩
      case round =>
        clear HS1
        obtain ⟨i, hgk, rfl, hile, HNO, HSR⟩ := hrel
        have HGK := Lib.hid hgk; clear hgk
        by_cases hin : i < n2
        · have hi2 : n2 ≤ 524288 := HK.out.e2.2
          have hwi : IntKind.i64.wrap ((i : Int) + 1) = (i : Int) + 1 := IntWalk.i64_in _ (by omega)
          have hil : i < k.L2.length := by rw [HK.out.e2.1]; exact hin
          obtain ⟨x, hx⟩ : ∃ x, k.L2[i]? = some x := ⟨_, List.getElem?_eq_getElem hil⟩
          obtain ⟨g, f, hA, hg, hF, hO, h0, hc⟩ := HK.out.h2 i x hx
          obtain ⟨F, hFF⟩ : ∃ F, (k.F2 i).toArray = F := ⟨_, rfl⟩
          have HIX : Hid (∀ w, (Instr.indexAt 24 (.slice k.A2 n2 k.c2) (.int .i64 (i : Int))).run Tryd.prog w = .ok (.pointer (some ⟨g, f + i * 12, none⟩)) w) := Lib.hid (fun w => by rw [hA]; exact run_indexT (by kernel_rfl) hin w)
          have HLD : Hid (∀ w', Below w.heap.size w w' → (loadVar 54 ⟨g, f + i * 12, none⟩).run Tryd.prog w' = .ok (.agg F) w') := Lib.hid (hFF ▸ fun w' hb => ld_sin hg hF hc hb (by kernel_rfl))
          have HF : Hid (F.size = 12) := Lib.hid (by rw [← hFF]; exact hF)
          have HO : Hid (∀ u ∈ F, u.oneCell' = true) := Lib.hid (by rw [← hFF]; exact fun u hu => hO u (by simpa using hu))
          have H0 : Hid (F[0]? = some (.string x)) := Lib.hid (by rw [← hFF]; simpa using h0)
          have HX := Lib.hid hx
          clear hx hA hg hF hO h0 hc hFF hil
          obtain ⟨b, hb⟩ : ∃ b, (x.toList == s.toList) = b := ⟨_, rfl⟩
          have HB : Hid (eqS s x = b) := Lib.hid (by rw [eqS_comm]; exact hb)
          go_upto_region 9 with (fail)
          refine rgT [] HSR.out ?_
          refine pU ?_
          refine Seq.indexT rfl rfl rfl rfl rfl HIX.out (nZ ?_)
          refine Seq.loadT rfl rfl rfl rfl HLD.out (nZ ?_)
          refine Seq.alloc rfl rfl rfl (z := .agg #[.string ⟨#[]⟩, .slice none 0 0, .bool false, .string ⟨#[]⟩, .string ⟨#[]⟩, .bool false, .string ⟨#[]⟩, .string ⟨#[]⟩, .bool false, .bool false, .string ⟨#[]⟩, .string ⟨#[]⟩]) (by kernel_rfl) rfl ?_
          intro be _ _ hbe
          refine nZ ?_
          refine pU ?_
          refine sV (n := 12) HO.out ?_ (hn' := HF.out)
          refine Seq.done fun w2 hws => ?_
          have HS2 := Lib.hid (hws.q1 (p := be))
          clear hws HSR
          go_upto_region 10 with (fail)
          refine rgT [] HS2.out ?_
          refine pU ?_
          refine Seq.loadCell rfl rfl rfl rfl (by repeat (first | exact mC | apply mT)) (v := .string x) H0.out (by kernel_rfl) rfl (nZ ?_)
          refine pU ?_
          refine pV (.bool b) (by intro w; go_simp <;> (first | (rw [hb]; done) | exact hb | (simp [hb]; done) | omega)) ?_
          refine Seq.done fun w3 hws => ?_
          have HS3 : Hid (St w [(b2, 30, wkC k n0 n2 n3 n4)] w3) := Lib.hid hws.st.drop
          clear hws HS2 hb
          cases b with
          | true =>
            have HV : Hid (r = (2, (i : Int))) := Lib.hid (by
              have h1 := ixS_found HX.out HB.out HNO.out
              rw [← HR.out]
              unfold findR
              rw [if_neg (show ¬ 0 ≤ ixS s k.L0 by rw [HN0.out]; decide), if_pos (show 0 ≤ ixS s k.L2 by rw [h1]; omega), h1])
            go_wp2_with fail
            go_ret2
            exact ⟨by rw [HV.out]; rfl, HS3.out.below⟩
          | false =>
            go_wp2_with fail
            go_roundg (n2 - (i + 1))
            case measure => rw [HGK.out]; omega
            case rel => exact ⟨i + 1, rfl, by go_num, by omega, Lib.hid (forall_lt1 HNO.out (fun y hy => by rw [HX.out] at hy; cases hy; exact HB.out)), HS3⟩
        · obtain rfl : n2 = i := by omega
          have HN2 : Hid (ixS s k.L2 = -1) := Lib.hid (ixS_none (by rw [HK.out.e2.1]; exact HNO.out))
          have HS := HSR
          clear HSR HNO HGK
          go_upto_region 13 with (fail)
          refine rgT [] HS.out ?_
          refine pU ?_
          refine Seq.loadCell rfl rfl rfl rfl (by repeat (first | exact mC | apply mT)) (v := .slice k.A3 n3 k.c3) rfl (by kernel_rfl) rfl (nZ ?_)
          iterate 2 refine pU ?_
          refine Seq.done fun w1 hws => ?_
          have HS1 := Lib.hid hws.st
          clear hws HS
          go_wp2_with fail
          go_loopg [45] n3 (fun kx s45 wr => ∃ i : Nat, kx = n3 - i ∧ s45 = .int .i64 (i : Int) ∧ i ≤ n3 ∧ Hid (∀ j < i, ∀ y, k.L3[j]? = some y → eqS s y = false) ∧ Hid (St w [(b2, 30, wkC k n0 n2 n3 n4)] wr))
          case atStart => exact ⟨0, rfl, rfl, Nat.zero_le _, Lib.hid forall_lt0, HS1⟩
          case round =>
            clear HS1
            obtain ⟨i, hgk, rfl, hile, HNO, HSR⟩ := hrel
            have HGK := Lib.hid hgk; clear hgk
            by_cases hin : i < n3
            · have hi2 : n3 ≤ 524288 := HK.out.e3.2
              have hwi : IntKind.i64.wrap ((i : Int) + 1) = (i : Int) + 1 := IntWalk.i64_in _ (by omega)
              have hil : i < k.L3.length := by rw [HK.out.e3.1]; exact hin
              obtain ⟨x, hx⟩ : ∃ x, k.L3[i]? = some x := ⟨_, List.getElem?_eq_getElem hil⟩
              obtain ⟨g, f, hA, hg, hF, hO, h0, hc⟩ := HK.out.h3 i x hx
              obtain ⟨F, hFF⟩ : ∃ F, (k.F3 i).toArray = F := ⟨_, rfl⟩
              have HIX : Hid (∀ w, (Instr.indexAt 25 (.slice k.A3 n3 k.c3) (.int .i64 (i : Int))).run Tryd.prog w = .ok (.pointer (some ⟨g, f + i * 14, none⟩)) w) := Lib.hid (fun w => by rw [hA]; exact run_indexT (by kernel_rfl) hin w)
              have HLD : Hid (∀ w', Below w.heap.size w w' → (loadVar 56 ⟨g, f + i * 14, none⟩).run Tryd.prog w' = .ok (.agg F) w') := Lib.hid (hFF ▸ fun w' hb => ld_sin hg hF hc hb (by kernel_rfl))
              have HF : Hid (F.size = 14) := Lib.hid (by rw [← hFF]; exact hF)
              have HO : Hid (∀ u ∈ F, u.oneCell' = true) := Lib.hid (by rw [← hFF]; exact fun u hu => hO u (by simpa using hu))
              have H0 : Hid (F[0]? = some (.string x)) := Lib.hid (by rw [← hFF]; simpa using h0)
              have HX := Lib.hid hx
              clear hx hA hg hF hO h0 hc hFF hil
              obtain ⟨b, hb⟩ : ∃ b, (x.toList == s.toList) = b := ⟨_, rfl⟩
              have HB : Hid (eqS s x = b) := Lib.hid (by rw [eqS_comm]; exact hb)
              go_upto_region 15 with (fail)
              refine rgT [] HSR.out ?_
              refine pU ?_
              refine Seq.indexT rfl rfl rfl rfl rfl HIX.out (nZ ?_)
              refine Seq.loadT rfl rfl rfl rfl HLD.out (nZ ?_)
              refine Seq.alloc rfl rfl rfl (z := .agg #[.string ⟨#[]⟩, .bool false, .string ⟨#[]⟩, .string ⟨#[]⟩, .bool false, .string ⟨#[]⟩, .string ⟨#[]⟩, .bool false, .bool false, .string ⟨#[]⟩, .string ⟨#[]⟩, .bool false, .string ⟨#[]⟩, .string ⟨#[]⟩]) (by kernel_rfl) rfl ?_
              intro be _ _ hbe
              refine nZ ?_
              refine pU ?_
              refine sV (n := 14) HO.out ?_ (hn' := HF.out)
              refine Seq.done fun w2 hws => ?_
              have HS2 := Lib.hid (hws.q1 (p := be))
              clear hws HSR
              go_upto_region 16 with (fail)
              refine rgT [] HS2.out ?_
              refine pU ?_
              refine Seq.loadCell rfl rfl rfl rfl (by repeat (first | exact mC | apply mT)) (v := .string x) H0.out (by kernel_rfl) rfl (nZ ?_)
              refine pU ?_
              refine pV (.bool b) (by intro w; go_simp <;> (first | (rw [hb]; done) | exact hb | (simp [hb]; done) | omega)) ?_
              refine Seq.done fun w3 hws => ?_
              have HS3 : Hid (St w [(b2, 30, wkC k n0 n2 n3 n4)] w3) := Lib.hid hws.st.drop
              clear hws HS2 hb
              cases b with
              | true =>
                have HV : Hid (r = (3, (i : Int))) := Lib.hid (by
                  have h1 := ixS_found HX.out HB.out HNO.out
                  rw [← HR.out]
                  unfold findR
                  rw [if_neg (show ¬ 0 ≤ ixS s k.L0 by rw [HN0.out]; decide), if_neg (show ¬ 0 ≤ ixS s k.L2 by rw [HN2.out]; decide), if_pos (show 0 ≤ ixS s k.L3 by rw [h1]; omega), h1])
                go_wp2_with fail
                go_ret2
                exact ⟨by rw [HV.out]; rfl, HS3.out.below⟩
              | false =>
                go_wp2_with fail
                go_roundg (n3 - (i + 1))
                case measure => rw [HGK.out]; omega
                case rel => exact ⟨i + 1, rfl, by go_num, by omega, Lib.hid (forall_lt1 HNO.out (fun y hy => by rw [HX.out] at hy; cases hy; exact HB.out)), HS3⟩
            · obtain rfl : n3 = i := by omega
              have HN3 : Hid (ixS s k.L3 = -1) := Lib.hid (ixS_none (by rw [HK.out.e3.1]; exact HNO.out))
              have HS := HSR
              clear HSR HNO HGK
              go_upto_region 19 with (fail)
              refine rgT [] HS.out ?_
              refine pU ?_
              refine Seq.loadCell rfl rfl rfl rfl (by repeat (first | exact mC | apply mT)) (v := .slice k.A4 n4 k.c4) rfl (by kernel_rfl) rfl (nZ ?_)
              iterate 2 refine pU ?_
              refine Seq.done fun w1 hws => ?_
              have HS1 := Lib.hid hws.st
              clear hws HS
              go_wp2_with fail
              go_loopg [59] n4 (fun kx s59 wr => ∃ i : Nat, kx = n4 - i ∧ s59 = .int .i64 (i : Int) ∧ i ≤ n4 ∧ Hid (∀ j < i, ∀ y, k.L4[j]? = some y → eqS s y = false) ∧ Hid (St w [(b2, 30, wkC k n0 n2 n3 n4)] wr))
              case atStart => exact ⟨0, rfl, rfl, Nat.zero_le _, Lib.hid forall_lt0, HS1⟩
              case round =>
                clear HS1
                obtain ⟨i, hgk, rfl, hile, HNO, HSR⟩ := hrel
                have HGK := Lib.hid hgk; clear hgk
                by_cases hin : i < n4
                · have hi2 : n4 ≤ 524288 := HK.out.e4.2
                  have hwi : IntKind.i64.wrap ((i : Int) + 1) = (i : Int) + 1 := IntWalk.i64_in _ (by omega)
                  have hil : i < k.L4.length := by rw [HK.out.e4.1]; exact hin
                  obtain ⟨x, hx⟩ : ∃ x, k.L4[i]? = some x := ⟨_, List.getElem?_eq_getElem hil⟩
                  obtain ⟨g, f, hA, hg, hF, hO, h0, hc⟩ := HK.out.h4 i x hx
                  obtain ⟨F, hFF⟩ : ∃ F, (k.F4 i).toArray = F := ⟨_, rfl⟩
                  have HIX : Hid (∀ w, (Instr.indexAt 26 (.slice k.A4 n4 k.c4) (.int .i64 (i : Int))).run Tryd.prog w = .ok (.pointer (some ⟨g, f + i * 13, none⟩)) w) := Lib.hid (fun w => by rw [hA]; exact run_indexT (by kernel_rfl) hin w)
                  have HLD : Hid (∀ w', Below w.heap.size w w' → (loadVar 60 ⟨g, f + i * 13, none⟩).run Tryd.prog w' = .ok (.agg F) w') := Lib.hid (hFF ▸ fun w' hb => ld_sin hg hF hc hb (by kernel_rfl))
                  have HF : Hid (F.size = 13) := Lib.hid (by rw [← hFF]; exact hF)
                  have HO : Hid (∀ u ∈ F, u.oneCell' = true) := Lib.hid (by rw [← hFF]; exact fun u hu => hO u (by simpa using hu))
                  have H0 : Hid (F[0]? = some (.string x)) := Lib.hid (by rw [← hFF]; simpa using h0)
                  have HX := Lib.hid hx
                  clear hx hA hg hF hO h0 hc hFF hil
                  obtain ⟨b, hb⟩ : ∃ b, (x.toList == s.toList) = b := ⟨_, rfl⟩
                  have HB : Hid (eqS s x = b) := Lib.hid (by rw [eqS_comm]; exact hb)
                  go_upto_region 21 with (fail)
                  refine rgT [] HSR.out ?_
                  refine pU ?_
                  refine Seq.indexT rfl rfl rfl rfl rfl HIX.out (nZ ?_)
                  refine Seq.loadT rfl rfl rfl rfl HLD.out (nZ ?_)
                  refine Seq.alloc rfl rfl rfl (z := .agg #[.string ⟨#[]⟩, .bool false, .string ⟨#[]⟩, .string ⟨#[]⟩, .bool false, .string ⟨#[]⟩, .string ⟨#[]⟩, .bool false, .string ⟨#[]⟩, .string ⟨#[]⟩, .bool false, .string ⟨#[]⟩, .string ⟨#[]⟩]) (by kernel_rfl) rfl ?_
                  intro be _ _ hbe
                  refine nZ ?_
                  refine pU ?_
                  refine sV (n := 13) HO.out ?_ (hn' := HF.out)
                  refine Seq.done fun w2 hws => ?_
                  have HS2 := Lib.hid (hws.q1 (p := be))
                  clear hws HSR
                  go_upto_region 22 with (fail)
                  refine rgT [] HS2.out ?_
                  refine pU ?_
                  refine Seq.loadCell rfl rfl rfl rfl (by repeat (first | exact mC | apply mT)) (v := .string x) H0.out (by kernel_rfl) rfl (nZ ?_)
                  refine pU ?_
                  refine pV (.bool b) (by intro w; go_simp <;> (first | (rw [hb]; done) | exact hb | (simp [hb]; done) | omega)) ?_
                  refine Seq.done fun w3 hws => ?_
                  have HS3 : Hid (St w [(b2, 30, wkC k n0 n2 n3 n4)] w3) := Lib.hid hws.st.drop
                  clear hws HS2 hb
                  cases b with
                  | true =>
                    have HV : Hid (r = (4, (i : Int))) := Lib.hid (by
                      have h1 := ixS_found HX.out HB.out HNO.out
                      rw [← HR.out]
                      unfold findR
                      rw [if_neg (show ¬ 0 ≤ ixS s k.L0 by rw [HN0.out]; decide), if_neg (show ¬ 0 ≤ ixS s k.L2 by rw [HN2.out]; decide), if_neg (show ¬ 0 ≤ ixS s k.L3 by rw [HN3.out]; decide), if_pos (show 0 ≤ ixS s k.L4 by rw [h1]; omega), h1])
                    go_wp2_with fail
                    go_ret2
                    exact ⟨by rw [HV.out]; rfl, HS3.out.below⟩
                  | false =>
                    go_wp2_with fail
                    go_roundg (n4 - (i + 1))
                    case measure => rw [HGK.out]; omega
                    case rel => exact ⟨i + 1, rfl, by go_num, by omega, Lib.hid (forall_lt1 HNO.out (fun y hy => by rw [HX.out] at hy; cases hy; exact HB.out)), HS3⟩
                · obtain rfl : n4 = i := by omega
                  have HN4 : Hid (ixS s k.L4 = -1) := Lib.hid (ixS_none (by rw [HK.out.e4.1]; exact HNO.out))
                  have HS := HSR
                  clear HSR HNO HGK
                  have HV : Hid (r = (0, -1)) := Lib.hid (by
                    rw [← HR.out]
                    unfold findR
                    rw [if_neg (show ¬ 0 ≤ ixS s k.L0 by rw [HN0.out]; decide), if_neg (show ¬ 0 ≤ ixS s k.L2 by rw [HN2.out]; decide), if_neg (show ¬ 0 ≤ ixS s k.L3 by rw [HN3.out]; decide), if_neg (show ¬ 0 ≤ ixS s k.L4 by rw [HN4.out]; decide)])
                  go_wp2_with fail
                  go_ret2
                  exact ⟨by rw [HV.out]; rfl, HS.out.below⟩
end Go.Proofs.YtekbpiooecdopaaDoor
