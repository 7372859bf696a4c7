/- parse.stmt, stmts, Check at one statement without blocks; types.kinds and index (printed by tyb.py). -/
import Derived.Test.YtekbpiooecdopaaDoorTyQ

namespace Go.Proofs.YtekbpiooecdopaaDoor
open Go.RowKit
set_option linter.unusedVariables false
set_option linter.unusedSimpArgs false

theorem plain_any {k n : Int} {A B : ByteArray} {t : RT} {X : Option Addr} {nb cb : Nat} {q : Rat} {g : Bool} {c : Int} {W : World} {l : List Own} (h1 : 1 ≤ k) (h5 : k ≤ 5) (hT : Tab W) (hq : RawT 1048576 q g t) (hc : codeS k n A B t q g nb = c) (w : World) (h : St W l w) :
    Calls Tryd.prog 45 #[.agg (stC k n A B t (.slice X nb cb))] w fun e w' => e = .returned (.int .i64 c) ∧ Below w.heap.size w w' := by
  have hk : k = 1 ∨ k = 2 ∨ k = 3 ∨ k = 4 ∨ k = 5 := by omega
  rcases hk with rfl | rfl | rfl | rfl | rfl
  · exact plain1_q hT hq hc w h
  · exact plain2_q hT hq hc w h
  · exact plain3_q hT hq hc w h
  · exact plain4_q hT hq hc w h
  · exact plain5_q hT hq hc w h
set_option maxHeartbeats 8000000 in
set_option maxRecDepth 20000 in
theorem stmt1_q {k n : Int} {A B : ByteArray} {t : RT} {X : Option Addr} {nb cb : Nat} {q : Rat} {g : Bool} {c : Int} {W : World} {l : List Own} (h1 : 1 ≤ k) (h5 : k ≤ 5) (hT : Tab W) (hq : RawT 1048576 q g t) (hc : codeS k n A B t q g nb = c) (w : World) (h : St W l w) :
    Calls Tryd.prog 29 #[.agg (stC k n A B t (.slice X nb cb)), .int .i64 1] w fun e w' => e = .returned (.tuple #[.int .i64 1, .int .i64 c]) ∧ Below w.heap.size w w' := by
  have HP := Lib.hid (fun (w : World) (h : St W l w) => plain_any (X := X) (cb := cb) h1 h5 hT hq hc w h)
  clear hc hT hq
  have HS0 : Hid (St w [] w) := Lib.hid St.start
  have HU := Lib.hid h; clear h
  go_enter Tryd.func29, Tryd.ntmps29
  go_upto_region 0 with (fail)
  refine rgT [] HS0.out ?_
  refine bX (stC k n A B t (.slice X nb cb)) ?_
  intro b2 _ _ hb2
  refine nZ ?_
  iterate 2 refine pU ?_
  refine Seq.done fun w0 hws => ?_
  have HS1 := Lib.hid (hws.q1 (p := b2))
  clear hws HS0
  go_upto_region 1 with (fail)
  refine rgT [] HS1.out ?_
  refine pU ?_
  refine Seq.loadCell rfl rfl rfl rfl (by repeat (first | exact mC | apply mT)) (v := .int .i64 k) rfl (by kernel_rfl) rfl (nZ ?_)
  refine pV (.bool false) (by intro w; go_simp <;> (first | omega | (simp; omega) | exact h1 | (simp [h1]; done))) ?_
  iterate 2 refine pU ?_
  refine Seq.loadCell rfl rfl rfl rfl (by repeat (first | exact mC | apply mT)) (v := .int .i64 k) rfl (by kernel_rfl) rfl (nZ ?_)
  refine pV (.bool false) (by intro w; go_simp <;> (first | omega | (simp; omega) | exact h1 | (simp [h1]; done))) ?_
  refine pU ?_
  refine Seq.done fun w2 hws => ?_
  have HS2 := Lib.hid hws.st
  clear hws HS1
  go_upto_region 3 with (fail)
  refine rgT [] HS2.out ?_
  refine pU ?_
  refine Seq.loadCell rfl rfl rfl rfl (by repeat (first | exact mC | apply mT)) (v := .int .i64 k) rfl (by kernel_rfl) rfl (nZ ?_)
  refine pV (.bool true) (by intro w; go_simp <;> (first | omega | (simp; omega) | exact h1 | (simp [h1]; done))) ?_
  refine Seq.done fun w4 hws => ?_
  have HS4 := Lib.hid hws.st
  clear hws HS2
  go_upto_region 4 with (fail)
  refine rgT [] HS4.out ?_
  refine lV ?_
  refine cX rfl rfl (fun w1 h2 => HP.out w1 ⟨HU.out.below.trans (h2.below.mono HU.out.below.size), fun e he => ⟨(HU.out.blk e he).1, (HU.out.blk e he).2.belowB h2.below⟩, HU.out.apart⟩) ?_
  iterate 2 refine pU ?_
  refine Seq.done fun w5 hws => ?_
  have HS5 := Lib.hid hws.st
  clear hws HS4
  have HB := Lib.hid HS5.out.below
  clear HS5
  go_wp2_with fail
  go_ret2
  exact ⟨rfl, HB.out⟩
set_option maxHeartbeats 8000000 in
set_option maxRecDepth 20000 in
theorem stmts1_q {k n : Int} {A B : ByteArray} {t : RT} {X : Option Addr} {nb cb : Nat} {q : Rat} {g : Bool} {c : Int} {gb : Nat} (h1 : 1 ≤ k) (h5 : k ≤ 5) (w : World) (hT : Tab w) (hq : RawT 1048576 q g t) (hc : codeS k n A B t q g nb = c) (hF : Blk w gb 33 (stC k n A B t (.slice X nb cb))) :
    Calls Tryd.prog 18 #[.slice (some ⟨gb, 0, none⟩) 1 1, .int .i64 1] w fun e w' => e = .returned (.tuple #[.int .i64 (if c = 0 then 1 else 0), .int .i64 c]) ∧ Below w.heap.size w w' := by
  have HP := Lib.hid (fun (l : List Own) (w1 : World) (h : St w l w1) => stmt1_q (X := X) (cb := cb) h1 h5 hT hq hc w1 h)
  have HF := Lib.hid hF
  clear hc hT hq hF
  have HS0 : Hid (St w [] w) := Lib.hid St.start
  go_enter Tryd.func18, Tryd.ntmps18
  go_wp2_with fail
  refine wp_loop_rounds 2 ?_
  rw [rounds_succ]
  go_upto_region 6 with (fail)
  refine rgT [] HS0.out ?_
  refine pV (.pointer (some ⟨gb, 0, none⟩)) (by intro w; go_simp; try rfl) ?_
  refine Seq.loadAtF (cs' := stC k n A B t (.slice X nb cb)) (n := 8) rfl rfl rfl rfl HF.out (Nat.le_of_ble_eq_true rfl) (by kernel_rfl) rfl (nZ ?_)
  refine Seq.alloc rfl rfl rfl (z := .agg #[.int .i64 0, .string ⟨#[]⟩, .string ⟨#[]⟩, .bool false, .string ⟨#[]⟩, .string ⟨#[]⟩, .int .i64 0, .slice none 0 0]) (by kernel_rfl) rfl ?_
  intro b8 _ _ hb8
  refine nZ ?_
  refine sV (n := 8) (cs' := stC k n A B t (.slice X nb cb)) (fun u hu => by simp [stC] at hu; rcases hu with rfl | rfl | rfl | rfl | rfl | rfl | rfl | rfl <;> rfl) ?_
  refine Seq.done fun w1 hws => ?_
  have HS1 := Lib.hid (hws.q1 (p := b8))
  clear hws HS0
  go_upto_region 7 with (fail)
  refine rgT [] HS1.out ?_
  refine lV ?_
  refine pU ?_
  refine cX rfl rfl (fun w1 h2 => HP.out _ w1 h2) ?_
  iterate 5 refine pU ?_
  refine Seq.done fun w2 hws => ?_
  have HB := Lib.hid hws.st.below
  clear hws HS1
  by_cases hc0 : c = 0
  · subst hc0
    go_wp2_with fail
    rw [rounds_succ]
    go_wp2_with fail
    go_ret2
    exact ⟨rfl, HB.out⟩
  · go_wp2_with fail
    go_ret2
    first | exact ⟨rfl, HB.out⟩ | exact ⟨ret_int2 (by rw [if_neg hc0]) rfl, HB.out⟩
set_option maxHeartbeats 8000000 in
set_option maxRecDepth 20000 in
theorem check1_q {k n : Int} {A B : ByteArray} {t : RT} {X : Option Addr} {nb cb : Nat} {q : Rat} {g : Bool} {c : Int} {gb : Nat} (h1 : 1 ≤ k) (h5 : k ≤ 5) (w : World) (hT : Tab w) (hq : RawT 1048576 q g t) (hc : codeS k n A B t q g nb = c) (hF : Blk w gb 33 (stC k n A B t (.slice X nb cb))) :
    Calls Tryd.prog 10 #[.agg #[.string ⟨#[120]⟩, .slice (some ⟨gb, 0, none⟩) 1 1]] w fun e w' => e = .returned (.int .i64 c) ∧ Below w.heap.size w w' := by
  have HP := Lib.hid (fun (w1 : World) (h : Below w.heap.size w w1) => stmts1_q (X := X) (cb := cb) h1 h5 w1 (Tab.next hT h) hq hc (hF.belowB h))
  have HN := Lib.hid (fun (w : World) => name_any ⟨#[120]⟩ w (b := true) (by decide))
  clear hc hT hq hF
  go_enter Tryd.func10, Tryd.ntmps10
  have HS0 : Hid (St w [] w) := Lib.hid St.start
  go_upto_region 0 with (fail)
  refine rgT [] HS0.out ?_
  refine bX #[.string ⟨#[120]⟩, .slice (some ⟨gb, 0, none⟩) 1 1] ?_
  intro b1 _ _ hb1
  refine nZ ?_
  refine pU ?_
  refine Seq.done fun w0 hws => ?_
  have HS1 := Lib.hid (hws.q1 (p := b1))
  clear hws HS0
  go_upto_region 1 with (fail)
  refine rgT [] HS1.out ?_
  refine pU ?_
  refine Seq.loadCell rfl rfl rfl rfl (by repeat (first | exact mC | apply mT)) (v := .string ⟨#[120]⟩) rfl (by kernel_rfl) rfl (nZ ?_)
  refine cX rfl rfl (fun w _ => HN.out w) ?_
  refine pU ?_
  refine Seq.done fun w1 hws => ?_
  have HS2 := Lib.hid hws.st
  clear hws HS1
  obtain ⟨m, hm⟩ : ∃ m : Int, (if c = 0 then 1 else 0) = m := ⟨_, rfl⟩
  rw [hm] at HP
  clear hm
  go_upto_region 3 with (fail)
  refine rgT [] HS2.out ?_
  refine pU ?_
  refine Seq.loadCell rfl rfl rfl rfl (by repeat (first | exact mC | apply mT)) (v := .slice (some ⟨gb, 0, none⟩) 1 1) rfl (by kernel_rfl) rfl (nZ ?_)
  refine cX rfl rfl (fun w h => HP.out w h.below) ?_
  iterate 5 refine pU ?_
  refine Seq.done fun w2 hws => ?_
  have HB := Lib.hid hws.st.below
  clear hws HS2
  go_wp2_with fail
  go_ret
  exact ⟨rfl, HB.out⟩
/-- the kinds of the things that a statement names -/
def kindsS (k : Int) : Int × Int := if k = 1 then (2, 3) else if k = 2 then (2, 1) else if k = 3 then (1, 0) else if k = 4 then (2, 0) else (0, 0)
/-- the index of the thing of a kind with a name, and the error -/
def idxS (K : Wk) (d : Int) (s : ByteArray) : Int × Int :=
  if d = 0 then (-1, 0) else if (findR K.L0 K.L2 K.L3 K.L4 s).1 = 0 then (0, 16) else if (findR K.L0 K.L2 K.L3 K.L4 s).1 ≠ d then (0, 8) else ((findR K.L0 K.L2 K.L3 K.L4 s).2, 0)
theorem kinds_any (k : Int) (w : World) {r : Int × Int} (hr : kindsS k = r) : Calls Tryd.prog 11 #[.int .i64 k] w fun e w' => e = .returned (.tuple #[.int .i64 r.1, .int .i64 r.2]) ∧ Below w.heap.size w w' := by
  subst hr
  have hk : k = 1 ∨ k = 2 ∨ k = 3 ∨ k = 4 ∨ (k ≠ 1 ∧ k ≠ 2 ∧ k ≠ 3 ∧ k ≠ 4) := by omega
  rcases hk with rfl | rfl | rfl | rfl | ⟨h1, h2, h3, h4⟩
  · go_enter Tryd.func11, Tryd.ntmps11
    go_wp2_with fail
    go_ret2
    exact ⟨rfl, Below.refl _ _⟩
  · go_enter Tryd.func11, Tryd.ntmps11
    go_wp2_with fail
    go_ret2
    exact ⟨rfl, Below.refl _ _⟩
  · go_enter Tryd.func11, Tryd.ntmps11
    go_wp2_with fail
    go_ret2
    exact ⟨rfl, Below.refl _ _⟩
  · go_enter Tryd.func11, Tryd.ntmps11
    go_wp2_with fail
    go_ret2
    exact ⟨rfl, Below.refl _ _⟩
  · have HK : Hid (kindsS k = (0, 0)) := Lib.hid (by unfold kindsS; rw [if_neg h1, if_neg h2, if_neg h3, if_neg h4])
    go_enter Tryd.func11, Tryd.ntmps11
    go_wp2_with fail
    go_ret2
    exact ⟨ret_int2 (by rw [HK.out]) (by rw [HK.out]), Below.refl _ _⟩
set_option maxHeartbeats 8000000 in
set_option maxRecDepth 20000 in
theorem index_any {K : Wk} {n0 n2 n3 n4 : Nat} {d : Int} {s : ByteArray} {r : Int × Int} (w : World) (hk : WkIn w K n0 n2 n3 n4) (hr : idxS K d s = r) :
    Calls Tryd.prog 12 #[.agg (wkC K n0 n2 n3 n4), .int .i64 d, .string s] w fun e w' => e = .returned (.tuple #[.int .i64 r.1, .int .i64 r.2]) ∧ Below w.heap.size w w' := by
  have HF := Lib.hid (fun (w1 : World) (h : Below w.heap.size w w1) => find_any (s := s) w1 (hk.next h) rfl)
  have HO := Lib.hid hk.ones
  clear hk
  unfold idxS at hr
  obtain ⟨f, hf⟩ : ∃ f, findR K.L0 K.L2 K.L3 K.L4 s = f := ⟨_, rfl⟩
  rw [hf] at HF hr
  clear hf
  obtain ⟨f1, f2⟩ := f
  have HR := Lib.hid hr
  clear hr
  have HS0 : Hid (St w [] w) := Lib.hid St.start
  go_enter Tryd.func12, Tryd.ntmps12
  go_upto_region 0 with (fail)
  refine rgT [] HS0.out ?_
  refine bX (wkC K n0 n2 n3 n4) ?_
  intro b3 _ _ hb3
  refine nZ ?_
  iterate 2 refine pU ?_
  refine Seq.done fun w0 hws => ?_
  have HS1 := Lib.hid (hws.q1 (p := b3))
  clear hws HS0
  by_cases hd : d = 0
  · subst hd
    have HB := Lib.hid HS1.out.below
    clear HS1
    go_wp2_with fail
    go_ret2
    exact ⟨ret_int2 (by rw [← HR.out]; simp) (by rw [← HR.out]; simp), HB.out⟩
  go_upto_region 3 with (fail)
  refine rgT [] HS1.out ?_
  refine lV ?_
  refine pU ?_
  refine cX rfl rfl (fun w h => HF.out w h.below) ?_
  iterate 5 refine pU ?_
  refine Seq.done fun w1 hws => ?_
  have HB := Lib.hid hws.st.below
  clear hws HS1
  by_cases h0 : f1 = 0
  · subst h0
    go_wp2_with fail
    go_ret2
    exact ⟨ret_int2 (by rw [← HR.out]; simp [hd]) (by rw [← HR.out]; simp [hd]), HB.out⟩
  by_cases h1 : f1 = d
  · subst h1
    go_wp2_with fail
    go_ret2
    exact ⟨ret_int2 (by rw [← HR.out]; simp [hd]) (by rw [← HR.out]; simp [hd]), HB.out⟩
  · go_wp2_with fail
    go_ret2
    exact ⟨ret_int2 (by rw [← HR.out]; simp [hd, h0, h1]) (by rw [← HR.out]; simp [hd, h0, h1]), HB.out⟩
end Go.Proofs.YtekbpiooecdopaaDoor
