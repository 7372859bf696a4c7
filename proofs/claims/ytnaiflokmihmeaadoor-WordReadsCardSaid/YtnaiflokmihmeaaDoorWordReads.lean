/- The law WordReads: Read against the document's reading. -/
import Derived.Test.YtnaiflokmihmeaaDoorWnM
import Derived.Test.YtnaiflokmihmeaaDoorRows
import Derived.Test.YtnaiflokmihmeaaDoorWnO
import Derived.ChangeMaps5
namespace Go.Proofs.YtnaiflokmihmeaaDoor
open Go.RowKit Go.ChangeShapes Go.WideShapes Go.Deep
set_option linter.unusedVariables false
set_option linter.unusedSimpArgs false

set_option maxHeartbeats 4000000 in
set_option maxRecDepth 20000 in
theorem wordReads_main (s : ByteArray) (W : World) (hM : MaxL W) :
    Calls Tryd.prog 4 #[.string s] W fun e W' => e = .returned (.bool true) ∧ Below W.heap.size W W' := by
  have HM := Lib.hid hM
  have HR := Lib.hid (read_any s W hM)
  have HO := Lib.hid (fun w (h : MaxL w) => wordsOf_any s w h)
  have HW := Lib.hid (fun w (h : MaxL w) => worded_any w h)
  have hlen : (readR s).1.length ≤ 4096 := readR_len s
  generalize readR s = R at *
  obtain ⟨ws, er⟩ := R
  dsimp only at hlen
  obtain ⟨n, hn⟩ : ∃ n, ws.length = n := ⟨_, rfl⟩
  have HN := Lib.hid hn
  rw [hn] at hlen
  have hn63 : n ≤ 9223372036854775807 := by omega
  clear hM hn
  unfold WsPost at HR HO
  dsimp only at HR HO
  rw [HN.out] at HR
  have HO2 := Lib.hid (fun w h => by have h := HO.out w h; rw [HN.out] at h; exact h)
  clear HO
  have hee : (((er : Nat) : Int) == (er : Int)) = true := by simp
  go_enter Tryd.func4, Tryd.ntmps4
  go_upto_region 2 with (go_at_call 12; refine HR.out.mono ?_; rintro e w1 ⟨A, c, rfl, hc, hm, hI, hb⟩; have HC1 := Lib.hid hc; have HI1 := Lib.hid hI; have HB1 := Lib.hid hb; have HM1 := Lib.hid (HM.out.below hb); clear hI hb hm hc)
  go_upto_region 3 with (go_at_call 13; refine (HO2.out _ HM1.out).mono ?_; rintro e w2 ⟨A2, c2, rfl, hc2, hm2, hI2, hb2⟩; have HI2 := Lib.hid hI2; have HI1' := Lib.hid (HI1.out.next hb2); have HB2 := Lib.hid (HB1.out.trans (hb2.mono HB1.out.size)); have HM2 := Lib.hid (HM1.out.below hb2); clear hI2 hb2 hm2 hc2)
  go_wp2_with first
    | (go_at_call 6; refine (HW.out _ HM2.out).mono ?_; rintro e w3 ⟨rfl, hb3⟩; have HB3 := Lib.hid (HB2.out.trans (hb3.mono HB2.out.size)); have HJ1 := Lib.hid (HI1'.out.next hb3); have HJ2 := Lib.hid (HI2.out.next hb3); clear hb3)
    | (go_at_call 14; refine (equalW_any ws _ _ _ _ _ _ HN.out.symm hn63 HJ1.out HJ2.out).mono ?_; rintro e w4 ⟨rfl, hb4⟩; have HB4 := Lib.hid (HB3.out.trans (hb4.mono HB3.out.size)); clear hb4)
  go_ret
  exact ⟨rfl, HB4.out⟩

theorem wordReads_walk {H : Type} {enc : TypeId × Value → H} (W : World) (v0 : Value) {d0 : DataW H} {p0 : List MemPlace} {base : Nat}
    (h0 : DataW.Trod enc Tryd.prog W 0 (fun _ => true) true 9 v0 d0 p0)
    (o0 : Value.okWide Tryd.prog W .any base 9 v0)
    (w0 : Light Tryd.prog 9 d0) (hS : W.ShapedOpen Tryd.prog) :
    Calls Tryd.prog 4 #[v0] W fun e W' => e = .returned (.bool true) ∧ Below W.heap.size W W' := by
  obtain ⟨s, rfl, rfl, rfl, hs⟩ := Go.ChangeMaps.open_string Tryd.underlying9 o0 h0
  exact wordReads_main s W (maxL_of hS)
end Go.Proofs.YtnaiflokmihmeaaDoor
