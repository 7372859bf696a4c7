/- Walk: worded (the law's own example); the laws' common parts. -/
import Derived.Test.YtdhhbpnnahdofaaDoorWnH

namespace Go.Proofs.YtdhhbpnnahdofaaDoor
open Go.RowKit
set_option linter.unusedVariables false
set_option linter.unusedSimpArgs false

def exS : ByteArray := ⟨#[119, 97, 105, 116, 32, 51, 32, 59, 32, 35, 32, 101, 110, 100]⟩
theorem ex_read : readR exS = ([⟨1, 0, ⟨#[119, 97, 105, 116]⟩⟩, ⟨2, 5, ⟨#[51]⟩⟩, ⟨3, 7, ⟨#[59]⟩⟩], 0) := by decide +kernel
set_option maxHeartbeats 2000000 in
theorem worded_any (w : World) (hM : MaxL w) :
    Calls Tryd.prog 12 #[] w fun e w' => e = .returned (.bool true) ∧ Below w.heap.size w w' := by
  have hr := read_any exS w hM
  rw [ex_read] at hr
  have HR := Lib.hid hr
  clear hr hM
  go_enter Tryd.func12, Tryd.ntmps12
  go_upto_region 2 with (go_at_call 69; refine HR.out.mono ?_; rintro e w2 ⟨A, c, rfl, hc, hm, hI, hb⟩; have HI := Lib.hid hI; have HB := Lib.hid hb; clear hI hb hm)
  obtain ⟨b, off, rfl, hb, h0, h1, h2⟩ := HI.out.three (k := 1) rfl
  dsimp only at h0 h1 h2 hc
  simp only [List.length_cons, List.length_nil] at hc
  simp at h0 h1 h2 hc
  go_wp2_with fail
  trace_state
  go_ret
  exact ⟨rfl, HB.out⟩
end Go.Proofs.YtdhhbpnnahdofaaDoor
