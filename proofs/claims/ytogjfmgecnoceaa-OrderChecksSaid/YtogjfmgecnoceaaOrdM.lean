/- Walks: a fact about orders. -/
import Derived.Test.YtogjfmgecnoceaaOrdK
import Derived.Test.YtogjfmgecnoceaaEqI
namespace Go.Proofs.Ytogjfmgecnoceaa
open Go.RowKit
set_option linter.unusedVariables false
set_option linter.unusedSimpArgs false

theorem long_look (w : World) : Calls Try.prog 71 #[.agg #[.int .i64 3, .int .i64 0, .int .i64 0, .int .i64 0, .int .i64 0]] w fun e w' => e = .returned (.int .i64 20) ∧ Below w.heap.size w w' := by
  go_enter Try.func71, Try.ntmps71
  go_wp2_with fail
  go_ret
  exact ⟨rfl, (Below.refl _ _).alloc (Nat.le_refl _) _⟩
theorem pick_fact : bErr [[], [], [0]] = 0 ∧ pickN [[], [], [0]] [1] 3 = [1, 0, 2] := by decide +kernel

theorem ints_blk {w : World} {g : Nat} {t : TypeId} {cs : Array Value} {xs : List Int} (h : Blk w g t cs) (hc : cs.toList = cellsI xs) : IntsAt w w.heap.size (some ⟨g, 0, none⟩) xs := by
  intro k x hx
  refine ⟨g, 0, rfl, h.lt, ?_⟩
  rw [Nat.zero_add, h.cell, ← Array.getElem?_toList, hc]
  simp [cellsI, hx]
theorem rows3 {w : World} {g a b c : Nat} {t t3 : TypeId} {x : Int} (h : Blk w g t #[.slice (some ⟨a, 0, none⟩) 0 0, .slice (some ⟨b, 0, none⟩) 0 0, .slice (some ⟨c, 0, none⟩) 1 1]) (hc : Blk w c t3 #[.int .i64 x]) :
    RowsAt w w.heap.size (some ⟨g, 0, none⟩) [⟨some ⟨a, 0, none⟩, 0, []⟩, ⟨some ⟨b, 0, none⟩, 0, []⟩, ⟨some ⟨c, 0, none⟩, 1, [x]⟩] := by
  intro k r hr
  refine ⟨g, 0, rfl, h.lt, ?_⟩
  rw [Nat.zero_add, h.cell]
  rcases k with _ | _ | _ | k
  · simp at hr; subst hr; exact ⟨rfl, by simp, IntsAt.nil⟩
  · simp at hr; subst hr; exact ⟨rfl, by simp, IntsAt.nil⟩
  · simp at hr; subst hr; exact ⟨rfl, by simp, ints_blk hc rfl⟩
  · simp at hr

theorem ordered_blks (w : World) {w5 : World} {v : World} (h4 : v = (((w.alloc (.cells #[] 3)).alloc (.cells #[] 3)).alloc (.cells #[.int .i64 0] 3)).alloc (.cells #[.slice (some ⟨w.heap.size, 0, none⟩) 0 0, .slice (some ⟨w.heap.size + 1, 0, none⟩) 0 0, .slice (some ⟨w.heap.size + 1 + 1, 0, none⟩) 1 1] 23)) (h5 : w5 = v.alloc (.cells #[.int .i64 1] 3)) :
    Below w.heap.size w w5 ∧ RowsAt w5 w5.heap.size (some ⟨w.heap.size + 1 + 1 + 1, 0, none⟩) [⟨some ⟨w.heap.size, 0, none⟩, 0, []⟩, ⟨some ⟨w.heap.size + 1, 0, none⟩, 0, []⟩, ⟨some ⟨w.heap.size + 1 + 1, 0, none⟩, 1, [0]⟩] ∧ IntsAt w5 w5.heap.size (some ⟨w.heap.size + 1 + 1 + 1 + 1, 0, none⟩) [1] := by
  have hz : v.heap.size = w.heap.size + 1 + 1 + 1 + 1 := by rw [h4]; simp
  have hb : Below w.heap.size w v := by
    rw [h4]
    exact ((((Below.refl _ _).alloc (Nat.le_refl _) _).alloc (by simp) _).alloc (by simp; omega) _).alloc (by simp; omega) _
  have h3 : Blk v (w.heap.size + 1 + 1) 3 #[.int .i64 0] := by
    rw [h4]; exact (Blk.at_ (by simp)).alloc _
  have h4' : Blk v (w.heap.size + 1 + 1 + 1) 23 #[.slice (some ⟨w.heap.size, 0, none⟩) 0 0, .slice (some ⟨w.heap.size + 1, 0, none⟩) 0 0, .slice (some ⟨w.heap.size + 1 + 1, 0, none⟩) 1 1] := by
    rw [h4]; exact Blk.at_ (by simp)
  subst h5
  refine ⟨hb.alloc (by omega) _, rows3 (h4'.alloc _) (h3.alloc _), ?_⟩
  exact ints_blk (Blk.at_ (by omega)) rfl

set_option maxHeartbeats 2000000 in
set_option maxRecDepth 20000 in
theorem ordered_any (w : World) : Calls Try.prog 23 #[] w fun e w' => e = .returned (.bool true) ∧ Below w.heap.size w w' := by
  go_enter Try.func23, Try.ntmps23
  go_wp2_with fail
  have hbl := ordered_blks w rfl rfl
  generalize World.alloc (World.alloc (World.alloc (World.alloc (World.alloc w _) _) _) _) _ = w5 at *
  have HB := Lib.hid hbl.1
  have HP := Lib.hid (pick_any _ _ 3 3 _ _ 1 1 w5 rfl (by omega) hbl.2.1 rfl (by omega) hbl.2.2 (by intro x hx; simp at hx; omega))
  clear hbl
  refine HP.out.mono ?_
  rintro e w6 ⟨v, rfl, hv, hb⟩
  have HB6 := Lib.hid (HB.out.trans (hb.mono HB.out.size))
  have e1 : bErr (ll [⟨some ⟨w.heap.size, 0, none⟩, 0, []⟩, ⟨some ⟨w.heap.size + 1, 0, none⟩, 0, []⟩, ⟨some ⟨w.heap.size + 1 + 1, 0, none⟩, 1, [0]⟩]) = 0 := pick_fact.1
  rw [e1, if_pos rfl] at hv
  rw [e1]
  have hv2 : IntsV w6 v [1, 0, 2] := by rw [← pick_fact.2]; exact hv
  obtain ⟨A, c, rfl, hc, hm, hI⟩ := hv2
  unfold maxLen at hm
  have HI := Lib.hid hI
  clear hv hb e1 HP HB hI
  go_wp2_with fail
  have HW : Hid (Below w6.heap.size w6 (w6.alloc (.cells #[.int .i64 1, .int .i64 0, .int .i64 2] 3)) ∧ Blk (w6.alloc (.cells #[.int .i64 1, .int .i64 0, .int .i64 2] 3)) w6.heap.size 3 #[.int .i64 1, .int .i64 0, .int .i64 2]) := Lib.hid ⟨(Below.refl _ _).alloc (Nat.le_refl _) _, Blk.new _ _ _⟩
  generalize w6.alloc (.cells #[.int .i64 1, .int .i64 0, .int .i64 2] 3) = w7 at *
  have HQ := Lib.hid (equalI_any [1, 0, 2] [1, 0, 2] A (some ⟨w6.heap.size, 0, none⟩) 3 3 c 3 w7 rfl rfl (by omega) (by omega) (HI.out.next HW.out.1) (ints_blk HW.out.2 rfl) (r := true) (by decide))
  refine HQ.out.mono ?_
  rintro e w8 ⟨rfl, hb8⟩
  have HB8 := Lib.hid (HB6.out.trans ((HW.out.1.mono HB6.out.size).trans (hb8.mono (Nat.le_trans HB6.out.size HW.out.1.size))))
  clear hb8 HQ
  have HL := Lib.hid (long_look w8)
  go_wp2_with fail
  refine HL.out.mono ?_
  rintro e w9 ⟨rfl, hb9⟩
  have HB9 := Lib.hid (HB8.out.trans (hb9.mono HB8.out.size))
  clear hb9
  go_wp2_with fail
  go_ret
  exact ⟨rfl, HB9.out⟩
end Go.Proofs.Ytogjfmgecnoceaa
