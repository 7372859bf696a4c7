/- Rows of numbers beside other blocks (printed by srt.py). -/
import Derived.Test.YtmchjmflkaiakaaGreatDoorStJ
import Derived.Test.YtmchjmflkaiakaaGreatDoorSoA
namespace Go.Proofs.YtmchjmflkaiakaaGreatDoor
open Go.RowKit
set_option linter.unusedVariables false
set_option linter.unusedSimpArgs false
def RowLN (v : Value) (out : Nums) (lr : List Own) : Prop :=
 (v = .slice none 0 0 ∧ out = [] ∧ lr = []) ∨ ∃ g cap J, v = .slice (some ⟨g, 0, none⟩) out.length cap ∧ lr = [(g, 27, RX J out)] ∧ 0 < out.length ∧ out.length ≤ cap ∧ cap ≤ maxLen ∧ (RX J out).size = cap * 3
def RowStN (W : World) (l : List Own) (v : Value) (out : Nums) (w : World) : Prop := ∃ lr, RowLN v out lr ∧ St W (lr ++ l) w
theorem RowStN.next {W w w' : World} {l : List Own} {v : Value} {out : Nums} (h : RowStN W l v out w) (hb : Below w.heap.size w w') : RowStN W l v out w' := by
 obtain ⟨lr, h1, h2⟩ := h
 exact ⟨lr, h1, h2.next hb⟩
theorem RowStN.st {W w : World} {l : List Own} {v : Value} {out : Nums} (h : RowStN W l v out w) : St W l w := by
 obtain ⟨lr, h1, h2⟩ := h
 exact h2.sub (List.sublist_append_right _ _)
theorem RowStN.less {W w : World} {l l' : List Own} {v : Value} {out : Nums} (h : RowStN W l v out w) (hs : l'.Sublist l) : RowStN W l' v out w := by
 obtain ⟨lr, h1, h2⟩ := h
 exact ⟨lr, h1, h2.sub (List.Sublist.append_left hs lr)⟩
theorem RowStN.append {P : Program} {Q : Exit → Act → World → Prop} {a : Act} {w W : World} {K : Act → World → Prop} {o : Oper} {s x : Operand} {t : TypeId} {v : Value} {out : Nums} {l : List Own} {p : Rat} {g1 c1 : Nat}
  (ho : o.op = .call { callee := .builtin .append, args := #[s, x], argTypes := #[t, t] }) (ht : P.underlying t = some (.slice 27)) (hi : (P.info? 27).map (fun i => (i.zero, i.size, i.bytes)) = some (some (.agg #[.bool false, .string ⟨#[]⟩, .string ⟨#[]⟩]), 3, 40))
  (hR : RowStN W l v out w) (hs : a.eval s = v) (hx : a.eval x = .slice (some ⟨g1, 0, none⟩) 1 c1) (hb : Blk w g1 27 (RC p)) (hlen : out.length ≤ 10000)
  (h : ∀ v' w', RowStN W l v' (out ++ [p]) w' → K (a.put o.dst v') w') : o.wp P a w K Q := by
 obtain ⟨lr, hl, hst⟩ := hR
 obtain ⟨i0, hi0, hz0, hz1, hz2⟩ := info_parts hi
 have hown : w.ownsRow W.heap.size 27 3 v out.length (fr out) := by
  rcases hl with ⟨h1, h2, h3⟩ | ⟨g, cap, J, h1, h2, h3, h4, h5, h6⟩
  ·subst h1 h2; exact World.ownsRow_nil w _ _ _
  ·have hb2 := hst.blk _ (List.mem_append_left _ (by rw [h2]; exact List.mem_cons_self))
   refine ⟨by rw [fr_len, Nat.mul_comm], .inr ⟨g, cap, _, h1, hb2.1, hb2.2, h4, h5, h6, ?_⟩⟩
   rw [RX_list, List.take_append_of_le_length (by rw [fr_len]; omega), List.take_of_length_le (by rw [fr_len]; omega)]
 have hne : ∀ e ∈ l, some e.1 ≠ v.ownBlock := by
  intro e he
  rcases hl with ⟨h1, h2, h3⟩ | ⟨g, cap, J, h1, h2, h3, h4, h5, h6⟩
  ·subst h1; simp [Value.ownBlock]
  ·subst h1
   simp only [Value.ownBlock]
   intro e9
   injection e9 with e9
   exact (List.pairwise_append.1 hst.apart).2.2 (g, 27, RX J out) (by rw [h2]; exact List.mem_cons_self) e he e9.symm
 have hB : ∀ k, v.ownBlock = some k → W.heap.size ≤ k := fun k hk => (hown.lt k hk).1
 refine wp_append_any w s x t ho W.heap.size 27 i0 _ 3 40 ht hi0 hz0 hz1 hz2 rfl (by omega) v out.length (fr out) hs hown w.heap.size _ 1 c1 (RC p).toList hx (hb.reads rfl rfl) (fun u hu => RC_one _ u (by simpa using hu)) (by unfold maxLen; omega) (by omega) hst.below.size fun v' w' a1 a2 a3 => ?_
 obtain ⟨g', cap', J', hv, hb', hc1, hc2, hc3, hc4⟩ := size_of_own a1 (by omega)
 refine h v' w' ⟨[(g', 27, RX J' (out ++ [p]))], .inr ⟨g', cap', J', by rw [hv, List.length_append]; rfl, rfl, by simp, by rw [List.length_append]; exact hc1, hc2, ?_⟩, ?_⟩
 ·have e : (RX J' (out ++ [p])).size = (fr out ++ (RC p).toList ++ J').length := by
   rw [RX_size, List.length_append, List.length_append, List.length_append, fr_len]
   show 3 * (out.length + 1) + J'.length = 3 * out.length + 3 + J'.length
   omega
  rw [e, hc3]
 ·have hst0 : St W l w := hst.sub (List.sublist_append_right _ _)
  have hst1 := hst0.grown a2 hB hne
  refine St.cons hst1 hb' (fun e he e9 => ?_) ?_
  ·rcases a3 with e3 | e3
   ·apply hne e he
    rw [← e3, hv]
    simp only [Value.ownBlock]
    rw [e9]
   ·rw [hv] at e3
    simp only [Value.ownBlock] at e3
    injection e3 with e3
    have := (hst0.blk e he).2.lt
    omega
  ·have e : RX J' (out ++ [p]) = (fr out ++ (RC p).toList ++ J').toArray := by
    apply Array.toList_inj.1
    rw [RX_list, fr_app]
    simp [fr, rl]
   rw [e]
   exact hc4
end Go.Proofs.YtmchjmflkaiakaaGreatDoor
