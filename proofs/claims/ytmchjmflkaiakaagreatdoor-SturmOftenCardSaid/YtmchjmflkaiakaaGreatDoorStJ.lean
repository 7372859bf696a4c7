/- A row of spans that a recursive function hands on: who owns it, appends, what else stays. -/
import Derived.Test.YtmchjmflkaiakaaGreatDoorStI
import Derived.Test.YtmchjmflkaiakaaGreatDoorInvT
import Derived.Test.YtmchjmflkaiakaaGreatDoorHuA
namespace Go.Proofs.YtmchjmflkaiakaaGreatDoor
open Go.RowKit
set_option linter.unusedVariables false
set_option linter.unusedSimpArgs false
section
variable {P : Program} {ops : Array Oper} {W : World} {l : List Own} {Q : Exit → Act → World → Prop} {gs : List Nat}
theorem chainW_text : ∀ (post : List Oper) (k : Nat) (a : Act) (w : World), ops.toList.drop k = post → chainW P ops Q post a w → wpOps P ops Q (List.range' k post.length) a w
 | [], k, a, w, _, h => h
 | o :: r, k, a, w, hd, h => by
   have hok : ops[k]? = some o := by
    rw [← Array.getElem?_toList]
    have := congrArg (fun l => l[0]?) hd
    simpa [List.getElem?_drop] using this
   have hdr : ops.toList.drop (k + 1) = r := by
    have := congrArg List.tail hd
    simpa [List.tail_drop] using this
   obtain ⟨h1, h2⟩ := h
   rw [List.length_cons, List.range'_succ, wpOps_cons]
   unfold Go.wpOp
   unfold wants at h1
   simp only [hok, h1, if_true]
   exact .inl (Oper.wp_mono (fun a' w' h3 => chainW_text r (k + 1) a' w' hdr h3) h2)
theorem Seq.textC {post : List Oper} (hg : gs.contains 3000000 = false) : ∀ (pre : List Oper) (k : Nat) (a : Act) (R : Reg) (w : World), ops.toList.drop k = pre ++ post → StR W l R w →
  Seq P ops (fun _ a w => chainW P ops Q post a w) W l gs k pre a R → wpOps P ops Q (List.range' k (pre.length + post.length)) a w
 | [], k, a, R, w, hd, hw, h => by
   rw [List.length_nil, Nat.zero_add]
   exact chainW_text post k a w hd (h w hw)
 | o :: pre, k, a, R, w, hd, hw, h => by
   have hok : ops[k]? = some o := by
    rw [← Array.getElem?_toList]
    have := congrArg (fun l => l[0]?) hd
    simpa [List.getElem?_drop] using this
   have hdr : ops.toList.drop (k + 1) = pre ++ post := by
    have := congrArg List.tail hd
    simpa [List.tail_drop] using this
   rw [List.length_cons, show pre.length + 1 + post.length = (pre.length + post.length) + 1 by omega, List.range'_succ, wpOps_cons]
   rcases h with h | ⟨h0, _⟩
   ·exact StepK.wpOp hok h hw fun a R w h hw => Seq.textC hg pre (k + 1) a R w hdr hw h
   ·rw [hg] at h0; cases h0
theorem wp_seq_textC {id : Nat} {rest post : List Oper} {a : Act} {w : World} {R : Reg} (n : Nat) (gs : List Nat) (hg : gs.contains 3000000 = false) (hpost : rest.drop n = post) (hn : decide (n ≤ rest.length) = true) (hw : StR W l R w)
  (h : Seq P rest.toArray (fun _ a w => chainW P rest.toArray Q post a w) W l gs 0 (rest.take n) a R) : (Code.region id rest.toArray false).wp P Q a w := by
 refine wp_region ?_
 rw [List.range_eq_range']
 have h2 := Seq.textC (post := post) hg (rest.take n) 0 a R w (by simp [← hpost]) hw h
 have e : (rest.take n).length + post.length = rest.toArray.size := by
  have := of_decide_eq_true hn
  rw [← hpost]
  simp
  omega
 rw [e] at h2
 exact h2
theorem w_call {a : Act} {w : World} {K : Act → World → Prop} {o : Oper} {f : FuncId} {xs : List Operand} {ts : Array TypeId} {vs : Array Value} {R : Ending → World → Prop} (ho : o.op = .call { callee := .value (.func f), args := xs.toArray, argTypes := ts })
  (hx : xs.map a.eval = vs.toList) (hf : goesIn P f = true) (hc : Calls P f vs w R) (h : ∀ e w', R e w' → ∃ v, e = .returned v ∧ K (a.put o.dst v) w') : o.wp P a w K Q := by
 have hr : (execOp a.eval o).run P w = .ok (.enter f vs) w := by
  unfold goesIn at hf
  cases hp : P.funcs[f]? with
  | none => simp [hp] at hf
  | some fn =>
    simp only [hp, Bool.and_eq_true, bne_iff_ne, ne_eq] at hf
    have hb : fn.body.isNone = false := by cases hq : fn.body <;> simp_all
    have hv : (xs.map a.eval).toArray = vs := by rw [hx]
    simp [execOp, ho, resolve, invoke, callFunc, Deferred.ofValue, Act.eval, hp, hf.1, hb, hv, go_sem]
    intro hq; rw [hq] at hb; cases hb
 unfold Oper.wp
 rw [hr]
 simp only [Oper.upon]
 refine Calls.mono hc fun e w' he => ?_
 obtain ⟨v, rfl, h2⟩ := h e w' he
 exact h2
end
theorem infoSp : (Tryz.prog.info? 32).map (fun i => (i.zero, i.size, i.bytes)) = some (some (.agg #[.bool false, .string ⟨#[]⟩, .string ⟨#[]⟩, .bool false, .string ⟨#[]⟩, .string ⟨#[]⟩]), 6, 80) := by kernel_rfl
def RowL (v : Value) (out : List Spn) (lr : List Own) : Prop :=
 (v = .slice none 0 0 ∧ out = [] ∧ lr = []) ∨ ∃ g cap J, v = .slice (some ⟨g, 0, none⟩) out.length cap ∧ lr = [(g, 32, PX J out)] ∧ 0 < out.length ∧ out.length ≤ cap ∧ cap ≤ maxLen ∧ (PX J out).size = cap * 6
def RowSt (W : World) (l : List Own) (v : Value) (out : List Spn) (w : World) : Prop := ∃ lr, RowL v out lr ∧ St W (lr ++ l) w
theorem RowSt.next {W w w' : World} {l : List Own} {v : Value} {out : List Spn} (h : RowSt W l v out w) (hb : Below w.heap.size w w') : RowSt W l v out w' := by
 obtain ⟨lr, h1, h2⟩ := h
 exact ⟨lr, h1, h2.next hb⟩
theorem RowSt.st {W w : World} {l : List Own} {v : Value} {out : List Spn} (h : RowSt W l v out w) : St W l w := by
 obtain ⟨lr, h1, h2⟩ := h
 exact h2.sub (List.sublist_append_right _ _)
theorem RowSt.less {W w : World} {l l' : List Own} {v : Value} {out : List Spn} (h : RowSt W l v out w) (hs : l'.Sublist l) : RowSt W l' v out w := by
 obtain ⟨lr, h1, h2⟩ := h
 exact ⟨lr, h1, h2.sub (List.Sublist.append_left hs lr)⟩
def KeptB (W : World) (lr : List Own) (w w' : World) : Prop := ∀ g t cs, W.heap.size ≤ g → (∀ e ∈ lr, e.1 ≠ g) → Blk w g t cs → Blk w' g t cs
def allOwn (W : World) (lr : List Own) (w : World) : List Own :=
 (List.range w.heap.size).filterMap fun g => match w.heap[g]? with
  | some (Obj.cells cs t (0, 0)) => if W.heap.size ≤ g ∧ ∀ e ∈ lr, e.1 ≠ g then some (g, t, cs) else none
  | _ => none
theorem allOwn_mem {W w : World} {lr : List Own} {g : Nat} {t : TypeId} {cs : Array Value} : (g, t, cs) ∈ allOwn W lr w ↔ (W.heap.size ≤ g ∧ (∀ e ∈ lr, e.1 ≠ g) ∧ Blk w g t cs) := by
 unfold allOwn
 rw [List.mem_filterMap]
 constructor
 ·rintro ⟨k, hk, h⟩
  split at h
  ·rename_i cs' t' hh
   split at h
   ·rename_i hc
    injection h with h
    injection h with h1 h2
    injection h2 with h2 h3
    subst h1 h2 h3
    exact ⟨hc.1, hc.2, hh⟩
   ·cases h
  ·cases h
 ·rintro ⟨h1, h2, h3⟩
  refine ⟨g, by simpa using h3.lt, ?_⟩
  have h4 : w.heap[g]? = some (.cells cs t (0, 0)) := h3
  rw [h4]
  exact if_pos ⟨h1, h2⟩
theorem allOwn_apart (W w : World) (lr : List Own) : (allOwn W lr w).Pairwise (fun x y => x.1 ≠ y.1) := by
 unfold allOwn
 rw [List.pairwise_filterMap]
 refine List.Pairwise.imp (fun {a b} hab x hx y hy e => ?_) (List.pairwise_lt_range (n := w.heap.size))
 have key : ∀ (k : Nat) (z : Own), (match w.heap[k]? with
  | some (Obj.cells cs t (0, 0)) => if W.heap.size ≤ k ∧ ∀ e ∈ lr, e.1 ≠ k then some (k, t, cs) else none
  | _ => none) = some z → z.1 = k := by
  intro k z h
  split at h
  ·split at h
   ·injection h with h; rw [← h]
   ·cases h
  ·cases h
 have e1 := key a x hx
 have e2 := key b y hy
 omega
theorem St.all {W w : World} {lr : List Own} (h : St W lr w) : St W (lr ++ allOwn W lr w) w := by
 refine ⟨h.below, fun e he => ?_, ?_⟩
 ·rcases List.mem_append.1 he with he | he
  ·exact h.blk e he
  ·obtain ⟨h1, h2, h3⟩ := allOwn_mem.1 he
   exact ⟨h1, h3⟩
 ·rw [List.pairwise_append]
  exact ⟨h.apart, allOwn_apart W w lr, fun a ha b hb => (allOwn_mem.1 (show (b.1, b.2.1, b.2.2) ∈ allOwn W lr w from hb)).2.1 a ha⟩
theorem row_kept {P : Program} {f : FuncId} {vs : Array Value} {W : World} {v : Value} {out o1 : List Spn} (hc : ∀ (l : List Own) (w : World), RowSt W l v out w → Calls P f vs w fun e w' => ∃ v', e = .returned v' ∧ RowSt W l v' o1 w')
  {l lr : List Own} {w : World} (hl : RowL v out lr) (hs : St W (lr ++ l) w) : Calls P f vs w fun e w' => ∃ v', e = .returned v' ∧ RowSt W l v' o1 w' ∧ KeptB W lr w w' := by
 have h0 : St W lr w := hs.sub (List.sublist_append_left _ _)
 refine (hc (allOwn W lr w) w ⟨lr, hl, h0.all⟩).mono fun e w' h => ?_
 obtain ⟨v', rfl, lr', h1, h2⟩ := h
 have hk : KeptB W lr w w' := fun g t cs hg hn hb => (h2.blk (g, t, cs) (List.mem_append_right _ (allOwn_mem.2 ⟨hg, hn, hb⟩))).2
 refine ⟨v', rfl, ⟨lr', h1, h2.below, fun e he => ?_, ?_⟩, hk⟩
 ·rcases List.mem_append.1 he with he | he
  ·exact h2.blk e (List.mem_append_left _ he)
  ·have hb := hs.blk e (List.mem_append_right _ he)
   exact ⟨hb.1, hk _ _ _ hb.1 (fun x hx => (List.pairwise_append.1 hs.apart).2.2 x hx e he) hb.2⟩
 ·rw [List.pairwise_append]
  refine ⟨(List.pairwise_append.1 h2.apart).1, (List.pairwise_append.1 hs.apart).2.1, fun a ha b hb => ?_⟩
  refine (List.pairwise_append.1 h2.apart).2.2 a ha b ?_
  have hbb := hs.blk b (List.mem_append_right _ hb)
  exact allOwn_mem.2 ⟨hbb.1, fun x hx => (List.pairwise_append.1 hs.apart).2.2 x hx b hb, hbb.2⟩
theorem RowSt.append {P : Program} {Q : Exit → Act → World → Prop} {a : Act} {w W : World} {K : Act → World → Prop} {o : Oper} {s x : Operand} {t : TypeId} {v : Value} {out : List Spn} {l : List Own} {p q : Rat} {g1 c1 : Nat}
  (ho : o.op = .call { callee := .builtin .append, args := #[s, x], argTypes := #[t, t] }) (ht : P.underlying t = some (.slice 32)) (hi : (P.info? 32).map (fun i => (i.zero, i.size, i.bytes)) = some (some (.agg #[.bool false, .string ⟨#[]⟩, .string ⟨#[]⟩, .bool false, .string ⟨#[]⟩, .string ⟨#[]⟩]), 6, 80))
  (hR : RowSt W l v out w) (hs : a.eval s = v) (hx : a.eval x = .slice (some ⟨g1, 0, none⟩) 1 c1) (hb : Blk w g1 32 (VC p q)) (hlen : out.length ≤ 10000)
  (h : ∀ v' w', RowSt W l v' (out ++ [(p, q)]) w' → K (a.put o.dst v') w') : o.wp P a w K Q := by
 obtain ⟨lr, hl, hst⟩ := hR
 obtain ⟨i0, hi0, hz0, hz1, hz2⟩ := info_parts hi
 have hown : w.ownsRow W.heap.size 32 6 v out.length (fl out) := by
  rcases hl with ⟨h1, h2, h3⟩ | ⟨g, cap, J, h1, h2, h3, h4, h5, h6⟩
  ·subst h1 h2; exact World.ownsRow_nil w _ _ _
  ·have hb2 := hst.blk _ (List.mem_append_left _ (by rw [h2]; exact List.mem_cons_self))
   refine ⟨by rw [fl_len, Nat.mul_comm], .inr ⟨g, cap, _, h1, hb2.1, hb2.2, h4, h5, h6, ?_⟩⟩
   rw [PX_list, List.take_append_of_le_length (by rw [fl_len]; omega), List.take_of_length_le (by rw [fl_len]; omega)]
 have hne : ∀ e ∈ l, some e.1 ≠ v.ownBlock := by
  intro e he
  rcases hl with ⟨h1, h2, h3⟩ | ⟨g, cap, J, h1, h2, h3, h4, h5, h6⟩
  ·subst h1; simp [Value.ownBlock]
  ·subst h1
   simp only [Value.ownBlock]
   intro e9
   injection e9 with e9
   exact (List.pairwise_append.1 hst.apart).2.2 (g, 32, PX J out) (by rw [h2]; exact List.mem_cons_self) e he e9.symm
 have hB : ∀ k, v.ownBlock = some k → W.heap.size ≤ k := fun k hk => (hown.lt k hk).1
 refine wp_append_any w s x t ho W.heap.size 32 i0 _ 6 80 ht hi0 hz0 hz1 hz2 rfl (by omega) v out.length (fl out) hs hown w.heap.size _ 1 c1 (VC p q).toList hx (hb.reads rfl rfl) (fun u hu => VC_one _ _ u (by simpa using hu)) (by unfold maxLen; omega) (by omega) hst.below.size fun v' w' a1 a2 a3 => ?_
 obtain ⟨g', cap', J', hv, hb', hc1, hc2, hc3, hc4⟩ := size_of_own a1 (by omega)
 refine h v' w' ⟨[(g', 32, PX J' (out ++ [(p, q)]))], .inr ⟨g', cap', J', by rw [hv, List.length_append]; rfl, rfl, by simp, by rw [List.length_append]; exact hc1, hc2, ?_⟩, ?_⟩
 ·have e : (PX J' (out ++ [(p, q)])).size = (fl out ++ (VC p q).toList ++ J').length := by
   rw [PX_size, List.length_append, List.length_append, List.length_append, fl_len]
   show 6 * (out.length + 1) + J'.length = 6 * out.length + 6 + J'.length
   omega
  rw [e, hc3]
 ·have hst0 : St W l w := hst.sub (List.sublist_append_right _ _)
  have hst1 := hst0.grown a2 hB hne
  refine St.cons hst1 hb' (fun e he e9 => ?_) ?_
  ·rcases a3 with e3 | e3
   ·apply hne e he
    rw [← e3, hv]
    simp only [Value.ownBlock]
    rw [e9]
   ·rw [hv] at e3
    simp only [Value.ownBlock] at e3
    injection e3 with e3
    have := (hst0.blk e he).2.lt
    omega
  ·have e : PX J' (out ++ [(p, q)]) = (fl out ++ (VC p q).toList ++ J').toArray := by
    apply Array.toList_inj.1
    rw [PX_list, fl_app]
    simp [fl, pv]
   rw [e]
   exact hc4
theorem slcS_1 {o : Oper} {a : Act} {X0 : Operand} {x0 y0 : Rat} (ho : o.op = .buildSlice 58 1 #[(0, X0)]) (h0 : a.eval X0 = .agg (VC x0 y0)) (w : World) :
  (execOp a.eval o).run Tryz.prog w = .ok (.value (.slice (some ⟨w.heap.size, 0, none⟩) 1 1)) (w.alloc (.cells (VC x0 y0) 32)) := by
 unfold VC at h0 ⊢
 unfold execOp
 simp only [ho, List.map_toArray, List.map_cons, List.map_nil, h0]
 go_simp
theorem run_fldS0 (g : Nat) (w : World) : (Instr.fieldAt 32 (.pointer (some ⟨g, 0, none⟩)) 0).run Tryz.prog w = .ok (.pointer (some ⟨g, 0, none⟩)) w := by go_simp
theorem run_fldS1 (g : Nat) (w : World) : (Instr.fieldAt 32 (.pointer (some ⟨g, 0, none⟩)) 1).run Tryz.prog w = .ok (.pointer (some ⟨g, 3, none⟩)) w := by go_simp
end Go.Proofs.YtmchjmflkaiakaaGreatDoor
