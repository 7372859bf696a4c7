/- Joined texts. -/
import Derived.OrdersHeld
import Derived.Test.YtekbpiooecdopaaDoorBunLib

/- A region in whatever order it is drawn: each operation is looked at once, in the order of the text. -/
namespace Go.Proofs.YtekbpiooecdopaaDoor
open Go.RowKit
set_option linter.unusedVariables false
set_option linter.unusedSimpArgs false

/-! ### blocks of the call's own -/
abbrev Own := Nat × TypeId × Array Value
/-- the world w: below the start W all is as it was; the blocks of l are the call's own, and known whole -/
structure St (W : World) (l : List Own) (w : World) : Prop where
  below : Below W.heap.size W w
  blk : ∀ e ∈ l, W.heap.size ≤ e.1 ∧ Blk w e.1 e.2.1 e.2.2
  apart : l.Pairwise (fun x y => x.1 ≠ y.1)
section
variable {W w w' : World} {l : List Own}
theorem St.start : St W [] W := ⟨Below.refl _ _, fun _ h => by simp at h, List.Pairwise.nil⟩
theorem St.next (h : St W l w) (hb : Below w.heap.size w w') : St W l w' :=
  ⟨h.below.trans (hb.mono h.below.size), fun e he => ⟨(h.blk e he).1, (h.blk e he).2.belowB hb⟩, h.apart⟩
theorem St.drew (h : St W l w) : St W l w.drew := ⟨h.below.drew, fun e he => ⟨(h.blk e he).1, (h.blk e he).2.drew⟩, h.apart⟩
theorem St.drop {e : Own} (h : St W (e :: l) w) : St W l w := ⟨h.below, fun x hx => h.blk x (List.mem_cons_of_mem _ hx), (List.pairwise_cons.1 h.apart).2⟩
theorem St.box (h : St W l w) (t : TypeId) (cs : Array Value) : St W ((w.heap.size, t, cs) :: l) (w.alloc (.cells cs t)) := by
  refine ⟨h.below.alloc h.below.size _, fun e he => ?_, List.pairwise_cons.2 ⟨fun e he => ?_, h.apart⟩⟩
  · rcases List.mem_cons.1 he with rfl | he
    · exact ⟨h.below.size, Blk.new _ _ _⟩
    · exact ⟨(h.blk e he).1, (h.blk e he).2.alloc _⟩
  · exact Ne.symm (Nat.ne_of_lt (h.blk e he).2.lt)
theorem St.perm {l' : List Own} (h : St W l w) (hp : l.Perm l') : St W l' w :=
  ⟨h.below, fun e he => h.blk e (hp.mem_iff.2 he), (hp.pairwise_iff (fun h => Ne.symm h)).1 h.apart⟩
theorem St.sub {l' : List Own} (h : St W l w) (hs : l'.Sublist l) : St W l' w :=
  ⟨h.below, fun e he => h.blk e (hs.subset he), h.apart.sublist hs⟩
end

/-! ### blocks that the region makes or stores into -/
abbrev Reg := Nat → Option (TypeId × Array Value)
def Reg.put (R : Reg) (p : Nat) (x : TypeId × Array Value) : Reg := fun q => if q = p then some x else R q
def Reg.no : Reg := fun _ => none
theorem Reg.put_same (R : Reg) (p : Nat) (x : TypeId × Array Value) : R.put p x p = some x := by simp [Reg.put]
theorem Reg.put_ne (R : Reg) {p q : Nat} (x : TypeId × Array Value) (h : q ≠ p) : R.put p x q = R q := by simp [Reg.put, h]
theorem Reg.put_comm (R : Reg) {p q : Nat} (x y : TypeId × Array Value) (h : p ≠ q) : (R.put p x).put q y = (R.put q y).put p x := by
  funext k
  unfold Reg.put
  by_cases h1 : k = q
  · subst h1; simp [Ne.symm h]
  · simp [h1]
def Reg.fin (R : Reg) : Prop := ∃ N, ∀ p, N ≤ p → R p = none
theorem Reg.fin_no : Reg.no.fin := ⟨0, fun _ _ => rfl⟩
theorem Reg.fin.put {R : Reg} (h : R.fin) (p : Nat) (x : TypeId × Array Value) : (R.put p x).fin := by
  obtain ⟨N, h⟩ := h
  exact ⟨N + p + 1, fun q hq => by rw [Reg.put_ne _ _ (by omega)]; exact h q (by omega)⟩

structure StR (W : World) (l : List Own) (R : Reg) (w : World) : Prop where
  st : St W l w
  reg : ∀ p t cs, R p = some (t, cs) → W.heap.size ≤ p ∧ (∀ e ∈ l, e.1 ≠ p) ∧ Blk w p t cs
section
variable {W w w' : World} {l : List Own} {R : Reg}
theorem StR.no (h : St W l w) : StR W l Reg.no w := ⟨h, fun _ _ _ h => by cases h⟩
theorem StR.next (h : StR W l R w) (hb : Below w.heap.size w w') : StR W l R w' :=
  ⟨h.st.next hb, fun p t cs hp => ⟨(h.reg p t cs hp).1, (h.reg p t cs hp).2.1, (h.reg p t cs hp).2.2.belowB hb⟩⟩
theorem StR.less {p : Nat} {x : TypeId × Array Value} (h : StR W l (R.put p x) w) (hp : R p = none) : StR W l R w :=
  ⟨h.st, fun q t cs hq => h.reg q t cs (by rw [Reg.put_ne _ _ (fun e => by subst e; rw [hp] at hq; cases hq)]; exact hq)⟩
theorem StR.move {e : Own} (h : StR W (e :: l) R w) : StR W l (R.put e.1 e.2) w := by
  refine ⟨h.st.drop, fun p t cs hp => ?_⟩
  by_cases hpe : p = e.1
  · subst hpe
    rw [Reg.put_same] at hp
    injection hp with hp
    have := h.st.blk e List.mem_cons_self
    exact ⟨this.1, fun x hx => Ne.symm ((List.pairwise_cons.1 h.st.apart).1 x hx), by rw [hp] at this; exact this.2⟩
  · rw [Reg.put_ne _ _ hpe] at hp
    have := h.reg p t cs hp
    exact ⟨this.1, fun x hx => this.2.1 x (List.mem_cons_of_mem _ hx), this.2.2⟩
/-- a block of R joins the list -/
theorem StR.take (h : StR W l R w) {p : Nat} {x : TypeId × Array Value} (hp : R p = some x) : StR W ((p, x) :: l) (fun q => if q = p then none else R q) w := by
  have h1 := h.reg p x.1 x.2 hp
  refine ⟨⟨h.st.below, fun e he => ?_, List.pairwise_cons.2 ⟨fun e he => Ne.symm (h1.2.1 e he), h.st.apart⟩⟩, fun q t cs hq => ?_⟩
  · rcases List.mem_cons.1 he with rfl | he
    · exact ⟨h1.1, h1.2.2⟩
    · exact h.st.blk e he
  · by_cases hqp : q = p
    · simp [hqp] at hq
    · simp only [hqp, if_false] at hq
      have h2 := h.reg q t cs hq
      refine ⟨h2.1, fun e he => ?_, h2.2.2⟩
      rcases List.mem_cons.1 he with rfl | he
      · exact Ne.symm hqp
      · exact h2.2.1 e he
end
theorem fresh_ex (W : World) (l : List Own) {R : Reg} (h : R.fin) : ∃ p, W.heap.size ≤ p ∧ (∀ e ∈ l, e.1 ≠ p) ∧ R p = none := by
  obtain ⟨N, h⟩ := h
  have hm : ∃ M, ∀ e ∈ l, e.1 < M := by
    clear h
    induction l with
    | nil => exact ⟨0, fun _ h => by cases h⟩
    | cons x l ih =>
      obtain ⟨M, ih⟩ := ih
      exact ⟨M + x.1 + 1, fun e he => by rcases List.mem_cons.1 he with rfl | he; omega; have := ih e he; omega⟩
  obtain ⟨M, hm⟩ := hm
  exact ⟨N + W.heap.size + M, by omega, fun e he => by have := hm e he; omega, h _ (by omega)⟩

/-! ### steps -/
section
variable (P : Program) (ops : Array Oper) (W : World) (l : List Own)
/-- the operation's run gives the value v, and what stood there before is as it was -/
def GoesRun (w : World) (v : Value) : Result Next → Prop
  | .ok (.value u) w' => u = v ∧ Below w.heap.size w w'
  | .ok .skip w' => undef = v ∧ Below w.heap.size w w'
  | _ => False
def GoesCall (w : World) (v : Value) : Result Next → Prop
  | .ok (.enter f args) w' => Below w.heap.size w w' ∧ Calls P f args w' (fun e w'' => e = .returned v ∧ Below w'.heap.size w' w'')
  | _ => False
def isCall (o : Oper) : Bool := match o.op with | .call .. => true | _ => false
def isLoad (o : Oper) : Bool := match o.op with | .load .. => true | _ => false
def isStore (o : Oper) : Bool := match o.op with | .store .. => true | _ => false
def wants (o : Oper) (a : Act) : Bool := Region.wanted o (yielded ops a.tmps)
def ValK (o : Oper) (a : Act) (v : Value) : Prop :=
  (∀ w, St W l w → GoesRun w v ((execOp a.eval o).run P w)) ∨ (isCall o = true ∧ ∀ w, St W l w → GoesCall P w v ((execOp a.eval o).run P w))
def GetK (o : Oper) (a : Act) (p : Nat) (x : TypeId × Array Value) (v : Value) : Prop :=
  isLoad o = true ∧ ∀ w, Blk w p x.1 x.2 → (execOp a.eval o).run P w = .ok (.value v) w
/-- the pointer to a new block, or a slice of it -/
def mk (k : Option Nat) (p : Nat) : Value := match k with | none => .pointer (some ⟨p, 0, none⟩) | some n => .slice (some ⟨p, 0, none⟩) n n
def NewK (o : Oper) (a : Act) (k : Option Nat) (x : TypeId × Array Value) : Prop :=
  ∀ w : World, (execOp a.eval o).run P w = .ok (.value (mk k w.heap.size)) (w.alloc (.cells x.2 x.1))
def PutK (o : Oper) (a : Act) (p : Nat) (x y : TypeId × Array Value) : Prop :=
  isStore o = true ∧ ∀ w, Blk w p x.1 x.2 → ∃ w', (execOp a.eval o).run P w = .ok .skip w' ∧ Blk w' p y.1 y.2 ∧ (∀ k, k ≠ p → w'.heap[k]? = w.heap[k]?) ∧ w'.os = w.os ∧ w'.tape = w.tape ∧ w'.output = w.output ∧ w'.heap.size = w.heap.size

def Fresh (R : Reg) (p : Nat) : Prop := W.heap.size ≤ p ∧ (∀ e ∈ l, e.1 ≠ p) ∧ R p = none
/-- the call gives a pointer to (a slice of) a block of its own -/
def GoesFresh (w : World) (f : Option Nat) (x : TypeId × Array Value) : Result Next → Prop
  | .ok (.enter g args) w' => Below w.heap.size w w' ∧ Calls P g args w' (fun e w'' => ∃ p, w'.heap.size ≤ p ∧ e = .returned (mk f p) ∧ Below w'.heap.size w' w'' ∧ Blk w'' p x.1 x.2)
  | _ => False
def FreshK (R : Reg) (o : Oper) (a : Act) (f : Option Nat) (x : TypeId × Array Value) : Prop := isCall o = true ∧ ∀ w, StR W l R w → GoesFresh P w f x ((execOp a.eval o).run P w)
def AnyK (R : Reg) (o : Oper) (a : Act) (v : Value) : Prop := isCall o = true ∧ ∀ w, StR W l R w → GoesCall P w v ((execOp a.eval o).run P w)
inductive Kd where | val | get | new | put | any | fresh
def StepK (k : Kd) (o : Oper) (a : Act) (R : Reg) (K : Act → Reg → Prop) : Prop :=
  (wants ops o a = false ∧ K (a.put o.dst undef) R) ∨ (wants ops o a = true ∧ match k with
    | .val => ∃ v, ValK P W l o a v ∧ K (a.put o.dst v) R
    | .get => ∃ p x v, R p = some x ∧ GetK P o a p x v ∧ K (a.put o.dst v) R
    | .new => ∃ f x, NewK P o a f x ∧ ∀ p, Fresh W l R p → K (a.put o.dst (mk f p)) (R.put p x)
    | .put => ∃ p x y, R p = some x ∧ PutK P o a p x y ∧ K (a.put o.dst undef) (R.put p y)
    | .any => ∃ v, AnyK P W l R o a v ∧ K (a.put o.dst v) R
    | .fresh => ∃ f x, FreshK P W l R o a f x ∧ ∀ p, Fresh W l R p → K (a.put o.dst (mk f p)) (R.put p x))
def StepD (o : Oper) (a : Act) (R : Reg) (K : Act → Reg → Prop) : Prop := ∃ k, StepK P ops W l k o a R K
end
section
variable {P : Program} {ops : Array Oper} {W : World} {l : List Own} {md : Region.Mode} {Q : Exit → Act → World → Prop}

theorem StepK.mono {k : Kd} {o : Oper} {a : Act} {R : Reg} {K K' : Act → Reg → Prop} (h : ∀ a R, K a R → K' a R) (hs : StepK P ops W l k o a R K) : StepK P ops W l k o a R K' := by
  rcases hs with ⟨h1, h2⟩ | ⟨h1, h2⟩
  · exact .inl ⟨h1, h _ _ h2⟩
  · refine .inr ⟨h1, ?_⟩
    cases k with
    | val => obtain ⟨v, h2, h3⟩ := h2; exact ⟨v, h2, h _ _ h3⟩
    | get => obtain ⟨p, x, v, h2, h3, h4⟩ := h2; exact ⟨p, x, v, h2, h3, h _ _ h4⟩
    | new => obtain ⟨f, x, h2, h3⟩ := h2; exact ⟨f, x, h2, fun p hp => h _ _ (h3 p hp)⟩
    | put => obtain ⟨p, x, y, h2, h3, h4⟩ := h2; exact ⟨p, x, y, h2, h3, h _ _ h4⟩
    | any => obtain ⟨v, h2, h3⟩ := h2; exact ⟨v, h2, h _ _ h3⟩
    | fresh => obtain ⟨f, x, h2, h3⟩ := h2; exact ⟨f, x, h2, fun p hp => h _ _ (h3 p hp)⟩

theorem StepK.ex {k : Kd} {o : Oper} {a : Act} {R : Reg} {K : Act → Reg → Prop} (hR : R.fin) (hs : StepK P ops W l k o a R K) : ∃ a' R', R'.fin ∧ K a' R' := by
  rcases hs with ⟨h1, h2⟩ | ⟨h1, h2⟩
  · exact ⟨_, _, hR, h2⟩
  · cases k with
    | val => obtain ⟨v, h2, h3⟩ := h2; exact ⟨_, _, hR, h3⟩
    | get => obtain ⟨p, x, v, h2, h3, h4⟩ := h2; exact ⟨_, _, hR, h4⟩
    | new =>
      obtain ⟨f, x, h2, h3⟩ := h2
      obtain ⟨p, hp⟩ := fresh_ex W l hR
      exact ⟨_, _, hR.put p x, h3 p hp⟩
    | put => obtain ⟨p, x, y, h2, h3, h4⟩ := h2; exact ⟨_, _, hR.put p y, h4⟩
    | any => obtain ⟨v, h2, h3⟩ := h2; exact ⟨_, _, hR, h3⟩
    | fresh =>
      obtain ⟨f, x, h2, h3⟩ := h2
      obtain ⟨p, hp⟩ := fresh_ex W l hR
      exact ⟨_, _, hR.put p x, h3 p hp⟩
/-- a step keeps R finite -/
theorem StepK.fin {k : Kd} {o : Oper} {a : Act} {R : Reg} {K : Act → Reg → Prop} (hR : R.fin) (hs : StepK P ops W l k o a R K) : StepK P ops W l k o a R (fun a' R' => R'.fin ∧ K a' R') := by
  rcases hs with ⟨h1, h2⟩ | ⟨h1, h2⟩
  · exact .inl ⟨h1, hR, h2⟩
  · refine .inr ⟨h1, ?_⟩
    cases k with
    | val => obtain ⟨v, h2, h3⟩ := h2; exact ⟨v, h2, hR, h3⟩
    | get => obtain ⟨p, x, v, h2, h3, h4⟩ := h2; exact ⟨p, x, v, h2, h3, hR, h4⟩
    | new => obtain ⟨f, x, h2, h3⟩ := h2; exact ⟨f, x, h2, fun p hp => ⟨hR.put p x, h3 p hp⟩⟩
    | put => obtain ⟨p, x, y, h2, h3, h4⟩ := h2; exact ⟨p, x, y, h2, h3, hR.put p y, h4⟩
    | any => obtain ⟨v, h2, h3⟩ := h2; exact ⟨v, h2, hR, h3⟩
    | fresh => obtain ⟨f, x, h2, h3⟩ := h2; exact ⟨f, x, h2, fun p hp => ⟨hR.put p x, h3 p hp⟩⟩

/-- soundness of one step -/
theorem StepK.wpOp {k : Kd} {i : Nat} {o : Oper} {a : Act} {R : Reg} {K : Act → Reg → Prop} (hi : ops[i]? = some o) (hs : StepK P ops W l k o a R K) {w : World} (hw : StR W l R w)
    {K' : Act → World → Prop} (hK : ∀ a R w, K a R → StR W l R w → K' a w) : wpOp P ops Q i K' a w := by
  unfold Go.wpOp
  simp only [hi]
  rcases hs with ⟨h1, h2⟩ | ⟨h1, h2⟩
  · unfold wants at h1
    simp only [h1, Bool.false_eq_true, if_false]; exact hK _ _ _ h2 hw
  · unfold wants at h1
    simp only [h1, if_true]
    refine .inl ?_
    unfold Oper.wp
    cases k with
    | val =>
      obtain ⟨v, h2, h3⟩ := h2
      rcases h2 with h2 | ⟨-, h2⟩
      · have h4 := h2 w hw.st
        generalize (execOp a.eval o).run P w = r at *
        cases r with
        | ok n w' =>
          cases n <;> simp only [GoesRun] at h4 <;> simp only [Oper.upon]
          case value u => obtain ⟨rfl, hb⟩ := h4; exact hK _ _ _ h3 (hw.next hb)
          case skip => obtain ⟨rfl, hb⟩ := h4; exact hK _ _ _ h3 (hw.next hb)
        | halt x w' => simp only [GoesRun] at h4
      · have h4 := h2 w hw.st
        generalize (execOp a.eval o).run P w = r at *
        cases r with
        | ok n w' =>
          cases n <;> simp only [GoesCall] at h4 <;> simp only [Oper.upon]
          case enter f args =>
            refine Calls.mono h4.2 fun e w'' he => ?_
            obtain ⟨rfl, hb⟩ := he
            exact hK _ _ _ h3 ((hw.next h4.1).next hb)
        | halt x w' => simp only [GoesCall] at h4
    | get =>
      obtain ⟨p, x, v, h2, ⟨-, h3⟩, h4⟩ := h2
      rw [h3 w (hw.reg p x.1 x.2 h2).2.2]
      exact hK _ _ _ h4 hw
    | any =>
      obtain ⟨v, ⟨-, h2⟩, h3⟩ := h2
      have h4 := h2 w hw
      generalize (execOp a.eval o).run P w = r at *
      cases r with
      | ok n w' =>
        cases n <;> simp only [GoesCall] at h4 <;> simp only [Oper.upon]
        case enter f args =>
          refine Calls.mono h4.2 fun e w'' he => ?_
          obtain ⟨rfl, hb⟩ := he
          exact hK _ _ _ h3 ((hw.next h4.1).next hb)
      | halt x w' => simp only [GoesCall] at h4
    | fresh =>
      obtain ⟨f, x, ⟨-, h2⟩, h3⟩ := h2
      have h4 := h2 w hw
      generalize (execOp a.eval o).run P w = r at *
      cases r with
      | ok n w' =>
        cases n <;> simp only [GoesFresh] at h4 <;> simp only [Oper.upon]
        case enter f args =>
          refine Calls.mono h4.2 fun e w'' he => ?_
          obtain ⟨p, hpw, rfl, hb, hblk⟩ := he
          have hw1 := hw.next h4.1
          have hf : Fresh W l R p := by
            refine ⟨Nat.le_trans hw1.st.below.size hpw, fun e he => Nat.ne_of_lt (Nat.lt_of_lt_of_le (hw1.st.blk e he).2.lt hpw), ?_⟩
            cases hr : R p with
            | none => rfl
            | some y => exact absurd (hw1.reg _ y.1 y.2 hr).2.2.lt (by omega)
          have hw2 := hw1.next hb
          refine hK _ _ _ (h3 _ hf) ⟨hw2.st, fun q t cs hq => ?_⟩
          by_cases hqp : q = p
          · subst hqp
            rw [Reg.put_same] at hq
            injection hq with hq
            subst hq
            exact ⟨hf.1, hf.2.1, hblk⟩
          · rw [Reg.put_ne _ _ hqp] at hq
            exact hw2.reg q t cs hq
      | halt x w' => simp only [GoesFresh] at h4
    | new =>
      obtain ⟨f, x, h2, h3⟩ := h2
      rw [h2 w]
      have hf : Fresh W l R w.heap.size := by
        refine ⟨hw.st.below.size, fun e he => Nat.ne_of_lt (hw.st.blk e he).2.lt, ?_⟩
        cases hr : R w.heap.size with
        | none => rfl
        | some y => exact absurd (hw.reg _ y.1 y.2 hr).2.2.lt (by omega)
      refine hK _ _ _ (h3 _ hf) ⟨hw.st.next ((Below.refl _ _).alloc (Nat.le_refl _) _), fun p t cs hp => ?_⟩
      by_cases hpe : p = w.heap.size
      · subst hpe
        rw [Reg.put_same] at hp
        injection hp with hp
        subst hp
        exact ⟨hf.1, hf.2.1, Blk.new _ _ _⟩
      · rw [Reg.put_ne _ _ hpe] at hp
        have := hw.reg p t cs hp
        exact ⟨this.1, this.2.1, this.2.2.alloc _⟩
    | put =>
      obtain ⟨p, x, y, h2, ⟨-, h3⟩, h4⟩ := h2
      have hr := hw.reg p x.1 x.2 h2
      obtain ⟨w', e1, hb, hk, ho, ht, hu, hz⟩ := h3 w hr.2.2
      rw [e1]
      have hbel : Below W.heap.size W w' := ⟨ho.trans hw.st.below.os, ht.trans hw.st.below.tape, hu.trans hw.st.below.output, by rw [hz]; exact hw.st.below.size, fun k hkW => (hk k (by have := hr.1; omega)).trans (hw.st.below.block k hkW)⟩
      refine hK _ _ _ h4 ⟨⟨hbel, fun e he => ⟨(hw.st.blk e he).1, (hk e.1 (hr.2.1 e he)).trans (hw.st.blk e he).2⟩, hw.st.apart⟩, fun q t cs hq => ?_⟩
      by_cases hqp : q = p
      · subst hqp
        rw [Reg.put_same] at hq
        injection hq with hq
        subst hq
        exact ⟨hr.1, hr.2.1, hb⟩
      · rw [Reg.put_ne _ _ hqp] at hq
        have := hw.reg q t cs hq
        exact ⟨this.1, this.2.1, (hk q hqp).trans this.2.2⟩

/-! ### two operations that are apart -/
theorem wants_put {o : Oper} {x : Oper} (h : x.apart ops o = true) (a : Act) (v : Value) : wants ops o (a.put x.dst v) = wants ops o a :=
  wanted_put o a x.dst v (Oper.apart_spec h).1
theorem wants_put' {o : Oper} {x : Oper} (h : x.apart ops o = true) (a : Act) (v : Value) : wants ops x (a.put o.dst v) = wants ops x a :=
  wanted_put x a o.dst v (Oper.apart_spec h).2.2
theorem ValK.congr {o : Oper} {a a' : Act} {v : Value} (h : execOp a'.eval o = execOp a.eval o) (hv : ValK P W l o a v) : ValK P W l o a' v := by unfold ValK at *; rw [h]; exact hv
theorem AnyK.congr {o : Oper} {a a' : Act} {R : Reg} {v : Value} (h : execOp a'.eval o = execOp a.eval o) (hv : AnyK P W l R o a v) : AnyK P W l R o a' v := by unfold AnyK at *; rw [h]; exact hv
theorem FreshK.congr {o : Oper} {a a' : Act} {R : Reg} {f : Option Nat} {x : TypeId × Array Value} (h : execOp a'.eval o = execOp a.eval o) (hv : FreshK P W l R o a f x) : FreshK P W l R o a' f x := by unfold FreshK at *; rw [h]; exact hv
theorem GetK.congr {o : Oper} {a a' : Act} {p : Nat} {x : TypeId × Array Value} {v : Value} (h : execOp a'.eval o = execOp a.eval o) (hv : GetK P o a p x v) : GetK P o a' p x v := by unfold GetK at *; rw [h]; exact hv
theorem NewK.congr {o : Oper} {a a' : Act} {k : Option Nat} {x : TypeId × Array Value} (h : execOp a'.eval o = execOp a.eval o) (hv : NewK P o a k x) : NewK P o a' k x := by unfold NewK at *; rw [h]; exact hv
theorem PutK.congr {o : Oper} {a a' : Act} {p : Nat} {x y : TypeId × Array Value} (h : execOp a'.eval o = execOp a.eval o) (hv : PutK P o a p x y) : PutK P o a' p x y := by unfold PutK at *; rw [h]; exact hv

def noSel (o : Oper) : Bool := match o.op with | .select .. => false | _ => true
theorem noSel.spec {o : Oper} (h : noSel o = true) (cs : Array SelectCase) (b : Bool) : o.op ≠ .select cs b := by
  intro e; simp [noSel, e] at h
/-- may the operation oj, not waiting for the operation of kind k, be passed by it? -/
def compat (k : Kd) (oj : Oper) : Bool := match k with
  | .val => true
  | .get => !isStore oj
  | .new => !isCall oj && !isLoad oj && !isStore oj
  | .put => !isLoad oj && !isStore oj && !isCall oj
  | .any => !isStore oj
  | .fresh => !isCall oj && !isLoad oj && !isStore oj

theorem new_inj {w : World} {k k' : Option Nat} {x x' : TypeId × Array Value}
    (h : (Result.ok (Next.value (mk k w.heap.size)) (w.alloc (.cells x.2 x.1))) = .ok (.value (mk k' w.heap.size)) (w.alloc (.cells x'.2 x'.1))) : k = k' ∧ x = x' := by
  injection h with h1 h2
  injection h1 with h1
  have h3 : (w.heap.push (.cells x.2 x.1))[w.heap.size]? = (w.heap.push (.cells x'.2 x'.1))[w.heap.size]? := congrArg (fun u : World => u.heap[w.heap.size]?) h2
  simp at h3
  refine ⟨?_, Prod.ext h3.2 h3.1⟩
  cases k <;> cases k' <;> simp [mk] at h1 ⊢
  exact h1

theorem StepK.comm {k : Kd} {oi oj : Oper} (hap : oi.apart ops oj = true) (hsi : noSel oi = true) (hsj : noSel oj = true) (hc : compat k oj = true) (hex : ∃ w, St W l w)
    {a : Act} {R : Reg} (hR : R.fin) {K : Act → Reg → Prop} (h : StepK P ops W l k oi a R (fun a' R' => StepD P ops W l oj a' R' K)) :
    StepD P ops W l oj a R (fun a' R' => StepK P ops W l k oi a' R' K) := by
  obtain ⟨d1, d2, d3⟩ := Oper.apart_spec hap
  have ei : ∀ (a : Act) v, execOp (a.put oj.dst v).eval oi = execOp a.eval oi := fun a v => execOp_put oi (noSel.spec hsi) a oj.dst v d3
  have ej : ∀ (a : Act) v, execOp (a.put oi.dst v).eval oj = execOp a.eval oj := fun a v => execOp_put oj (noSel.spec hsj) a oi.dst v d1
  have wi : ∀ (a : Act) v, wants ops oi (a.put oj.dst v) = wants ops oi a := fun a v => wants_put' hap a v
  have wj : ∀ (a : Act) v, wants ops oj (a.put oi.dst v) = wants ops oj a := fun a v => wants_put hap a v
  have pc : ∀ (a : Act) v u, (a.put oi.dst v).put oj.dst u = (a.put oj.dst u).put oi.dst v := fun a v u => Act.put_comm a v u d2
  -- a step of oj behind a value of oi
  have simple : ∀ v, StepD P ops W l oj (a.put oi.dst v) R K → StepD P ops W l oj a R (fun a' R' => K (a'.put oi.dst v) R') := by
    rintro v ⟨k', h⟩
    refine ⟨k', ?_⟩
    rcases h with ⟨h1, h2⟩ | ⟨h1, h2⟩
    · exact .inl ⟨by rw [← wj a v]; exact h1, by rw [pc] at h2; exact h2⟩
    · refine .inr ⟨by rw [← wj a v]; exact h1, ?_⟩
      cases k' with
      | val => obtain ⟨u, h2, h3⟩ := h2; exact ⟨u, h2.congr (ej a v).symm, by rw [pc] at h3; exact h3⟩
      | get => obtain ⟨p, x, u, h2, h3, h4⟩ := h2; exact ⟨p, x, u, h2, h3.congr (ej a v).symm, by rw [pc] at h4; exact h4⟩
      | new => obtain ⟨f, x, h2, h3⟩ := h2; exact ⟨f, x, h2.congr (ej a v).symm, fun p hp => by have h4 := h3 p hp; rw [pc] at h4; exact h4⟩
      | put => obtain ⟨p, x, y, h2, h3, h4⟩ := h2; exact ⟨p, x, y, h2, h3.congr (ej a v).symm, by rw [pc] at h4; exact h4⟩
      | any => obtain ⟨u, h2, h3⟩ := h2; exact ⟨u, h2.congr (ej a v).symm, by rw [pc] at h3; exact h3⟩
      | fresh => obtain ⟨f, x, h2, h3⟩ := h2; exact ⟨f, x, h2.congr (ej a v).symm, fun p hp => by have h4 := h3 p hp; rw [pc] at h4; exact h4⟩
  have mono : ∀ {a R} {K K' : Act → Reg → Prop}, (∀ u R', K (a.put oj.dst u) R' → K' (a.put oj.dst u) R') → StepD P ops W l oj a R K → StepD P ops W l oj a R K' := by
    rintro a R K K' hm ⟨k', h⟩
    refine ⟨k', ?_⟩
    rcases h with ⟨h1, h2⟩ | ⟨h1, h2⟩
    · exact .inl ⟨h1, hm _ _ h2⟩
    · refine .inr ⟨h1, ?_⟩
      cases k' with
      | val => obtain ⟨v, h2, h3⟩ := h2; exact ⟨v, h2, hm _ _ h3⟩
      | get => obtain ⟨p, x, v, h2, h3, h4⟩ := h2; exact ⟨p, x, v, h2, h3, hm _ _ h4⟩
      | new => obtain ⟨f, x, h2, h3⟩ := h2; exact ⟨f, x, h2, fun p hp => hm _ _ (h3 p hp)⟩
      | put => obtain ⟨p, x, y, h2, h3, h4⟩ := h2; exact ⟨p, x, y, h2, h3, hm _ _ h4⟩
      | any => obtain ⟨v, h2, h3⟩ := h2; exact ⟨v, h2, hm _ _ h3⟩
      | fresh => obtain ⟨f, x, h2, h3⟩ := h2; exact ⟨f, x, h2, fun p hp => hm _ _ (h3 p hp)⟩
  rcases h with ⟨h1, h2⟩ | ⟨h1, h2⟩
  · exact mono (fun u R' h => .inl ⟨by rw [wi]; exact h1, h⟩) (simple undef h2)
  · cases k with
    | any =>
      obtain ⟨v, h2, h3⟩ := h2
      obtain ⟨k', h5⟩ := simple v h3
      refine ⟨k', ?_⟩
      have fin : ∀ u R', (∀ w, StR W l R' w → StR W l R w) → K ((a.put oj.dst u).put oi.dst v) R' → StepK P ops W l .any oi (a.put oj.dst u) R' K := fun u R' hr hk =>
        .inr ⟨by rw [wi]; exact h1, v, ⟨h2.1, fun w hw => by rw [ei]; exact h2.2 w (hr w hw)⟩, hk⟩
      rcases h5 with ⟨g1, g2⟩ | ⟨g1, g2⟩
      · exact .inl ⟨g1, fin _ _ (fun _ h => h) g2⟩
      · refine .inr ⟨g1, ?_⟩
        cases k' with
        | val => obtain ⟨v', g2, g3⟩ := g2; exact ⟨v', g2, fin _ _ (fun _ h => h) g3⟩
        | any => obtain ⟨v', g2, g3⟩ := g2; exact ⟨v', g2, fin _ _ (fun _ h => h) g3⟩
        | get => obtain ⟨p', x', v', g2, g3, g4⟩ := g2; exact ⟨p', x', v', g2, g3, fin _ _ (fun _ h => h) g4⟩
        | new => obtain ⟨f, x', g2, g3⟩ := g2; exact ⟨f, x', g2, fun q hq => fin _ _ (fun w hw => hw.less hq.2.2) (g3 q hq)⟩
        | fresh => obtain ⟨f, x', g2, g3⟩ := g2; exact ⟨f, x', g2, fun q hq => fin _ _ (fun w hw => hw.less hq.2.2) (g3 q hq)⟩
        | put => obtain ⟨p', x', y', g2, g3, g4⟩ := g2; rw [compat, g3.1] at hc; cases hc
    | val =>
      obtain ⟨v, h2, h3⟩ := h2
      exact mono (fun u R' h => .inr ⟨by rw [wi]; exact h1, v, h2.congr (ei a u), h⟩) (simple v h3)
    | get =>
      obtain ⟨p, x, v, h2, h3, h4⟩ := h2
      have h5 := simple v h4
      obtain ⟨k', h5⟩ := h5
      refine ⟨k', ?_⟩
      have fin : ∀ u R', R' p = some x → K ((a.put oj.dst u).put oi.dst v) R' → StepK P ops W l .get oi (a.put oj.dst u) R' K := fun u R' hp hk =>
        .inr ⟨by rw [wi]; exact h1, p, x, v, hp, h3.congr (ei a u), hk⟩
      rcases h5 with ⟨g1, g2⟩ | ⟨g1, g2⟩
      · exact .inl ⟨g1, fin _ _ h2 g2⟩
      · refine .inr ⟨g1, ?_⟩
        cases k' with
        | val => obtain ⟨v', g2, g3⟩ := g2; exact ⟨v', g2, fin _ _ h2 g3⟩
        | get => obtain ⟨p', x', v', g2, g3, g4⟩ := g2; exact ⟨p', x', v', g2, g3, fin _ _ h2 g4⟩
        | new =>
          obtain ⟨f, x', g2, g3⟩ := g2
          refine ⟨f, x', g2, fun q hq => fin _ _ ?_ (g3 q hq)⟩
          rw [Reg.put_ne _ _ (fun e => by subst e; rw [hq.2.2] at h2; cases h2)]; exact h2
        | put => obtain ⟨p', x', y', g2, g3, g4⟩ := g2; rw [compat, g3.1] at hc; cases hc
        | any => obtain ⟨v', g2, g3⟩ := g2; exact ⟨v', g2, fin _ _ h2 g3⟩
        | fresh =>
          obtain ⟨f, x', g2, g3⟩ := g2
          refine ⟨f, x', g2, fun q hq => fin _ _ ?_ (g3 q hq)⟩
          rw [Reg.put_ne _ _ (fun e => by subst e; rw [hq.2.2] at h2; cases h2)]; exact h2
    | put =>
      obtain ⟨p, x, y, h2, h3, h4⟩ := h2
      have h5 : StepD P ops W l oj (a.put oi.dst undef) (R.put p y) K := h4
      obtain ⟨k', h5⟩ := h5
      refine ⟨k', ?_⟩
      have fin : ∀ u R', R' p = some x → K ((a.put oj.dst u).put oi.dst undef) (R'.put p y) → StepK P ops W l .put oi (a.put oj.dst u) R' K := fun u R' hp hk =>
        .inr ⟨by rw [wi]; exact h1, p, x, y, hp, h3.congr (ei a u), hk⟩
      rcases h5 with ⟨g1, g2⟩ | ⟨g1, g2⟩
      · exact .inl ⟨by rw [← wj a undef]; exact g1, fin _ _ h2 (by rw [← pc]; exact g2)⟩
      · refine .inr ⟨by rw [← wj a undef]; exact g1, ?_⟩
        cases k' with
        | val => obtain ⟨v', g2, g3⟩ := g2; exact ⟨v', g2.congr (ej a undef).symm, fin _ _ h2 (by rw [← pc]; exact g3)⟩
        | get => obtain ⟨p', x', v', g2, g3, g4⟩ := g2; rw [compat, g3.1] at hc; cases hc
        | any => obtain ⟨v', g2, g3⟩ := g2; rw [compat, g2.1] at hc; simp at hc
        | fresh => obtain ⟨f, x', g2, g3⟩ := g2; rw [compat, g2.1] at hc; simp at hc
        | new =>
          obtain ⟨f, x', g2, g3⟩ := g2
          refine ⟨f, x', g2.congr (ej a undef).symm, fun q hq => ?_⟩
          have hpq : p ≠ q := fun e => by subst e; rw [hq.2.2] at h2; cases h2
          refine fin _ _ (by rw [Reg.put_ne _ _ hpq]; exact h2) ?_
          rw [← pc, ← Reg.put_comm _ _ _ hpq]
          exact g3 q ⟨hq.1, hq.2.1, by rw [Reg.put_ne _ _ (Ne.symm hpq)]; exact hq.2.2⟩
        | put => obtain ⟨p', x', y', g2, g3, g4⟩ := g2; simp [compat, g3.1] at hc
    | new =>
      obtain ⟨f, x, h2, h3⟩ := h2
      simp only [compat, Bool.and_eq_true, Bool.not_eq_true'] at hc
      obtain ⟨⟨c1, c2⟩, c3⟩ := hc
      obtain ⟨p0, hp0⟩ := fresh_ex W l hR
      have fin : ∀ u R', (∀ p, Fresh W l R' p → K ((a.put oj.dst u).put oi.dst (mk f p)) (R'.put p x)) → StepK P ops W l .new oi (a.put oj.dst u) R' K := fun u R' hk =>
        .inr ⟨by rw [wi]; exact h1, f, x, h2.congr (ei a u), hk⟩
      -- whether oj is wanted does not hang on p
      by_cases hw : wants ops oj a = true
      · obtain ⟨w0, hw0⟩ := hex
        -- the kind of oj
        obtain ⟨k0, g0⟩ := h3 p0 hp0
        rcases g0 with ⟨g1, -⟩ | ⟨-, g2⟩
        · rw [wj, hw] at g1; cases g1
        · cases k0 with
          | val =>
            obtain ⟨v, g2, -⟩ := g2
            have g2 := g2.congr (ej a (mk f p0)).symm
            rcases g2 with g2 | ⟨g2, -⟩
            case inr => rw [c1] at g2; cases g2
            refine ⟨.val, .inr ⟨hw, v, .inl g2, fin _ _ fun p hp => ?_⟩⟩
            obtain ⟨k1, g3⟩ := h3 p hp
            rcases g3 with ⟨g1, -⟩ | ⟨-, g3⟩
            · rw [wj, hw] at g1; cases g1
            · have hg := g2 w0 hw0
              cases k1 with
              | val =>
                obtain ⟨v', g3, g4⟩ := g3
                have g3 := g3.congr (ej a (mk f p)).symm
                rcases g3 with g3 | ⟨g3, -⟩
                case inr => rw [c1] at g3; cases g3
                have hg' := g3 w0 hw0
                have hv : v' = v := by
                  generalize (execOp a.eval oj).run P w0 = r at hg hg'
                  cases r with
                  | ok n w' => cases n <;> simp only [GoesRun] at hg hg' <;> exact hg'.1.symm.trans hg.1
                  | halt x w' => simp only [GoesRun] at hg
                subst hv
                rw [← pc]; exact g4
              | get => obtain ⟨p', x', v', -, g3, -⟩ := g3; rw [g3.1] at c2; cases c2
              | any => obtain ⟨v', g3, -⟩ := g3; rw [g3.1] at c1; cases c1
              | fresh => obtain ⟨f', x', g3, -⟩ := g3; rw [g3.1] at c1; cases c1
              | new =>
                obtain ⟨f', x', g3, g4⟩ := g3
                have g3 := g3.congr (ej a (mk f p)).symm
                obtain ⟨q1, hq1⟩ := fresh_ex W l (hR.put p x)
                rw [g3 w0] at hg
                simp only [GoesRun] at hg
                -- the value names the world's size in every world: compare with a larger one
                have hw1 : St W l (w0.alloc (.cells x.2 x.1)) := hw0.next ((Below.refl _ _).alloc (Nat.le_refl _) _)
                have hg1 := g2 _ hw1
                rw [g3] at hg1
                simp only [GoesRun] at hg1
                have := hg.1.trans hg1.1.symm
                cases f' <;> simp [mk] at this
              | put => obtain ⟨p', x', y', -, g3, -⟩ := g3; rw [g3.1] at c3; cases c3
          | get => obtain ⟨p', x', v', -, g3, -⟩ := g2; rw [g3.1] at c2; cases c2
          | any => obtain ⟨v', g3, -⟩ := g2; rw [g3.1] at c1; cases c1
          | fresh => obtain ⟨f', x', g3, -⟩ := g2; rw [g3.1] at c1; cases c1
          | put => obtain ⟨p', x', y', -, g3, -⟩ := g2; rw [g3.1] at c3; cases c3
          | new =>
            obtain ⟨f', x', g2, -⟩ := g2
            have g2 := g2.congr (ej a (mk f p0)).symm
            refine ⟨.new, .inr ⟨hw, f', x', g2, fun q hq => fin _ _ fun p hp => ?_⟩⟩
            have hpq : p ≠ q := fun e => by
              subst e
              have := hp.2.2
              rw [Reg.put_same] at this; cases this
            have hp' : Fresh W l R p := ⟨hp.1, hp.2.1, by have := hp.2.2; rwa [Reg.put_ne _ _ hpq] at this⟩
            have hq' : Fresh W l (R.put p x) q := ⟨hq.1, hq.2.1, by rw [Reg.put_ne _ _ (Ne.symm hpq)]; exact hq.2.2⟩
            obtain ⟨k1, g3⟩ := h3 p hp'
            rcases g3 with ⟨g1, -⟩ | ⟨-, g3⟩
            · rw [wj, hw] at g1; cases g1
            · cases k1 with
              | val =>
                obtain ⟨v', g3, g4⟩ := g3
                have g3 := g3.congr (ej a (mk f p)).symm
                rcases g3 with g3 | ⟨g3, -⟩
                case inr => rw [c1] at g3; cases g3
                have hg := g3 w0 hw0
                rw [g2 w0] at hg
                simp only [GoesRun] at hg
                have hw1 : St W l (w0.alloc (.cells x.2 x.1)) := hw0.next ((Below.refl _ _).alloc (Nat.le_refl _) _)
                have hg1 := g3 _ hw1
                rw [g2] at hg1
                simp only [GoesRun] at hg1
                have := hg.1.trans hg1.1.symm
                cases f' <;> simp [mk] at this
              | get => obtain ⟨p', x', v', -, g3, -⟩ := g3; rw [g3.1] at c2; cases c2
              | any => obtain ⟨v', g3, -⟩ := g3; rw [g3.1] at c1; cases c1
              | fresh => obtain ⟨f', x', g3, -⟩ := g3; rw [g3.1] at c1; cases c1
              | put => obtain ⟨p', x', y', -, g3, -⟩ := g3; rw [g3.1] at c3; cases c3
              | new =>
                obtain ⟨f'', x'', g3, g4⟩ := g3
                have g3 := g3.congr (ej a (mk f p)).symm
                obtain ⟨rfl, rfl⟩ := new_inj ((g2 w0).symm.trans (g3 w0))
                rw [← pc, ← Reg.put_comm _ _ _ hpq]
                exact g4 q hq'
      · have hw' : wants ops oj a = false := by simpa using hw
        refine ⟨.val, .inl ⟨hw', fin _ _ fun p hp => ?_⟩⟩
        obtain ⟨k1, g3⟩ := h3 p hp
        rcases g3 with ⟨-, g3⟩ | ⟨g1, -⟩
        · rw [← pc]; exact g3
        · rw [wj, hw'] at g1; cases g1
    | fresh =>
      obtain ⟨f, x, h2, h3⟩ := h2
      simp only [compat, Bool.and_eq_true, Bool.not_eq_true'] at hc
      obtain ⟨⟨c1, c2⟩, c3⟩ := hc
      obtain ⟨p0, hp0⟩ := fresh_ex W l hR
      have fin : ∀ u R', (∀ w, StR W l R' w → StR W l R w) → (∀ p, Fresh W l R' p → K ((a.put oj.dst u).put oi.dst (mk f p)) (R'.put p x)) → StepK P ops W l .fresh oi (a.put oj.dst u) R' K := fun u R' hr hk =>
        .inr ⟨by rw [wi]; exact h1, f, x, ⟨h2.1, fun w hw => by rw [ei]; exact h2.2 w (hr w hw)⟩, hk⟩
      -- whether oj is wanted does not hang on p
      by_cases hw : wants ops oj a = true
      · obtain ⟨w0, hw0⟩ := hex
        -- the kind of oj
        obtain ⟨k0, g0⟩ := h3 p0 hp0
        rcases g0 with ⟨g1, -⟩ | ⟨-, g2⟩
        · rw [wj, hw] at g1; cases g1
        · cases k0 with
          | val =>
            obtain ⟨v, g2, -⟩ := g2
            have g2 := g2.congr (ej a (mk f p0)).symm
            rcases g2 with g2 | ⟨g2, -⟩
            case inr => rw [c1] at g2; cases g2
            refine ⟨.val, .inr ⟨hw, v, .inl g2, fin _ _ (fun _ h => h) fun p hp => ?_⟩⟩
            obtain ⟨k1, g3⟩ := h3 p hp
            rcases g3 with ⟨g1, -⟩ | ⟨-, g3⟩
            · rw [wj, hw] at g1; cases g1
            · have hg := g2 w0 hw0
              cases k1 with
              | val =>
                obtain ⟨v', g3, g4⟩ := g3
                have g3 := g3.congr (ej a (mk f p)).symm
                rcases g3 with g3 | ⟨g3, -⟩
                case inr => rw [c1] at g3; cases g3
                have hg' := g3 w0 hw0
                have hv : v' = v := by
                  generalize (execOp a.eval oj).run P w0 = r at hg hg'
                  cases r with
                  | ok n w' => cases n <;> simp only [GoesRun] at hg hg' <;> exact hg'.1.symm.trans hg.1
                  | halt x w' => simp only [GoesRun] at hg
                subst hv
                rw [← pc]; exact g4
              | get => obtain ⟨p', x', v', -, g3, -⟩ := g3; rw [g3.1] at c2; cases c2
              | any => obtain ⟨v', g3, -⟩ := g3; rw [g3.1] at c1; cases c1
              | fresh => obtain ⟨f', x', g3, -⟩ := g3; rw [g3.1] at c1; cases c1
              | new =>
                obtain ⟨f', x', g3, g4⟩ := g3
                have g3 := g3.congr (ej a (mk f p)).symm
                obtain ⟨q1, hq1⟩ := fresh_ex W l (hR.put p x)
                rw [g3 w0] at hg
                simp only [GoesRun] at hg
                -- the value names the world's size in every world: compare with a larger one
                have hw1 : St W l (w0.alloc (.cells x.2 x.1)) := hw0.next ((Below.refl _ _).alloc (Nat.le_refl _) _)
                have hg1 := g2 _ hw1
                rw [g3] at hg1
                simp only [GoesRun] at hg1
                have := hg.1.trans hg1.1.symm
                cases f' <;> simp [mk] at this
              | put => obtain ⟨p', x', y', -, g3, -⟩ := g3; rw [g3.1] at c3; cases c3
          | get => obtain ⟨p', x', v', -, g3, -⟩ := g2; rw [g3.1] at c2; cases c2
          | any => obtain ⟨v', g3, -⟩ := g2; rw [g3.1] at c1; cases c1
          | fresh => obtain ⟨f', x', g3, -⟩ := g2; rw [g3.1] at c1; cases c1
          | put => obtain ⟨p', x', y', -, g3, -⟩ := g2; rw [g3.1] at c3; cases c3
          | new =>
            obtain ⟨f', x', g2, -⟩ := g2
            have g2 := g2.congr (ej a (mk f p0)).symm
            refine ⟨.new, .inr ⟨hw, f', x', g2, fun q hq => fin _ _ (fun w hw => hw.less hq.2.2) fun p hp => ?_⟩⟩
            have hpq : p ≠ q := fun e => by
              subst e
              have := hp.2.2
              rw [Reg.put_same] at this; cases this
            have hp' : Fresh W l R p := ⟨hp.1, hp.2.1, by have := hp.2.2; rwa [Reg.put_ne _ _ hpq] at this⟩
            have hq' : Fresh W l (R.put p x) q := ⟨hq.1, hq.2.1, by rw [Reg.put_ne _ _ (Ne.symm hpq)]; exact hq.2.2⟩
            obtain ⟨k1, g3⟩ := h3 p hp'
            rcases g3 with ⟨g1, -⟩ | ⟨-, g3⟩
            · rw [wj, hw] at g1; cases g1
            · cases k1 with
              | val =>
                obtain ⟨v', g3, g4⟩ := g3
                have g3 := g3.congr (ej a (mk f p)).symm
                rcases g3 with g3 | ⟨g3, -⟩
                case inr => rw [c1] at g3; cases g3
                have hg := g3 w0 hw0
                rw [g2 w0] at hg
                simp only [GoesRun] at hg
                have hw1 : St W l (w0.alloc (.cells x.2 x.1)) := hw0.next ((Below.refl _ _).alloc (Nat.le_refl _) _)
                have hg1 := g3 _ hw1
                rw [g2] at hg1
                simp only [GoesRun] at hg1
                have := hg.1.trans hg1.1.symm
                cases f' <;> simp [mk] at this
              | get => obtain ⟨p', x', v', -, g3, -⟩ := g3; rw [g3.1] at c2; cases c2
              | any => obtain ⟨v', g3, -⟩ := g3; rw [g3.1] at c1; cases c1
              | fresh => obtain ⟨f', x', g3, -⟩ := g3; rw [g3.1] at c1; cases c1
              | put => obtain ⟨p', x', y', -, g3, -⟩ := g3; rw [g3.1] at c3; cases c3
              | new =>
                obtain ⟨f'', x'', g3, g4⟩ := g3
                have g3 := g3.congr (ej a (mk f p)).symm
                obtain ⟨rfl, rfl⟩ := new_inj ((g2 w0).symm.trans (g3 w0))
                rw [← pc, ← Reg.put_comm _ _ _ hpq]
                exact g4 q hq'
      · have hw' : wants ops oj a = false := by simpa using hw
        refine ⟨.val, .inl ⟨hw', fin _ _ (fun _ h => h) fun p hp => ?_⟩⟩
        obtain ⟨k1, g3⟩ := h3 p hp
        rcases g3 with ⟨-, g3⟩ | ⟨g1, -⟩
        · rw [← pc]; exact g3
        · rw [wj, hw'] at g1; cases g1
end
/-! ### all orders -/
section
variable {P : Program} {ops : Array Oper} {W : World} {l : List Own} {md : Region.Mode} {Q : Exit → Act → World → Prop}

/-- whatever order is picked from here on -/
def Det (P : Program) (md : Region.Mode) (ops : Array Oper) (Q : Exit → Act → World → Prop) (W : World) (l : List Own) : Nat → Array Bool → Act → Reg → Prop
  | 0, listed, a, R => Region.ready md ops listed = [] ∧ ∀ w, StR W l R w → Q .normal a w
  | fuel + 1, listed, a, R => (Region.ready md ops listed = [] → ∀ w, StR W l R w → Q .normal a w) ∧
    ∀ i ∈ Region.ready md ops listed, ∀ o, ops[i]? = some o → StepD P ops W l o a R (fun a' R' => Det P md ops Q W l fuel (listed.setIfInBounds i true) a' R')

theorem Det.sound : ∀ (fuel : Nat) (listed : Array Bool) (a : Act) (R : Reg) (w : World), Det P md ops Q W l fuel listed a R → StR W l R w → wpAny P md ops Q fuel listed a w
  | 0, _, _, _, w, h, hw => ⟨h.1, h.2 w hw⟩
  | fuel + 1, listed, a, R, w, h, hw => ⟨fun hr => h.1 hr w hw, fun i hi => by
      obtain ⟨_, o, ho, _⟩ := mem_ready.1 hi
      obtain ⟨k, hs⟩ := h.2 i hi o ho
      exact hs.wpOp ho hw (fun a R w hK hw => Det.sound fuel _ a R w hK hw)⟩

/-- j waits for i -/
inductive Waits (md : Region.Mode) (ops : Array Oper) (i : Nat) : Nat → Prop
  | one {j : Nat} {oj : Oper} {e : Edge} : ops[j]? = some oj → e ∈ oj.after → Region.binds md e = true → e.on = i → Waits md ops i j
  | more {j : Nat} {oj : Oper} {e : Edge} : ops[j]? = some oj → e ∈ oj.after → Region.binds md e = true → Waits md ops i e.on → Waits md ops i j
def Closed (md : Region.Mode) (ops : Array Oper) (listed : Array Bool) : Prop :=
  ∀ j oj, ops[j]? = some oj → listed.getD j false = true → ∀ e ∈ oj.after, Region.binds md e = true → listed.getD e.on false = true
theorem Waits.listed {i j : Nat} {listed : Array Bool} (hc : Closed md ops listed) (h : Waits md ops i j) (hj : listed.getD j false = true) : listed.getD i false = true := by
  induction h with
  | one h1 h2 h3 h4 => rw [← h4]; exact hc _ _ h1 hj _ h2 h3
  | more h1 h2 h3 h4 ih => exact ih (hc _ _ h1 hj _ h2 h3)
theorem Waits.not_ready {i j : Nat} {listed : Array Bool} (hc : Closed md ops listed) (h : Waits md ops i j) (hj : j ∈ Region.ready md ops listed) : listed.getD i false = true := by
  obtain ⟨_, o, ho, ha⟩ := mem_ready.1 hj
  cases h with
  | one h1 h2 h3 h4 => rw [h1] at ho; injection ho with ho; subst ho; rw [← h4]; exact ha _ h2 h3
  | more h1 h2 h3 h4 => rw [h1] at ho; injection ho with ho; subst ho; exact h4.listed hc (ha _ h2 h3)
theorem getD_tf {listed : Array Bool} {i : Nat} (h : listed.getD i true = false) : listed.getD i false = false := by
  rcases Nat.lt_or_ge i listed.size with h' | h'
  · simp [h'] at h ⊢; exact h
  · simp [Array.getElem?_eq_none h'] at h
theorem Closed.set {i : Nat} {listed : Array Bool} (hc : Closed md ops listed) (hi : i ∈ Region.ready md ops listed) : Closed md ops (listed.setIfInBounds i true) := by
  obtain ⟨_, oi, hoi, ha⟩ := mem_ready.1 hi
  intro j oj hj hl e he hb
  by_cases hij : i = j
  · subst hij
    rw [hoi] at hj; injection hj with hj; subst hj
    exact getD_set_true (ha e he hb)
  · rw [getD_set_ne false hij] at hl
    exact getD_set_true (hc j oj hj hl e he hb)

theorem Det.take {i : Nat} {oi : Oper} {k : Kd} (hi : ops[i]? = some oi) (hsel : ∀ (j : Nat) (o : Oper), ops[j]? = some o → noSel o = true) (hex : ∃ w, St W l w) :
    ∀ (fuel : Nat) (listed : Array Bool) (a : Act) (R : Reg), R.fin → Closed md ops listed →
      (∀ j oj, ops[j]? = some oj → j ≠ i → listed.getD j true = false → Waits md ops i j ∨ (oi.apart ops oj = true ∧ compat k oj = true)) →
      i ∈ Region.ready md ops listed → StepK P ops W l k oi a R (fun a' R' => Det P md ops Q W l fuel (listed.setIfInBounds i true) a' R') → Det P md ops Q W l (fuel + 1) listed a R := by
  intro fuel
  induction fuel with
  | zero =>
    intro listed a R hR hc hfree hr H
    refine ⟨fun h => (by rw [h] at hr; cases hr), fun j hj oj hoj => ?_⟩
    by_cases hji : j = i
    · subst hji
      rw [hi] at hoj; injection hoj with hoj; subst hoj
      exact ⟨k, H⟩
    · obtain ⟨a', R', -, H⟩ := H.ex hR
      have := ready_mono hj hji
      rw [H.1] at this
      cases this
  | succ fuel ih =>
    intro listed a R hR hc hfree hr H
    refine ⟨fun h => (by rw [h] at hr; cases hr), fun j hj oj hoj => ?_⟩
    by_cases hji : j = i
    · subst hji
      rw [hi] at hoj; injection hoj with hoj; subst hoj
      exact ⟨k, H⟩
    · obtain ⟨hun, _⟩ := mem_ready.1 hr
      obtain ⟨hjun, _⟩ := mem_ready.1 hj
      rcases hfree j oj hoj hji hjun with hw | ⟨hap, hcp⟩
      · have := hw.not_ready hc hj
        rw [getD_tf hun] at this; cases this
      · have h1 : StepK P ops W l k oi a R (fun a' R' => StepD P ops W l oj a' R' (fun a'' R'' => R''.fin → Det P md ops Q W l fuel ((listed.setIfInBounds i true).setIfInBounds j true) a'' R'')) :=
          H.mono fun a' R' h => by
            obtain ⟨k', h⟩ := h.2 j (ready_mono hj hji) oj hoj
            exact ⟨k', h.mono fun a'' R'' h _ => h⟩
        obtain ⟨k', h2⟩ := StepK.comm hap (hsel i oi hi) (hsel j oj hoj) hcp hex hR h1
        refine ⟨k', (h2.fin hR).mono fun a' R' h3 => ?_⟩
        obtain ⟨hR', h3⟩ := h3
        refine ih (listed.setIfInBounds j true) a' R' hR' (hc.set hj) (fun q oq hq hqi hqu => hfree q oq hq hqi ?_) (ready_mono hr (Ne.symm hji)) ?_
        · by_cases hjq : j = q
          · subst hjq; exact hjun
          · rwa [getD_set_ne true hjq] at hqu
        · refine (h3.fin hR').mono fun a'' R'' h4 => ?_
          rw [Array.setIfInBounds_comm _ _ hji]
          exact h4.2 h4.1

/-! ### the order of the text -/
def isNew (o : Oper) : Bool := match o.op with | .alloc .. | .box .. | .buildSlice .. | .makeSlice .. => true | _ => false
/-- gs: 2 k: operation k reads a block that the region writes; 2 k + 1: operation k is a call that looks at such a block -/
def kd (gs : List Nat) (k : Nat) (o : Oper) : Kd := if isStore o then .put else if isNew o then .new else if gs.contains (2 * k) then .get else if gs.contains (2 * k + 1) then .any else if gs.contains (1000000 + k) then .fresh else .val
def Seq (P : Program) (ops : Array Oper) (Q : Exit → Act → World → Prop) (W : World) (l : List Own) (gs : List Nat) : Nat → List Oper → Act → Reg → Prop
  | _, [], a, R => ∀ w, StR W l R w → Q .normal a w
  | k, o :: rest, a, R => StepK P ops W l (kd gs k o) o a R (Seq P ops Q W l gs (k + 1) rest) ∨
      (gs.contains 3000000 = true ∧ wants ops o a = true ∧ ∀ w, StR W l R w → o.wp P a w (fun a' w' => ∃ R', StR W l R' w' ∧ Seq P ops Q W l gs (k + 1) rest a' R') Q)

/-- those that wait for i -/
def reach (md : Region.Mode) (ops : Array Oper) (i : Nat) : List Nat :=
  (List.range ops.size).foldl (fun m j => if ((ops[j]?).map fun o => o.after.any fun e => Region.binds md e && (e.on == i || m.contains e.on)).getD false then j :: m else m) []
theorem reach_sound {i j : Nat} (h : j ∈ reach md ops i) : Waits md ops i j := by
  unfold reach at h
  suffices H : ∀ (js m : List Nat), (∀ x ∈ m, Waits md ops i x) → ∀ x ∈ js.foldl (fun m j => if ((ops[j]?).map fun o => o.after.any fun e => Region.binds md e && (e.on == i || m.contains e.on)).getD false then j :: m else m) m, Waits md ops i x from
    H _ [] (fun _ h => by cases h) j h
  intro js
  induction js with
  | nil => intro m hm x hx; exact hm x hx
  | cons q js ih =>
    intro m hm x hx
    rw [List.foldl_cons] at hx
    refine ih _ ?_ x hx
    intro y hy
    split at hy
    · rename_i hq
      rcases List.mem_cons.1 hy with rfl | hy
      · cases ho : ops[y]? with
        | none => simp [ho] at hq
        | some o =>
          simp only [ho, Option.map_some, Option.getD_some] at hq
          obtain ⟨e, he, hb⟩ := Array.any_eq_true'.1 hq
          simp only [Bool.and_eq_true, Bool.or_eq_true, beq_iff_eq] at hb
          rcases hb.2 with h1 | h1
          · exact .one ho he hb.1 h1
          · exact .more ho he hb.1 (hm _ (by simpa using h1))
      · exact hm y hy
    · exact hm y hy

def chk (md : Region.Mode) (ops : Array Oper) (gs : List Nat) : Bool :=
  ops.all noSel && !gs.contains 3000000 && (List.range ops.size).all fun i => match ops[i]? with
    | none => false
    | some oi => (oi.after.all fun e => !Region.binds md e || decide (e.on < i)) &&
      let m := reach md ops i
      (List.range ops.size).all fun j => decide (j ≤ i) || m.contains j || match ops[j]? with
        | none => true
        | some oj => oi.apart ops oj && compat (kd gs i oi) oj

def upto (n k : Nat) : Array Bool := ((List.range n).map fun j => decide (j < k)).toArray
theorem upto_getD (n k j : Nat) (d : Bool) : (upto n k).getD j d = if j < n then decide (j < k) else d := by
  unfold upto
  by_cases h : j < n <;> simp [h]
theorem upto_set {n k : Nat} (h : k < n) : (upto n k).setIfInBounds k true = upto n (k + 1) := by
  apply Array.ext
  · simp [upto]
  · intro i h1 h2
    simp only [upto, Array.size_setIfInBounds, List.size_toArray, List.length_map, List.length_range] at h1 h2
    rw [Array.getElem_setIfInBounds (by simpa [upto] using h1)]
    by_cases hik : k = i
    · subst hik; simp [upto]
    · simp [upto, hik]; omega
theorem upto_zero (n : Nat) : Array.replicate n false = upto n 0 := by
  apply Array.ext
  · simp [upto]
  · intro i h1 h2; simp [upto]

theorem Seq.det {gs : List Nat} (hc : chk md ops gs = true) (hex : ∃ w, St W l w) : ∀ (m k : Nat) (a : Act) (R : Reg), k + m = ops.size → R.fin →
    Seq P ops Q W l gs k (ops.toList.drop k) a R → Det P md ops Q W l m (upto ops.size k) a R := by
  simp only [chk, Bool.and_eq_true, List.all_eq_true, List.mem_range, Bool.not_eq_true'] at hc
  obtain ⟨⟨hs, hno⟩, hc⟩ := hc
  have hsel : ∀ (j : Nat) (o : Oper), ops[j]? = some o → noSel o = true := fun j o h => Array.all_eq_true_iff_forall_mem.1 hs o (Array.mem_of_getElem? h)
  intro m
  induction m with
  | zero =>
    intro k a R hk hR h
    rw [List.drop_of_length_le (by simp; omega)] at h
    refine ⟨?_, h⟩
    rw [List.eq_nil_iff_forall_not_mem]
    intro j hj
    obtain ⟨h1, o, ho, _⟩ := mem_ready.1 hj
    obtain ⟨hlt, _⟩ := Array.getElem?_eq_some_iff.1 ho
    rw [upto_getD, if_pos hlt] at h1
    simp at h1
    omega
  | succ m ih =>
    intro k a R hk hR h
    have hkn : k < ops.size := by omega
    have hd : ops.toList.drop k = ops[k] :: ops.toList.drop (k + 1) := by
      rw [List.drop_eq_getElem_cons (by simpa using hkn)]; simp
    rw [hd] at h
    rcases h with h | ⟨h, -⟩
    case inr => rw [hno] at h; cases h
    have hok : ops[k]? = some ops[k] := Array.getElem?_eq_getElem hkn
    have hck := hc k hkn
    rw [hok] at hck
    simp only [Bool.and_eq_true, List.all_eq_true, List.mem_range, Bool.or_eq_true, decide_eq_true_eq] at hck
    obtain ⟨ha, hj⟩ := hck
    have hafter : ∀ (j : Nat) (oj : Oper), ops[j]? = some oj → ∀ e ∈ oj.after, Region.binds md e = true → e.on < j := by
      intro j oj hoj e he hb
      obtain ⟨hlt, _⟩ := Array.getElem?_eq_some_iff.1 hoj
      have hcj := hc j hlt
      rw [hoj] at hcj
      simp only [Bool.and_eq_true] at hcj
      have h2 := Array.all_eq_true'.1 hcj.1 e he
      simp only [hb, Bool.not_true, Bool.false_or, decide_eq_true_eq] at h2
      exact h2
    refine Det.take (i := k) (oi := ops[k]) (k := kd gs k ops[k]) hok hsel hex m _ a R hR ?_ ?_ ?_ ?_
    · intro j oj hoj hl e he hb
      have h2 := hafter j oj hoj e he hb
      obtain ⟨hlt, _⟩ := Array.getElem?_eq_some_iff.1 hoj
      rw [upto_getD, if_pos hlt] at hl
      rw [upto_getD, if_pos (by omega)]
      simp at hl ⊢; omega
    · intro j oj hoj hjk hl
      obtain ⟨hlt, _⟩ := Array.getElem?_eq_some_iff.1 hoj
      rw [upto_getD, if_pos hlt] at hl
      have h2 := hj j hlt
      rw [hoj] at h2
      simp only [Bool.and_eq_true] at h2
      rcases h2 with (h2 | h2) | h2
      · simp at hl; omega
      · exact .inl (reach_sound (by simpa using h2))
      · exact .inr h2
    · refine mem_ready.2 ⟨by rw [upto_getD, if_pos hkn]; simp, ops[k], hok, fun e he hb => ?_⟩
      have h2 := hafter k _ hok e he hb
      rw [upto_getD, if_pos (by omega)]
      simp; omega
    · rw [upto_set hkn]
      refine (StepK.fin hR h).mono fun a' R' h3 => ih (k + 1) a' R' (by omega) h3.1 h3.2

theorem Seq.text {gs : List Nat} : ∀ (m k : Nat) (a : Act) (R : Reg) (w : World), k + m = ops.size → StR W l R w →
    Seq P ops Q W l gs k (ops.toList.drop k) a R → wpOps P ops Q (List.range' k m) a w := by
  intro m
  induction m with
  | zero =>
    intro k a R w hk hw h
    rw [List.drop_of_length_le (by simp; omega)] at h
    exact h w hw
  | succ m ih =>
    intro k a R w hk hw h
    have hkn : k < ops.size := by omega
    have hd : ops.toList.drop k = ops[k] :: ops.toList.drop (k + 1) := by
      rw [List.drop_eq_getElem_cons (by simpa using hkn)]; simp
    rw [hd] at h
    rw [List.range'_succ, wpOps_cons]
    rcases h with h | ⟨-, h1, h⟩
    · exact StepK.wpOp (Array.getElem?_eq_getElem hkn) h hw fun a R w h hw => ih (k + 1) a R w (by omega) hw h
    · unfold Go.wpOp
      unfold wants at h1
      simp only [Array.getElem?_eq_getElem hkn, h1, if_true]
      exact .inl (Oper.wp_mono (fun a' w' ⟨R', h2, h3⟩ => ih (k + 1) a' R' w' (by omega) h2 h3) (h w hw))

/-- a region that draws its order -/
theorem wp_seq {id : Nat} {rest : List Oper} {a : Act} {w : World} {R : Reg} (gs : List Nat) (hm : P.follows .mixedOrders = true) (hc : chk .any rest.toArray gs = true) (hR : R.fin) (hw : StR W l R w)
    (h : Seq P rest.toArray Q W l gs 0 rest a R) : (Code.region id rest.toArray true).wp P Q a w := by
  have hw' : StR W l R w.drew := ⟨hw.st.drew, fun p t cs hp => ⟨(hw.reg p t cs hp).1, (hw.reg p t cs hp).2.1, (hw.reg p t cs hp).2.2.drew⟩⟩
  refine wp_region_any hm (Det.sound _ _ _ _ _ ?_ hw')
  rw [upto_zero]
  exact Seq.det (gs := gs) hc ⟨w, hw.st⟩ _ 0 a R (by simp) hR (by simpa using h)
/-- a region in the order of the text -/
theorem wp_seq_text {id : Nat} {rest : List Oper} {a : Act} {w : World} {R : Reg} (gs : List Nat) (hw : StR W l R w)
    (h : Seq P rest.toArray Q W l gs 0 rest a R) : (Code.region id rest.toArray false).wp P Q a w := by
  refine wp_region ?_
  rw [List.range_eq_range']
  exact Seq.text (gs := gs) _ 0 a R w (by simp) hw (by simpa using h)
end
end Go.Proofs.YtekbpiooecdopaaDoor

/- One operation of a region at a time. -/
namespace Go.Proofs.YtekbpiooecdopaaDoor
open Go.RowKit
set_option linter.unusedVariables false
set_option linter.unusedSimpArgs false

section
variable {P : Program} {ops : Array Oper} {W : World} {l : List Own} {Q : Exit → Act → World → Prop} {gs : List Nat} {k : Nat} {o : Oper} {rest : List Oper} {a : Act} {R : Reg}

theorem Seq.done (h : ∀ w, StR W l R w → Q .normal a w) : Seq P ops Q W l gs k [] a R := h
/-- not wanted -/
theorem Seq.nw (hw : wants ops o a = false) (h : Seq P ops Q W l gs (k + 1) rest (a.put o.dst undef) R) : Seq P ops Q W l gs k (o :: rest) a R := .inl (.inl ⟨hw, h⟩)
/-- no look at the memory -/
theorem Seq.pure {v : Value} (hk : kd gs k o = .val) (hw : wants ops o a = true) (hr : ∀ w, (execOp a.eval o).run P w = .ok (.value v) w)
    (h : Seq P ops Q W l gs (k + 1) rest (a.put o.dst v) R) : Seq P ops Q W l gs k (o :: rest) a R := by
  refine .inl (.inr ⟨hw, ?_⟩)
  rw [hk]
  exact ⟨v, .inl fun w _ => by rw [hr w]; exact ⟨rfl, Below.refl _ _⟩, h⟩
/-- a look at the memory -/
theorem Seq.look {v : Value} (hk : kd gs k o = .val) (hw : wants ops o a = true) (hr : ∀ w, St W l w → (execOp a.eval o).run P w = .ok (.value v) w)
    (h : Seq P ops Q W l gs (k + 1) rest (a.put o.dst v) R) : Seq P ops Q W l gs k (o :: rest) a R := by
  refine .inl (.inr ⟨hw, ?_⟩)
  rw [hk]
  exact ⟨v, .inl fun w hs => by rw [hr w hs]; exact ⟨rfl, Below.refl _ _⟩, h⟩
/-- the type t is a struct or an array of n cells -/
def aggOf (P : Program) (t : TypeId) (n : Nat) : Bool :=
  (match P.underlying t with | some (.struct _) => true | some (.array _ _) => true | _ => false) && ((P.info? t).map (·.size) == some n)
def cellOf (P : Program) (t : TypeId) : Bool :=
  (match P.underlying t with | some (.struct _) => false | some (.array _ _) => false | some _ => true | none => false)
theorem run_load_whole {w : World} {t T : TypeId} {g n : Nat} {cs : Array Value} (hg : Blk w g T cs) (hn : cs.size = n) (ht : aggOf P t n = true) : (loadVar t ⟨g, 0, none⟩).run P w = .ok (.agg cs) w := by
  unfold aggOf at ht
  simp only [Bool.and_eq_true, beq_iff_eq] at ht
  cases hu : P.underlying t with
  | none => simp [hu] at ht
  | some d =>
    refine run_loadVar_row w g T t cs (0, 0) d hg hu ?_ (by rw [ht.2, hn])
    have h := ht.1
    rw [hu] at h
    cases d <;> simp_all
/-- a variable of a struct's type, read whole -/
theorem Seq.load {t T : TypeId} {x : Operand} {g n : Nat} {cs : Array Value} (ho : o.op = .load t x) (hk : kd gs k o = .val) (hw : wants ops o a = true) (hx : a.eval x = .pointer (some ⟨g, 0, none⟩))
    (hm : (g, T, cs) ∈ l) (hn : cs.size = n) (ht : aggOf P t n = true)
    (h : Seq P ops Q W l gs (k + 1) rest (a.put o.dst (.agg cs)) R) : Seq P ops Q W l gs k (o :: rest) a R :=
  Seq.look hk hw (fun w hs => by
    unfold execOp
    simp only [ho, hx, Instr.loadAt, Instr.sureAddr, Sem.run_bind, Sem.run_pure, Result.andThen_ok, run_load_whole (hs.blk _ hm).2 hn ht]) h
/-- does the program hold function f with a body of its own? -/
def goesIn (P : Program) (f : FuncId) : Bool := match P.funcs[f]? with | some fn => fn.name != "runtime.NumGoroutine" && fn.body.isSome | none => false
theorem Seq.call {f : FuncId} {xs : List Operand} {ts : Array TypeId} {vs : Array Value} {v : Value} (ho : o.op = .call { callee := .value (.func f), args := xs.toArray, argTypes := ts }) (hk : kd gs k o = .val) (hw : wants ops o a = true)
    (hx : xs.map a.eval = vs.toList) (hf : goesIn P f = true)
    (hc : ∀ w, St W l w → Calls P f vs w (fun e w' => e = .returned v ∧ Below w.heap.size w w'))
    (h : Seq P ops Q W l gs (k + 1) rest (a.put o.dst v) R) : Seq P ops Q W l gs k (o :: rest) a R := by
  refine .inl (.inr ⟨hw, ?_⟩)
  rw [hk]
  refine ⟨v, .inr ⟨by simp [isCall, ho], fun w hs => ?_⟩, h⟩
  have hr : (execOp a.eval o).run P w = .ok (.enter f vs) w := by
    unfold goesIn at hf
    cases hp : P.funcs[f]? with
    | none => simp [hp] at hf
    | some fn =>
      simp only [hp, Bool.and_eq_true, bne_iff_ne, ne_eq] at hf
      have hb : fn.body.isNone = false := by cases hq : fn.body <;> simp_all
      have hv : (xs.map a.eval).toArray = vs := by rw [hx]
      simp [execOp, ho, resolve, invoke, callFunc, Deferred.ofValue, Act.eval, hp, hf.1, hb, hv, go_sem]
      intro hq; rw [hq] at hb; cases hb
  rw [hr]
  exact ⟨Below.refl _ _, hc w hs⟩

/-! ### parts of a block -/
theorem run_load_part {w : World} {t T : TypeId} {g f n : Nat} {cs : Array Value} (hg : Blk w g T cs) (hn : f + n ≤ cs.size) (ht : aggOf P t n = true) : (loadVar t ⟨g, f, none⟩).run P w = .ok (.agg (cs.extract f (f + n))) w := by
  unfold aggOf at ht
  simp only [Bool.and_eq_true, beq_iff_eq] at ht
  have hl : (loadCells ⟨g, f, none⟩ n).run P w = .ok (cs.extract f (f + n)) w := by
    have h := run_loadCells_list (P := P) w ⟨g, f, none⟩ (cs.extract f (f + n)).toList (fun j v hv => by
      have hadd : (⟨g, f, none⟩ : Addr).add j = ⟨g, f + j, none⟩ := by unfold Addr.add; split <;> simp_all
      rw [hadd, cell_of_row w g (f + j) cs T (0, 0) hg]
      have hj : j < n := by
        have := (List.getElem?_eq_some_iff.1 hv).1
        simp at this; omega
      have h2 : (cs.extract f (f + n))[j]? = some v := by rw [Array.getElem?_toList] at hv; exact hv
      rw [Array.getElem?_extract] at h2
      split at h2
      · exact h2
      · cases h2)
    have hln : (cs.extract f (f + n)).toList.length = n := by simp; omega
    rw [hln, Array.toArray_toList] at h
    exact h
  cases hu : P.underlying t with
  | none => simp [hu] at ht
  | some d =>
    cases hq : P.info? t with
    | none => simp [hq] at ht
    | some i =>
      have hs : i.size = n := by have := ht.2; rw [hq] at this; simpa using this
      have hagg : (isAgg t).run P w = .ok true w := by
        unfold isAgg
        rw [Sem.run_bind, run_underlying hu w]
        have h := ht.1
        rw [hu] at h
        cases d <;> simp_all
      simp [loadVar, Sem.run_bind, hagg, sizeOf, typeInfo, hq, hs, hl]
theorem run_load_cell {w : World} {t T : TypeId} {g f : Nat} {cs : Array Value} {v : Value} (hg : Blk w g T cs) (hv : cs[f]? = some v) (ht : cellOf P t = true) (h1 : v.oneCell' = true) : (loadVar t ⟨g, f, none⟩).run P w = .ok v w := by
  unfold cellOf at ht
  cases hu : P.underlying t with
  | none => simp [hu] at ht
  | some d =>
    have hagg : (isAgg t).run P w = .ok false w := by
      unfold isAgg
      rw [Sem.run_bind, run_underlying hu w]
      rw [hu] at ht
      cases d <;> simp_all
    have hc : w.cell? ⟨g, f, none⟩ = some v := (cell_of_row w g f cs T (0, 0) hg).trans hv
    have hr : (load ⟨g, f, none⟩).run P w = .ok v w := by
      have h := run_loadCells_list (P := P) w ⟨g, f, none⟩ [v] (fun j u hj => by
        have hj0 : j = 0 := by have := (List.getElem?_eq_some_iff.1 hj).1; simp at this; omega
        subst hj0
        have hadd : (⟨g, f, none⟩ : Addr).add 0 = ⟨g, f, none⟩ := rfl
        rw [hadd, hc]; simpa using hj)
      have hadd : (⟨g, f, none⟩ : Addr).add 0 = ⟨g, f, none⟩ := rfl
      simp only [loadCells, loadCellsFrom, List.length_cons, List.length_nil, Nat.zero_add, hadd, Sem.run_bind] at h
      cases hq : (load ⟨g, f, none⟩).run P w with
      | ok u w' =>
        rw [hq] at h
        simp at h
        rw [h.1, h.2]
      | halt x w' => rw [hq] at h; simp at h
    unfold loadVar
    rw [Sem.run_bind, hagg]
    exact hr
theorem run_store_part {w : World} {t T : TypeId} {g f : Nat} {cs : Array Value} {v : Value} (hg : Blk w g T cs) (hn : f + v.cells.size ≤ cs.size) (ht : (P.info? t).map (·.size) = some v.cells.size) (h1 : ∀ u ∈ v.cells, u.oneCell' = true) :
    (storeVar t ⟨g, f, none⟩ v).run P w = .ok () (w.setRow g (cs.toList.take f ++ v.cells.toList ++ cs.toList.drop (f + v.cells.size)).toArray) := by
  have := run_storeCells_at (P := P) g f T v.cells.toList 0 cs w hg (by simpa using hn) (fun u hu => h1 u (by simpa using hu))
  cases hq : P.info? t with
  | none => simp [hq] at ht
  | some i =>
    have hs : v.cells.size = i.size := by simp [hq] at ht; omega
    simp only [Nat.add_zero, Array.length_toList] at this
    rw [hs] at this ⊢
    simp [storeVar, sizeOf, typeInfo, hq, hs, this]
theorem size_setRow_ (w : World) (g : Nat) (cs : Array Value) : (w.setRow g cs).heap.size = w.heap.size := by simp [World.setRow]
theorem putK_store {t : TypeId} {x y : Operand} {p f : Nat} {T : TypeId} {cs cs' : Array Value} {v : Value} (ho : o.op = .store t x y) (hx : a.eval x = .pointer (some ⟨p, f, none⟩)) (hy : a.eval y = v)
    (hn : f + v.cells.size ≤ cs.size) (ht : (P.info? t).map (·.size) = some v.cells.size) (h1 : ∀ u ∈ v.cells, u.oneCell' = true)
    (hc : (cs.toList.take f ++ v.cells.toList ++ cs.toList.drop (f + v.cells.size)).toArray = cs') : PutK P o a p (T, cs) (T, cs') := by
  refine ⟨by simp [isStore, ho], fun w hb => ⟨w.setRow p cs', ?_, ?_, ?_, rfl, rfl, rfl, size_setRow_ _ _ _⟩⟩
  · unfold execOp
    simp only [ho, hx, hy, Instr.storeAt, Instr.sureAddr, Sem.run_bind, Sem.run_pure, Result.andThen_ok, run_store_part hb hn ht h1, hc]
  · exact setRow_heap w p cs cs' T (0, 0) hb
  · exact fun k hk => setRow_other w p k cs' hk
/-- a variable of a struct's type, written whole -/
theorem Seq.store {t T : TypeId} {x y : Operand} {p n : Nat} {cs cs' : Array Value} (ho : o.op = .store t x y) (hk : kd gs k o = .put) (hw : wants ops o a = true) (hx : a.eval x = .pointer (some ⟨p, 0, none⟩)) (hy : a.eval y = .agg cs')
    (hR : R p = some (T, cs)) (hn : cs.size = n) (hn' : cs'.size = n) (ht : (P.info? t).map (·.size) = some n) (h1 : ∀ u ∈ cs', u.oneCell' = true)
    (h : Seq P ops Q W l gs (k + 1) rest (a.put o.dst undef) (R.put p (T, cs'))) : Seq P ops Q W l gs k (o :: rest) a R := by
  refine .inl (.inr ⟨hw, ?_⟩)
  rw [hk]
  refine ⟨p, (T, cs), (T, cs'), hR, putK_store ho hx hy ?_ ?_ ?_ ?_, h⟩
  · show 0 + cs'.size ≤ cs.size; omega
  · rw [ht]; show some n = some cs'.size; rw [hn']
  · exact h1
  · show ([] ++ cs'.toList ++ cs.toList.drop (0 + cs'.size)).toArray = cs'
    rw [List.drop_of_length_le (by simp; omega)]; simp
/-- a part of a block is written -/
theorem Seq.storeAt {t T : TypeId} {x y : Operand} {p f : Nat} {cs cs' : Array Value} {v : Value} (ho : o.op = .store t x y) (hk : kd gs k o = .put) (hw : wants ops o a = true) (hx : a.eval x = .pointer (some ⟨p, f, none⟩)) (hy : a.eval y = v)
    (hR : R p = some (T, cs)) (hn : f + v.cells.size ≤ cs.size) (ht : (P.info? t).map (·.size) = some v.cells.size) (h1 : ∀ u ∈ v.cells, u.oneCell' = true)
    (hc : (cs.toList.take f ++ v.cells.toList ++ cs.toList.drop (f + v.cells.size)).toArray = cs')
    (h : Seq P ops Q W l gs (k + 1) rest (a.put o.dst undef) (R.put p (T, cs'))) : Seq P ops Q W l gs k (o :: rest) a R := by
  refine .inl (.inr ⟨hw, ?_⟩)
  rw [hk]
  exact ⟨p, (T, cs), (T, cs'), hR, putK_store ho hx hy hn ht h1 hc, h⟩
theorem Seq.loadAt {t T : TypeId} {x : Operand} {g f n : Nat} {cs cs' : Array Value} (ho : o.op = .load t x) (hk : kd gs k o = .val) (hw : wants ops o a = true) (hx : a.eval x = .pointer (some ⟨g, f, none⟩))
    (hm : (g, T, cs) ∈ l) (hn : f + n ≤ cs.size) (ht : aggOf P t n = true) (hc : cs.extract f (f + n) = cs')
    (h : Seq P ops Q W l gs (k + 1) rest (a.put o.dst (.agg cs')) R) : Seq P ops Q W l gs k (o :: rest) a R :=
  Seq.look hk hw (fun w hs => by
    unfold execOp
    simp only [ho, hx, Instr.loadAt, Instr.sureAddr, Sem.run_bind, Sem.run_pure, Result.andThen_ok, run_load_part (hs.blk _ hm).2 hn ht, hc]) h
theorem Seq.loadCell {t T : TypeId} {x : Operand} {g f : Nat} {cs : Array Value} {v : Value} (ho : o.op = .load t x) (hk : kd gs k o = .val) (hw : wants ops o a = true) (hx : a.eval x = .pointer (some ⟨g, f, none⟩))
    (hm : (g, T, cs) ∈ l) (hv : cs[f]? = some v) (ht : cellOf P t = true) (h1 : v.oneCell' = true)
    (h : Seq P ops Q W l gs (k + 1) rest (a.put o.dst v) R) : Seq P ops Q W l gs k (o :: rest) a R :=
  Seq.look hk hw (fun w hs => by
    unfold execOp
    simp only [ho, hx, Instr.loadAt, Instr.sureAddr, Sem.run_bind, Sem.run_pure, Result.andThen_ok, run_load_cell (hs.blk _ hm).2 hv ht h1]) h
/-- a block that the region has made or will write: read before it is written -/
theorem Seq.get {t T : TypeId} {x : Operand} {g n : Nat} {cs : Array Value} (ho : o.op = .load t x) (hk : kd gs k o = .get) (hw : wants ops o a = true) (hx : a.eval x = .pointer (some ⟨g, 0, none⟩))
    (hR : R g = some (T, cs)) (hn : cs.size = n) (ht : aggOf P t n = true)
    (h : Seq P ops Q W l gs (k + 1) rest (a.put o.dst (.agg cs)) R) : Seq P ops Q W l gs k (o :: rest) a R := by
  refine .inl (.inr ⟨hw, ?_⟩)
  rw [hk]
  refine ⟨g, (T, cs), _, hR, ⟨by simp [isLoad, ho], fun w hb => ?_⟩, h⟩
  unfold execOp
  simp only [ho, hx, Instr.loadAt, Instr.sureAddr, Sem.run_bind, Sem.run_pure, Result.andThen_ok, run_load_whole hb hn ht]
theorem Seq.getCell {t T : TypeId} {x : Operand} {g f : Nat} {cs : Array Value} {v : Value} (ho : o.op = .load t x) (hk : kd gs k o = .get) (hw : wants ops o a = true) (hx : a.eval x = .pointer (some ⟨g, f, none⟩))
    (hR : R g = some (T, cs)) (hv : cs[f]? = some v) (ht : cellOf P t = true) (h1 : v.oneCell' = true)
    (h : Seq P ops Q W l gs (k + 1) rest (a.put o.dst v) R) : Seq P ops Q W l gs k (o :: rest) a R := by
  refine .inl (.inr ⟨hw, ?_⟩)
  rw [hk]
  refine ⟨g, (T, cs), _, hR, ⟨by simp [isLoad, ho], fun w hb => ?_⟩, h⟩
  unfold execOp
  simp only [ho, hx, Instr.loadAt, Instr.sureAddr, Sem.run_bind, Sem.run_pure, Result.andThen_ok, run_load_cell hb hv ht h1]
/-! ### new blocks -/
theorem Seq.alloc {t : TypeId} {z : Value} {cs : Array Value} (ho : o.op = .alloc t) (hk : kd gs k o = .new) (hw : wants ops o a = true) (hz : (P.info? t).bind (·.zero) = some z) (hc : z.cells = cs)
    (h : ∀ p, W.heap.size ≤ p → (∀ e ∈ l, e.1 ≠ p) → R p = none → Seq P ops Q W l gs (k + 1) rest (a.put o.dst (.pointer (some ⟨p, 0, none⟩))) (R.put p (t, cs))) : Seq P ops Q W l gs k (o :: rest) a R := by
  refine .inl (.inr ⟨hw, ?_⟩)
  rw [hk]
  refine ⟨none, (t, cs), fun w => ?_, fun p hp => h p hp.1 hp.2.1 hp.2.2⟩
  cases hi : P.info? t with
  | none => simp [hi] at hz
  | some i =>
    simp only [hi, Option.bind_some] at hz
    subst hc
    simp [execOp, ho, Instr.alloc, zeroValue, typeInfo, hi, hz, newVar, newRow, mk, go_sem]
theorem Seq.box {t : TypeId} {x : Operand} {v : Value} {cs : Array Value} (ho : o.op = .box t x) (hk : kd gs k o = .new) (hw : wants ops o a = true) (hx : a.eval x = v) (hc : v.cells = cs)
    (h : ∀ p, W.heap.size ≤ p → (∀ e ∈ l, e.1 ≠ p) → R p = none → Seq P ops Q W l gs (k + 1) rest (a.put o.dst (.pointer (some ⟨p, 0, none⟩))) (R.put p (t, cs))) : Seq P ops Q W l gs k (o :: rest) a R := by
  refine .inl (.inr ⟨hw, ?_⟩)
  rw [hk]
  refine ⟨none, (t, cs), fun w => ?_, fun p hp => h p hp.1 hp.2.1 hp.2.2⟩
  subst hc
  unfold execOp
  simp only [ho, hx]
  simp [Instr.box, newVar, newRow, mk, go_sem]
end

theorem Reg.ne_of_put {R : Reg} {p q : Nat} {x : TypeId × Array Value} (h : R.put p x q = none) : q ≠ p ∧ R q = none := by
  by_cases hq : q = p
  · subst hq; rw [Reg.put_same] at h; cases h
  · exact ⟨hq, by rwa [Reg.put_ne _ _ hq] at h⟩
/-- the blocks ns join the list -/
theorem StR.list {W w : World} {l : List Own} {R : Reg} (h : StR W l R w) (ns : List Own) (hd : ns.Pairwise (fun x y => x.1 ≠ y.1)) (hr : ∀ e ∈ ns, R e.1 = some e.2) : St W (ns ++ l) w := by
  refine ⟨h.st.below, fun e he => ?_, List.pairwise_append.2 ⟨hd, h.st.apart, fun x hx y hy => ?_⟩⟩
  · rcases List.mem_append.1 he with he | he
    · have := h.reg e.1 e.2.1 e.2.2 (hr e he); exact ⟨this.1, this.2.2⟩
    · exact h.st.blk e he
  · have := h.reg x.1 x.2.1 x.2.2 (hr x hx)
    exact Ne.symm (this.2.1 y hy)
theorem StR.list1 {W w : World} {l : List Own} {R : Reg} (h : StR W l R w) {p : Nat} {x : TypeId × Array Value} (hr : R p = some x) : St W ((p, x) :: l) w :=
  h.list [(p, x)] (List.pairwise_singleton _ _) (fun e he => by rw [List.mem_singleton.1 he]; exact hr)
theorem StR.list2 {W w : World} {l : List Own} {R : Reg} (h : StR W l R w) {p q : Nat} {x y : TypeId × Array Value} (hp : R p = some x) (hq : R q = some y) (hne : p ≠ q) : St W ((p, x) :: (q, y) :: l) w :=
  h.list [(p, x), (q, y)] (List.pairwise_cons.2 ⟨fun e he => by rw [List.mem_singleton.1 he]; exact hne, List.pairwise_singleton _ _⟩) (fun e he => by
    rcases List.mem_cons.1 he with rfl | he
    · exact hp
    · rw [List.mem_singleton.1 he]; exact hq)
theorem StR.list3 {W w : World} {l : List Own} {R : Reg} (h : StR W l R w) {p q r : Nat} {x y z : TypeId × Array Value} (hp : R p = some x) (hq : R q = some y) (hr : R r = some z) (h1 : p ≠ q) (h2 : p ≠ r) (h3 : q ≠ r) : St W ((p, x) :: (q, y) :: (r, z) :: l) w :=
  h.list [(p, x), (q, y), (r, z)] (List.pairwise_cons.2 ⟨fun e he => by
    rcases List.mem_cons.1 he with rfl | he
    · exact h1
    · rw [List.mem_singleton.1 he]; exact h2, List.pairwise_cons.2 ⟨fun e he => by rw [List.mem_singleton.1 he]; exact h3, List.pairwise_singleton _ _⟩⟩) (fun e he => by
    rcases List.mem_cons.1 he with rfl | he
    · exact hp
    · rcases List.mem_cons.1 he with rfl | he
      · exact hq
      · rw [List.mem_singleton.1 he]; exact hr)

/-! ### blocks that came in -/
section
variable {P : Program} {ops : Array Oper} {W : World} {l : List Own} {Q : Exit → Act → World → Prop} {gs : List Nat} {k : Nat} {o : Oper} {rest : List Oper} {a : Act} {R : Reg}
theorem St.came {w : World} {g : Nat} {T : TypeId} {cs : Array Value} (h : St W l w) (hF : Blk W g T cs) : Blk w g T cs := hF.belowB h.below
theorem Seq.loadAtF {t T : TypeId} {x : Operand} {g f n : Nat} {cs cs' : Array Value} (ho : o.op = .load t x) (hk : kd gs k o = .val) (hw : wants ops o a = true) (hx : a.eval x = .pointer (some ⟨g, f, none⟩))
    (hF : Blk W g T cs) (hn : f + n ≤ cs.size) (ht : aggOf P t n = true) (hc : cs.extract f (f + n) = cs')
    (h : Seq P ops Q W l gs (k + 1) rest (a.put o.dst (.agg cs')) R) : Seq P ops Q W l gs k (o :: rest) a R :=
  Seq.look hk hw (fun w hs => by
    unfold execOp
    simp only [ho, hx, Instr.loadAt, Instr.sureAddr, Sem.run_bind, Sem.run_pure, Result.andThen_ok, run_load_part (hs.came hF) hn ht, hc]) h
theorem Seq.loadCellF {t T : TypeId} {x : Operand} {g f : Nat} {cs : Array Value} {v : Value} (ho : o.op = .load t x) (hk : kd gs k o = .val) (hw : wants ops o a = true) (hx : a.eval x = .pointer (some ⟨g, f, none⟩))
    (hF : Blk W g T cs) (hv : cs[f]? = some v) (ht : cellOf P t = true) (h1 : v.oneCell' = true)
    (h : Seq P ops Q W l gs (k + 1) rest (a.put o.dst v) R) : Seq P ops Q W l gs k (o :: rest) a R :=
  Seq.look hk hw (fun w hs => by
    unfold execOp
    simp only [ho, hx, Instr.loadAt, Instr.sureAddr, Sem.run_bind, Sem.run_pure, Result.andThen_ok, run_load_cell (hs.came hF) hv ht h1]) h
end
/-! ### calls that look at a block of the region; slices; values of a struct's type -/
section
variable {P : Program} {ops : Array Oper} {W : World} {l : List Own} {Q : Exit → Act → World → Prop} {gs : List Nat} {k : Nat} {o : Oper} {rest : List Oper} {a : Act} {R : Reg}
theorem Seq.callAny {f : FuncId} {xs : List Operand} {ts : Array TypeId} {vs : Array Value} {v : Value} (ho : o.op = .call { callee := .value (.func f), args := xs.toArray, argTypes := ts }) (hk : kd gs k o = .any) (hw : wants ops o a = true)
    (hx : xs.map a.eval = vs.toList) (hf : goesIn P f = true)
    (hc : ∀ w, StR W l R w → Calls P f vs w (fun e w' => e = .returned v ∧ Below w.heap.size w w'))
    (h : Seq P ops Q W l gs (k + 1) rest (a.put o.dst v) R) : Seq P ops Q W l gs k (o :: rest) a R := by
  refine .inl (.inr ⟨hw, ?_⟩)
  rw [hk]
  refine ⟨v, ⟨by simp [isCall, ho], fun w hs => ?_⟩, h⟩
  have hr : (execOp a.eval o).run P w = .ok (.enter f vs) w := by
    unfold goesIn at hf
    cases hp : P.funcs[f]? with
    | none => simp [hp] at hf
    | some fn =>
      simp only [hp, Bool.and_eq_true, bne_iff_ne, ne_eq] at hf
      have hb : fn.body.isNone = false := by cases hq : fn.body <;> simp_all
      have hv : (xs.map a.eval).toArray = vs := by rw [hx]
      simp [execOp, ho, resolve, invoke, callFunc, Deferred.ofValue, Act.eval, hp, hf.1, hb, hv, go_sem]
      intro hq; rw [hq] at hb; cases hb
  rw [hr]
  exact ⟨Below.refl _ _, hc w hs⟩
theorem Seq.slice {n : Nat} {e : TypeId} {cs : Array Value} (hk : kd gs k o = .new) (hw : wants ops o a = true)
    (hr : ∀ w : World, (execOp a.eval o).run P w = .ok (.value (.slice (some ⟨w.heap.size, 0, none⟩) n n)) (w.alloc (.cells cs e)))
    (h : ∀ p, W.heap.size ≤ p → (∀ e ∈ l, e.1 ≠ p) → R p = none → Seq P ops Q W l gs (k + 1) rest (a.put o.dst (.slice (some ⟨p, 0, none⟩) n n)) (R.put p (e, cs))) : Seq P ops Q W l gs k (o :: rest) a R := by
  refine .inl (.inr ⟨hw, ?_⟩)
  rw [hk]
  exact ⟨some n, (e, cs), fun w => hr w, fun p hp => h p hp.1 hp.2.1 hp.2.2⟩
/-- a field of a struct value, itself of a struct's type -/
def fieldIs (P : Program) (t : TypeId) (f off n : Nat) : Bool := match P.underlying t with
  | some (.struct fs) => (match fs[f]? with | some d => d.offset == off && aggOf P d.type n | none => false)
  | _ => false
theorem run_field {t : TypeId} {f off n : Nat} {cs : Array Value} (h : fieldIs P t f off n = true) (w : World) : (Instr.field t (.agg cs) f).run P w = .ok (.agg (cs.extract off (off + n))) w := by
  unfold fieldIs at h
  cases hu : P.underlying t with
  | none => simp [hu] at h
  | some d =>
    cases d <;> simp only [hu, Bool.false_eq_true] at h
    rename_i fs
    cases hf : fs[f]? with
    | none => simp [hf] at h
    | some d =>
      simp only [hf, Bool.and_eq_true, beq_iff_eq, aggOf] at h
      obtain ⟨rfl, h1, h2⟩ := h
      have hagg : (isAgg d.type).run P w = .ok true w := by
        unfold isAgg
        cases hu2 : P.underlying d.type with
        | none => simp [hu2] at h1
        | some d2 =>
          rw [Sem.run_bind, run_underlying hu2 w]
          rw [hu2] at h1
          cases d2 <;> simp_all
      cases hq : P.info? d.type with
      | none => simp [hq] at h2
      | some i =>
        have hs : i.size = n := by rw [hq] at h2; simpa using h2
        simp [Instr.field, Sem.run_bind, run_underlying hu w, hf, part, asAgg, hagg, sizeOf, typeInfo, hq, hs]
theorem Seq.field {t : TypeId} {x : Operand} {f off n : Nat} {cs cs' : Array Value} (ho : o.op = .field t x f) (hk : kd gs k o = .val) (hw : wants ops o a = true) (hx : a.eval x = .agg cs)
    (hf : fieldIs P t f off n = true) (hc : cs.extract off (off + n) = cs')
    (h : Seq P ops Q W l gs (k + 1) rest (a.put o.dst (.agg cs')) R) : Seq P ops Q W l gs k (o :: rest) a R :=
  Seq.pure hk hw (fun w => by
    unfold execOp
    simp only [ho, hx, Sem.run_bind, run_field hf w, hc, Result.andThen_ok, Sem.run_pure]) h
end
/-! ### the end of a function -/
theorem ret_own {P : Program} {fn : Func} {E : Ending → World → Prop} {a : Act} {w W : World} {l : List Own} {p ty : Nat} {g n : Nat} {T : TypeId} {cs : Array Value}
    (hr : fn.results = #[.cell p ty]) (hd : a.defers = []) (hp : a.tmps.getD p undef = .pointer (some ⟨g, 0, none⟩)) (hS : St W l w) (hm : (g, T, cs) ∈ l) (hn : cs.size = n) (ht : aggOf P ty n = true)
    (h : E (.returned (.agg cs)) w) : bodyPost P fn E .ret a w := by
  unfold aggOf at ht
  simp only [Bool.and_eq_true, beq_iff_eq] at ht
  cases hu : P.underlying ty with
  | none => simp [hu] at ht
  | some d =>
    refine bodyPost_ret (v := .agg cs) (results_cell_row hr a.tmps w g T cs (0, 0) d hp (hS.blk _ hm).2 hu ?_ (by rw [ht.2, hn])) hd h
    have h := ht.1
    rw [hu] at h
    cases d <;> simp_all
theorem ret_own2 {P : Program} {fn : Func} {E : Ending → World → Prop} {a : Act} {w W : World} {l : List Own} {p ty q : Nat} {g n : Nat} {T : TypeId} {cs : Array Value} {v : Value}
    (hr : fn.results = #[.cell p ty, .tmp q]) (hd : a.defers = []) (hp : a.tmps.getD p undef = .pointer (some ⟨g, 0, none⟩)) (hq : a.tmps.getD q undef = v) (hS : St W l w) (hm : (g, T, cs) ∈ l) (hn : cs.size = n) (ht : aggOf P ty n = true)
    (h : E (.returned (.tuple #[.agg cs, v])) w) : bodyPost P fn E .ret a w := by
  refine bodyPost_ret (v := .tuple #[.agg cs, v]) ?_ hd h
  have hp' : a.tmps[p]?.getD undef = .pointer (some ⟨g, 0, none⟩) := by simpa using hp
  have hq' : a.tmps[q]?.getD undef = v := by simpa using hq
  simp [results, hr, hp', hq', asAddr, run_load_whole (hS.blk _ hm).2 hn ht]
/-! ### fields -/
/-! ### in the order of the text: any step -/
section
variable {P : Program} {ops : Array Oper} {W : World} {l : List Own} {Q : Exit → Act → World → Prop} {gs : List Nat} {k : Nat} {o : Oper} {rest : List Oper} {a : Act} {R : Reg}
theorem Seq.gen (hg : gs.contains 3000000 = true) (hw : wants ops o a = true) (h : ∀ w, StR W l R w → o.wp P a w (fun a' w' => ∃ R', StR W l R' w' ∧ Seq P ops Q W l gs (k + 1) rest a' R') Q) : Seq P ops Q W l gs k (o :: rest) a R := .inr ⟨hg, hw, h⟩
/-- an operation that runs through, whatever it does -/
theorem Seq.run {v : Value → Prop} (hg : gs.contains 3000000 = true) (hw : wants ops o a = true)
    (hr : ∀ w, StR W l R w → ∃ u R' w', (execOp a.eval o).run P w = .ok (.value u) w' ∧ StR W l R' w' ∧ Seq P ops Q W l gs (k + 1) rest (a.put o.dst u) R') : Seq P ops Q W l gs k (o :: rest) a R := by
  refine Seq.gen hg hw fun w hs => ?_
  obtain ⟨u, R', w', h1, h2, h3⟩ := hr w hs
  unfold Oper.wp
  rw [h1]
  exact ⟨R', h2, h3⟩
end
end Go.Proofs.YtekbpiooecdopaaDoor
