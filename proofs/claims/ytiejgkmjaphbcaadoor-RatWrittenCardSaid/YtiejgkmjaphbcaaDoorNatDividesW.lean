/- Joined texts. -/
import Derived.Test.YtiejgkmjaphbcaaDoorBunNatA
import Derived.Test.YtiejgkmjaphbcaaDoorNatY

/- The walk of NatDivides. -/
namespace Go.Proofs.YtiejgkmjaphbcaaDoor
open Go.RowKit
set_option linter.unusedVariables false
set_option linter.unusedSimpArgs false

theorem divK {k l m n q r : Nat} {W w : World} (hq : m / n = q) (hr : m % n = r) (h0 : n ≠ 0) (h : Sz k m) (h' : Sz l n) (hk : k ≤ 35184372088832) (hl : l ≤ 35184372088832) (hw : Below W.heap.size W w) :
    Calls Tryd.prog 57 #[.string (S m), .string (S n)] w fun e w' => e = .returned (.tuple #[.string (S q), .string (S r), .int .i64 0]) ∧ Below W.heap.size W w' :=
  (div_S m n w h0 (Nat.le_trans h hk) (Nat.le_trans h' hl)).mono fun e w' ⟨h1, h2⟩ => ⟨by rw [← hq, ← hr]; exact h1, below_next hw h2⟩
theorem Sz.le {k m n : Nat} (h : Sz k m) (hn : n ≤ m) : Sz k n := Nat.le_trans (len_le_of_le hn) h
theorem Sz.more {k l m : Nat} (h : Sz k m) (hk : k ≤ l) : Sz l m := Nat.le_trans h hk

end Go.Proofs.YtiejgkmjaphbcaaDoor
