/- Joined texts: WnA WnB WnL. -/
import Derived.Test.YtekbpiooecdopaaDoorChecked
import Derived.WalkKit
import Derived.ProofKit
import Derived.Below
import Derived.Lib.Strings
import Derived.Lib.Hide
import Derived.Test.YtekbpiooecdopaaDoorBunLib
import Derived.Outline
import Derived.Deep.LoopGhost
import Derived.WalkSpells
import Derived.Lib.SplitLaws
import Derived.Lib.IndexBytes
import Derived.Lib.SlTrimSet
namespace Go.Proofs.YtekbpiooecdopaaDoor
open Go.RowKit
set_option linter.unusedVariables false
set_option linter.unusedSimpArgs false

def isL (n : Nat) : Bool := decide (97 ≤ n) && decide (n ≤ 122)

theorem letter_any (n : Nat) (w : World) : Calls Tryd.prog 43 #[.int .u8 n] w fun e w' => e = .returned (.bool (isL n)) ∧ w' = w := by
  rcases Nat.lt_or_ge n 97 with h1 | h1
  · go_enter Tryd.func43, Tryd.ntmps43
    go_wp2
    go_ret
    have : ¬ 97 ≤ n := by omega
    simp [isL, this]
  rcases Nat.lt_or_ge 122 n with h2 | h2
  · go_enter Tryd.func43, Tryd.ntmps43
    go_wp2
    go_ret
    have h3 : ¬ n ≤ 122 := by omega
    simp [isL, h3]
    omega
  · go_enter Tryd.func43, Tryd.ntmps43
    go_wp2
    go_ret
    simp [isL, h1, h2]
    omega
def bl (s : ByteArray) : List UInt8 := s.data.toList
theorem bl_len (s : ByteArray) : (bl s).length = s.size := by cases s; rfl
theorem bl_at (s : ByteArray) {j : Nat} (h : j < s.size) : (bl s)[j]? = some (s[j]'h) := by
  cases s with | mk a => simp [bl, ByteArray.getElem_eq_getElem_data] 
                         try exact ⟨h, rfl⟩
/-- a text of 1 to m bytes of a class -/
def shortB (P : Nat → Bool) (m : Nat) (l : List UInt8) : Bool := decide (1 ≤ l.length) && decide (l.length ≤ m) && l.all fun b => P b.toNat
theorem shortB_bad {P : Nat → Bool} {m : Nat} {l : List UInt8} {j : Nat} {x : UInt8} (h : l[j]? = some x) (hp : P x.toNat = false) : shortB P m l = false := by
  have : l.all (fun b => P b.toNat) = false := by
    rw [List.all_eq_false]
    exact ⟨x, List.mem_of_getElem? h, by rw [hp]; decide⟩
  unfold shortB
  rw [this, Bool.and_false]
theorem shortB_good {P : Nat → Bool} {m : Nat} {l : List UInt8} (h1 : 1 ≤ l.length) (h2 : l.length ≤ m) (h : ∀ (j : Nat) (x : UInt8), l[j]? = some x → P x.toNat = true) : shortB P m l = true := by
  have : l.all (fun b => P b.toNat) = true := by
    rw [List.all_eq_true]
    intro x hx
    obtain ⟨j, hj⟩ := List.getElem?_of_mem hx
    exact h j x hj
  unfold shortB
  rw [this, decide_eq_true h1, decide_eq_true h2]; rfl
theorem shortB_nil {P : Nat → Bool} {m : Nat} {l : List UInt8} (h : l.length = 0) : shortB P m l = false := by unfold shortB; rw [decide_eq_false (by omega)]; rfl
theorem shortB_long {P : Nat → Bool} {m : Nat} {l : List UInt8} (h : m < l.length) : shortB P m l = false := by unfold shortB; rw [decide_eq_false (show ¬ l.length ≤ m by omega)]; simp
def nameB (l : List UInt8) : Bool := shortB isL 12 l

set_option maxHeartbeats 2000000 in
theorem isName_any (s : ByteArray) (w : World) :
    Calls Tryd.prog 27 #[.string s] w fun e w' => e = .returned (.bool (nameB (bl s))) ∧ w' = w := by
  rcases Nat.eq_zero_or_pos s.size with h0 | h0
  · have HR := Lib.hid (show nameB (bl s) = false from shortB_nil (by rw [bl_len, h0]))
    have e0 : ((s.size : Int) == 0) = true := by rw [h0]; rfl
    clear h0
    go_enter Tryd.func27, Tryd.ntmps27
    go_wp2
    go_ret
    exact ⟨ret_bool HR.out.symm, rfl⟩
  have e0 : ((s.size : Int) == 0) = false := by rw [beq_eq_false_iff_ne]; omega
  rcases Nat.lt_or_ge 12 s.size with h1 | h1
  · have HR := Lib.hid (show nameB (bl s) = false from shortB_long (by rw [bl_len]; omega))
    go_enter Tryd.func27, Tryd.ntmps27
    go_wp2
    go_ret
    exact ⟨ret_bool HR.out.symm, rfl⟩
  have H0 := Lib.hid h0
  clear h0
  go_enter Tryd.func27, Tryd.ntmps27
  go_wp2_with fail
  clear e0
  go_loopg [14] s.size (fun k i wr => w = wr ∧ ∃ j : Nat, k = s.size - j ∧ j ≤ s.size ∧ i = .int .i64 j ∧ Hid (∀ i < j, ∀ x : UInt8, (bl s)[i]? = some x → isL x.toNat = true))
  case atStart => exact ⟨rfl, 0, rfl, Nat.zero_le _, rfl, fun i hi => absurd hi (Nat.not_lt_zero _)⟩
  case round =>
    obtain ⟨rfl, j, hgk, hj, rfl, hall⟩ := hrel
    have HGK := Lib.hid hgk; clear hgk
    by_cases hlt : j < s.size
    · have HB := Lib.hid (bl_at s hlt)
      cases hp : isL (s[j]'hlt).toNat
      · have HP := Lib.hid hp
        clear hp
        go_wp2_with (go_at_call 43; refine (letter_any _ _).mono ?_; rintro e w' ⟨rfl, hw⟩; rw [hw, HP.out])
        go_ret
        exact ⟨ret_bool (show nameB (bl s) = false from shortB_bad HB.out HP.out).symm, rfl⟩
      · have HP := Lib.hid hp
        clear hp
        go_wp2_with (go_at_call 43; refine (letter_any _ _).mono ?_; rintro e w' ⟨rfl, hw⟩; rw [hw, HP.out])
        go_roundg (s.size - (j + 1))
        case measure => rw [HGK.out]; omega
        case rel =>
          refine ⟨rfl, j + 1, rfl, by omega, by go_num, fun i hi x hx => ?_⟩
          rcases Nat.lt_or_eq_of_le (Nat.le_of_lt_succ hi) with h | h
          · exact hall.out i h x hx
          · subst h
            rw [HB.out] at hx
            injection hx with hx
            subst hx
            exact HP.out
    · go_wp2_with fail
      go_ret
      exact ⟨ret_bool (show nameB (bl s) = true from shortB_good (by have := H0.out; rw [bl_len]; omega) (by rw [bl_len]; omega) fun i x hx => hall.out i (by have := (List.getElem?_eq_some_iff.1 hx).1; rw [bl_len] at this; omega) x hx).symm, rfl⟩




def lettersL : List UInt8 := [97, 98, 99, 100, 101, 102, 103, 104, 105, 106, 107, 108, 109, 110, 111, 112, 113, 114, 115, 116, 117, 118, 119, 120, 121, 122]
theorem byte_all {p : UInt8 → Prop} (h : ∀ n : Fin 256, p (UInt8.ofNat n.val)) (x : UInt8) : p x := by
  have := h ⟨x.toNat, x.toNat_lt⟩
  rwa [UInt8.ofNat_toNat] at this
theorem lettersL_has (x : UInt8) : lettersL.contains x = isL x.toNat := byte_all (p := fun x => lettersL.contains x = isL x.toNat) (by decide +kernel) x
theorem dropWhile_nil {α : Type} {p : α → Bool} : ∀ {l : List α}, l.dropWhile p = [] ↔ l.all p = true
  | [] => by simp
  | a :: l => by
    rw [List.dropWhile_cons, List.all_cons]
    cases h : p a <;> simp [dropWhile_nil (l := l)]
theorem trimS_nil {l cs : List UInt8} : Lib.trimS l cs = [] ↔ l.all (cs.contains ·) = true := by
  unfold Lib.trimS Lib.trimLeftS
  rw [dropWhile_nil]
  constructor
  · intro h
    by_cases hr : Lib.trimRightS l cs = []
    · unfold Lib.trimRightS at hr
      rw [List.reverse_eq_nil_iff, dropWhile_nil] at hr
      simpa using hr
    · exfalso
      unfold Lib.trimRightS at h hr
      rw [List.reverse_eq_nil_iff] at hr
      rw [List.all_reverse] at h
      have hd := List.head_dropWhile_not (cs.contains ·) hr
      have := List.all_eq_true.1 h _ (List.head_mem hr)
      simp only [hd] at this
      cases this
  · intro h
    unfold Lib.trimRightS
    rw [List.all_eq_true] at h ⊢
    intro x hx
    rw [List.mem_reverse] at hx
    exact h x (List.mem_reverse.1 ((List.dropWhile_sublist _).subset hx))
/-- the document's answer for a text that must be of one class -/
def docB (cs : List UInt8) (m : Nat) (l : List UInt8) : Bool := decide (1 ≤ l.length) && decide (l.length ≤ m) && decide (Lib.trimS l cs = [])
theorem docB_name (l : List UInt8) : docB lettersL 12 l = nameB l := by
  unfold docB nameB shortB
  congr 1
  rw [show (fun b : UInt8 => isL b.toNat) = (fun b => lettersL.contains b) from funext fun b => (lettersL_has b).symm]
  have := trimS_nil (l := l) (cs := lettersL)
  cases h : l.all (fun b => lettersL.contains b)
  · rw [decide_eq_false (fun e => by rw [this.1 e] at h; cases h)]
  · rw [decide_eq_true (this.2 h)]
end Go.Proofs.YtekbpiooecdopaaDoor
