/- slices.Index and Contains at strings; the words that cannot be names: parse.keyword, parse.Name, gantref4.FreeName. -/
import Derived.Test.YtekbpiooecdopaaDoorWnC
import Derived.Test.YtekbpiooecdopaaDoorTyA

namespace Go.Proofs.YtekbpiooecdopaaDoor
open Go.RowKit
set_option linter.unusedVariables false
set_option linter.unusedSimpArgs false

/-- the strings xs stand at A, in blocks below base -/
def StrsAt (w : World) (base : Nat) (A : Option Addr) (xs : List ByteArray) : Prop := ∀ j x, xs[j]? = some x → ∃ b off, A = some ⟨b, off, none⟩ ∧ b < base ∧ w.cell? ⟨b, off + j, none⟩ = some (.string x)
def eqS (x y : ByteArray) : Bool := x.toList == y.toList
theorem eqS_bl (x y : ByteArray) : eqS x y = (bl x == bl y) := by unfold eqS bl; rw [Lib.toList_data, Lib.toList_data]
def ixS (s : ByteArray) (xs : List ByteArray) : Int := match xs.findIdx? (eqS s) with | some i => i | none => -1
theorem ixS_found {s : ByteArray} {xs : List ByteArray} {k : Nat} {x : ByteArray} (hx : xs[k]? = some x) (hp : eqS s x = true) (h : ∀ j < k, ∀ y, xs[j]? = some y → eqS s y = false) : ixS s xs = k := by
  unfold ixS
  have : xs.findIdx? (eqS s) = some k := by
    rw [List.findIdx?_eq_some_iff_getElem]
    obtain ⟨hl, hx2⟩ := List.getElem?_eq_some_iff.1 hx
    refine ⟨hl, by rw [hx2]; exact hp, fun j hj => ?_⟩
    have := h j hj _ (List.getElem?_eq_getElem (by omega))
    simp [this]
  rw [this]
theorem ixS_none {s : ByteArray} {xs : List ByteArray} (h : ∀ j < xs.length, ∀ y, xs[j]? = some y → eqS s y = false) : ixS s xs = -1 := by
  unfold ixS
  have : xs.findIdx? (eqS s) = none := by
    rw [List.findIdx?_eq_none_iff]
    intro x hx
    obtain ⟨j, hj⟩ := List.mem_iff_getElem?.1 hx
    exact h j (List.getElem?_eq_some_iff.1 hj).1 x hj
  rw [this]
theorem ixS_any (s : ByteArray) (xs : List ByteArray) : decide (0 ≤ ixS s xs) = xs.any (eqS s) := by
  unfold ixS
  cases h : xs.findIdx? (eqS s) with
  | none =>
    have h1 := List.findIdx?_eq_none_iff.1 h
    have : xs.any (eqS s) = false := by rw [List.any_eq_false]; intro x hx; simp [h1 x hx]
    rw [this]; simp
  | some i =>
    obtain ⟨hl, hp, _⟩ := List.findIdx?_eq_some_iff_getElem.1 h
    have : xs.any (eqS s) = true := List.any_eq_true.2 ⟨_, List.getElem_mem hl, hp⟩
    rw [this]; simp
theorem ixS_lo (s : ByteArray) (xs : List ByteArray) : -1 ≤ ixS s xs := by unfold ixS; split <;> omega
theorem ixS_hi (s : ByteArray) (xs : List ByteArray) : ixS s xs < xs.length ∨ xs = [] ∧ ixS s xs = -1 := by
  unfold ixS
  cases h : xs.findIdx? (eqS s) with
  | none =>
    cases xs with
    | nil => exact .inr ⟨rfl, rfl⟩
    | cons a l => left; simp; omega
  | some i =>
    obtain ⟨hl, _⟩ := List.findIdx?_eq_some_iff_getElem.1 h
    left; show (i : Int) < _; omega
theorem forall_lt0 {p : Nat → Prop} : ∀ j < 0, p j := fun _ h => absurd h (Nat.not_lt_zero _)
theorem forall_lt1 {p : Nat → Prop} {k : Nat} (h : ∀ j < k, p j) (hk : p k) : ∀ j < k + 1, p j := fun j hj => by
  rcases Nat.lt_or_ge j k with h1 | h1
  · exact h j h1
  · have : j = k := by omega
    rw [this]; exact hk
set_option maxHeartbeats 1000000 in
theorem ixS_walk (xs : List ByteArray) (A : Option Addr) (n c : Nat) (s : ByteArray) (w : World) (hn : n = xs.length) (hm : n ≤ 9223372036854775807) (h : StrsAt w w.heap.size A xs) :
    Calls Tryd.prog 9 #[.slice A n c, .string s] w fun e w' => e = .returned (.int .i64 (ixS s xs)) ∧ w' = w := by
  have HN := Lib.hid hn; clear hn
  have H := Lib.hid h; clear h
  go_enter Tryd.func9, Tryd.ntmps9
  go_wp2_with fail
  go_loop [8] (fun i => ∃ k : Nat, k ≤ n ∧ i = .int .i64 k ∧ Hid (∀ j < k, ∀ y, xs[j]? = some y → eqS s y = false)) (fun i => n - (intOf i).toNat)
  case atStart => exact ⟨0, Nat.zero_le _, rfl, forall_lt0⟩
  case round =>
    obtain ⟨k, hk, rfl, hall⟩ := hrel
    by_cases hlt : k < n
    · have hlt' : k < xs.length := by rw [← HN.out]; exact hlt
      obtain ⟨y, hy⟩ : ∃ y, xs[k]? = some y := ⟨_, List.getElem?_eq_getElem hlt'⟩
      obtain ⟨b, off, rfl, hb, h0⟩ := H.out k y hy
      have HY := Lib.hid hy; clear hy
      by_cases hp : eqS s y = true
      · have HF := Lib.hid (ixS_found HY.out hp hall.out)
        unfold eqS at hp
        go_wp2_with fail
        go_ret
        exact ⟨ret_int HF.out.symm, rfl⟩
      · have hp' : eqS s y = false := by simpa using hp
        clear hp
        have HP := Lib.hid hp'
        unfold eqS at hp'
        go_wp2_with fail
        go_round
        case rel => exact ⟨k+1, by omega, by go_num, forall_lt1 hall.out (fun y' hy' => by rw [HY.out] at hy'; cases hy'; exact HP.out)⟩
        case measure => simp [intOf]; omega
    · obtain rfl : k = n := by omega
      go_wp2_with fail
      go_ret
      exact ⟨ret_int (ixS_none (by rw [← HN.out]; exact hall.out)).symm, rfl⟩
set_option maxHeartbeats 1000000 in
theorem hasS_any (xs : List ByteArray) (A : Option Addr) (n c : Nat) (s : ByteArray) (w : World) (hn : n = xs.length) (hm : n ≤ 9223372036854775807) (h : StrsAt w w.heap.size A xs) {r : Bool} (hr : xs.any (eqS s) = r) :
    Calls Tryd.prog 44 #[.slice A n c, .string s] w fun e w' => e = .returned (.bool r) ∧ w' = w := by
  have HC := Lib.hid (ixS_walk xs A n c s w hn hm h)
  have HD : Hid (decide (0 ≤ ixS s xs) = r) := Lib.hid (by rw [ixS_any, hr])
  clear hn h hr
  obtain ⟨i, hi⟩ : ∃ i, ixS s xs = i := ⟨_, rfl⟩
  rw [hi] at HC HD
  clear hi
  go_enter Tryd.func44, Tryd.ntmps44
  go_wp2_with fail
  refine HC.out.mono ?_
  rintro e w' ⟨rfl, rfl⟩
  go_wp2_with fail
  go_ret
  exact ⟨ret_bool HD.out, rfl⟩
/-- the same words, as the program holds them -/
def kwS : List ByteArray := kws.map fun l => ⟨l.toArray⟩
theorem kwS_any (s : ByteArray) : kwS.any (eqS s) = kws.contains (bl s) := by
  unfold kwS
  rw [List.any_map, List.contains_eq_any_beq]
  congr 1
  funext l
  show eqS s ⟨l.toArray⟩ = (bl s == l)
  rw [eqS_bl]
  rfl
def freeB (l : List UInt8) : Bool := nameB l && !kws.contains l
theorem kwS_at {w : World} {g : Nat} {T : TypeId} (h : Blk w g T (kwS.map fun x => Value.string x).toArray) : StrsAt w w.heap.size (some ⟨g, 0, none⟩) kwS := fun j x hx => by
  refine ⟨g, 0, rfl, ?_, ?_⟩
  · exact h.lt
  · rw [Nat.zero_add]
    rw [h.cell]
    simp [hx]
set_option maxHeartbeats 2000000 in
set_option maxRecDepth 20000 in
theorem keyword_any (s : ByteArray) (w : World) :
    Calls Tryd.prog 28 #[.string s] w fun e w' => e = .returned (.bool (kws.contains (bl s))) ∧ Below w.heap.size w w' := by
  obtain ⟨r, hr⟩ : ∃ r, kws.contains (bl s) = r := ⟨_, rfl⟩
  have HC : Hid (∀ w : World, Calls Tryd.prog 44 #[.slice (some ⟨w.heap.size, 0, none⟩) 15 15, .string s] (w.alloc (.cells #[Value.string ⟨#[106, 111, 98]⟩, Value.string ⟨#[112, 117, 116]⟩, Value.string ⟨#[105, 110]⟩, Value.string ⟨#[119, 105, 116, 104, 105, 110]⟩, Value.string ⟨#[104, 111, 108, 100]⟩, Value.string ⟨#[119, 105, 116, 104]⟩, Value.string ⟨#[102, 114, 101, 101]⟩, Value.string ⟨#[115, 101, 101]⟩, Value.string ⟨#[119, 97, 105, 116]⟩, Value.string ⟨#[100, 111]⟩, Value.string ⟨#[114, 101, 112, 101, 97, 116]⟩, Value.string ⟨#[97, 110, 121]⟩, Value.string ⟨#[111, 114]⟩, Value.string ⟨#[116, 114, 121]⟩, Value.string ⟨#[101, 108, 115, 101]⟩] 9)) fun e w' => e = .returned (.bool r) ∧ w' = w.alloc (.cells #[Value.string ⟨#[106, 111, 98]⟩, Value.string ⟨#[112, 117, 116]⟩, Value.string ⟨#[105, 110]⟩, Value.string ⟨#[119, 105, 116, 104, 105, 110]⟩, Value.string ⟨#[104, 111, 108, 100]⟩, Value.string ⟨#[119, 105, 116, 104]⟩, Value.string ⟨#[102, 114, 101, 101]⟩, Value.string ⟨#[115, 101, 101]⟩, Value.string ⟨#[119, 97, 105, 116]⟩, Value.string ⟨#[100, 111]⟩, Value.string ⟨#[114, 101, 112, 101, 97, 116]⟩, Value.string ⟨#[97, 110, 121]⟩, Value.string ⟨#[111, 114]⟩, Value.string ⟨#[116, 114, 121]⟩, Value.string ⟨#[101, 108, 115, 101]⟩] 9)) := Lib.hid (fun w => hasS_any kwS _ 15 15 s _ rfl (by omega) (kwS_at (Blk.new w 9 (kwS.map fun x => Value.string x).toArray)) ((kwS_any s).trans hr))
  rw [hr]
  clear hr
  go_enter Tryd.func28, Tryd.ntmps28
  go_wp2_with (first | (go_at_call 44; refine (HC.out _).mono ?_; rintro e w' ⟨rfl, rfl⟩) | fail)
  go_ret
  exact ⟨rfl, (Below.refl _ _).alloc (Nat.le_refl _) _⟩
set_option maxHeartbeats 2000000 in
theorem name_any (s : ByteArray) (w : World) {b : Bool} (hb : freeB (bl s) = b) :
    Calls Tryd.prog 17 #[.string s] w fun e w' => e = .returned (.bool b) ∧ Below w.heap.size w w' := by
  have H1 := Lib.hid (isName_any s)
  have H2 := Lib.hid (keyword_any s)
  unfold freeB at hb
  obtain ⟨x, hx⟩ : ∃ x, nameB (bl s) = x := ⟨_, rfl⟩
  obtain ⟨y, hy⟩ : ∃ y, kws.contains (bl s) = y := ⟨_, rfl⟩
  rw [hx] at H1 hb
  rw [hy] at H2 hb
  clear hx hy
  subst hb
  cases x <;> cases y
  all_goals
    go_enter Tryd.func17, Tryd.ntmps17
    go_wp2_with (first | (go_at_call 27; refine (H1.out _).mono ?_; rintro e w' ⟨rfl, rfl⟩) | (go_at_call 28; refine (H2.out _).mono ?_; rintro e w' ⟨rfl, hb⟩) | fail)
    go_ret
    exact ⟨rfl, by first | exact Below.refl _ _ | assumption⟩
theorem name_letters {l : List UInt8} (h : nameB l = true) : ∀ b ∈ l, isL b.toNat = true := by
  unfold nameB shortB at h
  simp only [Bool.and_eq_true, List.all_eq_true] at h
  exact h.2
theorem app_bl (a b : ByteArray) : bl (a ++ b) = bl a ++ bl b := by
  unfold bl
  rw [ByteArray.data_append, Array.toList_append]
theorem spaced_any (s : ByteArray) (w : World) (h : MaxL w) {b : Bool} (hb : Lib.contains kwT (32 :: (bl s ++ [32])) = b) :
    Calls Tryd.prog 38 #[.string ⟨#[32, 106, 111, 98, 32, 112, 117, 116, 32, 105, 110, 32, 119, 105, 116, 104, 105, 110, 32, 104, 111, 108, 100, 32, 119, 105, 116, 104, 32, 102, 114, 101, 101, 32, 115, 101, 101, 32, 119, 97, 105, 116, 32, 100, 111, 32, 114, 101, 112, 101, 97, 116, 32, 97, 110, 121, 32, 111, 114, 32, 116, 114, 121, 32, 101, 108, 115, 101, 32]⟩, .string (⟨#[32]⟩ ++ s ++ ⟨#[32]⟩)] w fun e w' => e = .returned (.bool b) ∧ w' = w := by
  obtain ⟨h0, m, hm⟩ := h
  have h1 := Tryd.strings_Contains ⟨kwT.toArray⟩ (⟨#[32]⟩ ++ s ++ ⟨#[32]⟩) m w (by decide) hm
  have e : (⟨#[32]⟩ ++ s ++ ⟨#[32]⟩ : ByteArray).data.toList = 32 :: (bl s ++ [32]) := by
    show bl (⟨#[32]⟩ ++ s ++ ⟨#[32]⟩) = _
    rw [app_bl, app_bl]; rfl
  rw [e, show (⟨kwT.toArray⟩ : ByteArray).data.toList = kwT from rfl, hb] at h1
  exact h1
set_option maxHeartbeats 2000000 in
set_option maxRecDepth 20000 in
theorem freeName_any (s : ByteArray) (w : World) (hs : s.size ≤ 1048576) (hm : MaxL w) {b : Bool} (hb : freeB (bl s) = b) :
    Calls Tryd.prog 22 #[.string s] w fun e w' => e = .returned (.bool b) ∧ Below w.heap.size w w' := by
  have H1 := Lib.hid (fun w => nameIs_any s w hs)
  have HM := Lib.hid hm; clear hm
  unfold freeB at hb
  cases hx : nameB (bl s) with
  | false =>
    rw [hx] at H1 hb
    subst hb
    clear hx
    go_enter Tryd.func22, Tryd.ntmps22
    go_wp2_with (first | (go_at_call 37; refine (H1.out _).mono ?_; rintro e w' ⟨rfl, hb⟩) | fail)
    go_ret
    exact ⟨rfl, hb⟩
  | true =>
    obtain ⟨y, hy⟩ : ∃ y, kws.contains (bl s) = y := ⟨_, rfl⟩
    have HK := Lib.hid ((kw_law (name_letters hx)).trans hy)
    rw [hx] at H1 hb
    rw [hy] at hb
    subst hb
    clear hx hy
    have HT := Lib.hid (fun (w : World) (h : MaxL w) => spaced_any s w h HK.out)
    go_enter Tryd.func22, Tryd.ntmps22
    go_wp2_with (first | (go_at_call 37; refine (H1.out _).mono ?_; rintro e w' ⟨rfl, hb⟩) | (go_at_call 38; refine (HT.out _ (HM.out.below hb)).mono ?_; rintro e w' ⟨rfl, rfl⟩) | fail)
    go_ret
    exact ⟨rfl, hb⟩
end Go.Proofs.YtekbpiooecdopaaDoor
