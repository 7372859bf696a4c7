/- Walks of package nat: text. -/
import Derived.Test.YtlfddhiimcophaaDoorNatC
namespace Go.Proofs.YtlfddhiimcophaaDoor
open Go.RowKit
set_option linter.unusedVariables false
set_option linter.unusedSimpArgs false

/-- words read from a slice -/
def WAt (w : World) (B : Nat) (A : Option Addr) (ws : List Nat) : Prop :=
  ∀ (i x : Nat), ws[i]? = some x → ∃ g off, A = some ⟨g, off, none⟩ ∧ g < B ∧ w.cell? ⟨g, off + i, none⟩ = some (.int .u32 (x : Int))
theorem WAt.below {w w' : World} {B B' : Nat} {A : Option Addr} {ws : List Nat} (h : WAt w B A ws) (hb : Below B' w w') (hB : B ≤ B') : WAt w' B A ws := by
  intro k u hu
  obtain ⟨b, off, hA, hlt, h0⟩ := h k u hu
  exact ⟨b, off, hA, hlt, (hb.cell (p := ⟨b, _, none⟩) (Nat.lt_of_lt_of_le hlt hB)).trans h0⟩
theorem WAt.more {w : World} {B B' : Nat} {A : Option Addr} {ws : List Nat} (h : WAt w B A ws) (hB : B ≤ B') : WAt w B' A ws := by
  intro k u hu
  obtain ⟨b, off, hA, hlt, h0⟩ := h k u hu
  exact ⟨b, off, hA, Nat.lt_of_lt_of_le hlt hB, h0⟩
theorem WAt.next {w w' : World} {A : Option Addr} {ws : List Nat} (h : WAt w w.heap.size A ws) (hb : Below w.heap.size w w') : WAt w' w'.heap.size A ws := (h.below hb (Nat.le_refl _)).more hb.size
theorem Blk.wAt {w : World} {g : Nat} {t : TypeId} {ws : List Nat} (h : Blk w g t (wcells ws)) : WAt w w.heap.size (some ⟨g, 0, none⟩) ws := fun i x hx =>
  ⟨g, 0, rfl, h.lt, by rw [h.cell, Nat.zero_add]; exact wcells_get hx⟩

def bcells (l : List UInt8) : Array Value := (l.map fun (n : UInt8) => Value.int .u8 (n.toNat : Int)).toArray
theorem bcells_get {l : List UInt8} {i : Nat} {c : UInt8} (h : l[i]? = some c) : (bcells l)[i]? = some (.int .u8 c.toNat) := by simp [bcells, h]
theorem bcells_set (l : List UInt8) (i : Nat) (c : UInt8) : (bcells l).setIfInBounds i (.int .u8 c.toNat) = bcells (l.set i c) := by
  apply Array.ext'
  simp [bcells, List.map_set]
theorem bcells_zeros (n : Nat) : bcells (List.replicate n 0) = Array.replicate n (.int .u8 0) := by
  apply Array.ext'
  simp [bcells]
theorem make_bytes (n : Nat) (hn : n ≤ 281474976710656) (w : World) : (Instr.makeSlice 58 (.int .i64 (n : Int)) (.int .i64 (n : Int))).run Tryd.prog w = .ok (.slice (some ⟨w.heap.size, 0, none⟩) n n) (w.alloc (.cells (bcells (List.replicate n 0)) 5)) := by
  obtain ⟨i0, hi0, hz0, hz1, hz2⟩ := info_parts infoU8
  have hr := run_make_one (P := Tryd.prog) Tryd.underlying58 hi0 hz0 hz1 rfl n (by rw [hz2]; omega) (by omega) w
  rw [hr, bcells_zeros]
theorem bytes_back (w : World) (g n : Nat) (l : List UInt8) (hn : n = l.length) (c : Nat) (t : TypeId) (h : Blk w g t (bcells l)) : (convert 58 9 (.slice (some ⟨g, 0, none⟩) n c)).run Tryd.prog w = .ok (.string ⟨l.toArray⟩) w := by
  subst hn
  exact run_convert_bytes_back (P := Tryd.prog) w 58 9 5 ⟨g, 0, none⟩ c l Tryd.underlying58 Tryd.underlying5 Tryd.underlying9 (fun j hj => by
    rw [Addr.add_lit, Nat.zero_add, h.cell]; exact bcells_get (List.getElem?_eq_getElem hj))

theorem set4 {l : List UInt8} {k : Nat} (h : k + 4 ≤ l.length) (a b c d : UInt8) : (((l.set k a).set (k+1) b).set (k+2) c).set (k+3) d = l.take k ++ a :: b :: c :: d :: l.drop (k+4) := by
  induction k generalizing l with
  | zero =>
    match l, h with
    | x :: y :: z :: u :: r, _ => rfl
  | succ k ih =>
    cases l with
    | nil => simp at h
    | cons x l =>
      have := ih (l := l) (by simp at h; omega)
      simp only [List.set_cons_succ, List.take_succ_cons, List.drop_succ_cons, List.cons_append]
      rw [← this]
def b4 (x : Nat) : List UInt8 := [UInt8.ofNat (x / 16777216 % 256), UInt8.ofNat (x / 65536 % 256), UInt8.ofNat (x / 256 % 256), UInt8.ofNat (x % 256)]
theorem ofNat_toNat (m : Nat) : (UInt8.ofNat (m % 256)).toNat = m % 256 := UInt8.toNat_ofNat_of_lt' (by simp [UInt8.size]; omega)
theorem b4_val {x : Nat} (h : x < 4294967296) (r : List UInt8) : bval (b4 x ++ r) = x * 256 ^ r.length + bval r := by
  rw [bval_append]
  congr 2
  show (((0 * 256 + (UInt8.ofNat (x / 16777216 % 256)).toNat) * 256 + (UInt8.ofNat (x / 65536 % 256)).toNat) * 256 + (UInt8.ofNat (x / 256 % 256)).toNat) * 256 + (UInt8.ofNat (x % 256)).toNat = x
  simp only [ofNat_toNat]
  omega

theorem text_any (ws : List Nat) (A : Option Addr) (n c : Nat) (w : World) (hn : n = ws.length) (hn2 : n ≤ 35184372088832) (hok : Wok ws) (h : WAt w w.heap.size A ws) :
    Calls Tryd.prog 48 #[.slice A n c] w fun e w' => e = .returned (.string (S (wval ws))) ∧ Below w.heap.size w w' := by
  have HN := Lib.hid hn; clear hn
  have H := Lib.hid h; clear h
  have HOK := Lib.hid hok; clear hok
  have hmk := make_bytes (4 * n) (by omega)
  have ec : ((4 * n : Nat) : Int) = 4 * (n : Int) := by omega
  rw [ec] at hmk
  go_enter Tryd.func48, Tryd.ntmps48
  go_wp2_with fail
  clear hmk
  have HB0 : Hid (Below w.heap.size w (w.alloc (.cells (bcells (List.replicate (4 * n) 0)) 5))) := (Below.refl _ _).alloc (Nat.le_refl _) _
  go_loopg [13] n (fun k i wr => ∃ (j : Nat) (bs : List UInt8), k = n - j ∧ j ≤ n ∧ i = .int .i64 j ∧ Hid (Below w.heap.size w wr) ∧ Hid (Blk wr w.heap.size 5 (bcells bs)) ∧ bs.length = 4 * n ∧ Hid (bval (bs.drop (4 * (n - j))) = wval (ws.take j)))
  case atStart => exact ⟨0, _, rfl, Nat.zero_le _, rfl, HB0.out, Blk.new _ _ _, by simp, by rw [Nat.sub_zero, List.drop_of_length_le (by simp)]; rfl⟩
  case round =>
    obtain ⟨j, bs, hgk, hj, rfl, hbel, hblk, hbl, hval⟩ := hrel
    have HGK := Lib.hid hgk; clear hgk
    by_cases hlt : j < n
    · obtain ⟨x, hx⟩ := get_of_lt HN.out hlt
      obtain ⟨g, off, rfl, hg, h0⟩ := H.out j x hx
      have g0 := (hbel.out.cell (p := ⟨g, off + j, none⟩) hg).trans h0
      clear h0
      have hxlt := HOK.out.get hx
      have HX := Lib.hid hx; clear hx
      have HBL := Lib.hid hbl; clear hbl
      have ek : (n : Int) - 1 - (j : Int) = ((n - 1 - j : Nat) : Int) := by omega
      generalize hm : n - 1 - j = m at *
      have hm1 : 4 * m + 3 < 4 * n := by omega
      have HM := Lib.hid hm; clear hm
      have e0 : ∀ i, i < 4 * n → ∃ v, wr.cell? ⟨w.heap.size, i, none⟩ = some v := fun i hi => by
        obtain ⟨c, hc⟩ := get_of_lt HBL.out.symm hi
        exact ⟨_, (hblk.out.cell i).trans (bcells_get hc)⟩
      obtain ⟨y0, c0⟩ := e0 (4 * m) (by omega)
      obtain ⟨y1, c1⟩ := e0 (4 * m + 1) (by omega)
      obtain ⟨y2, c2⟩ := e0 (4 * m + 2) (by omega)
      obtain ⟨y3, c3⟩ := e0 (4 * m + 3) (by omega)
      clear e0
      have f0 := hblk.out.frozen (4 * m)
      have f1 := hblk.out.frozen (4 * m + 1)
      have f2 := hblk.out.frozen (4 * m + 2)
      have f3 := hblk.out.frozen (4 * m + 3)
      go_wp2_with fail
      have q0 : ((x : Int) / 16777216) = (((UInt8.ofNat (x / 16777216 % 256)).toNat : Nat) : Int) := by rw [ofNat_toNat]; omega
      have q1 : ((x : Int) / 65536 % 256) = (((UInt8.ofNat (x / 65536 % 256)).toNat : Nat) : Int) := by rw [ofNat_toNat]; omega
      have q2 : ((x : Int) / 256 % 256) = (((UInt8.ofNat (x / 256 % 256)).toNat : Nat) : Int) := by rw [ofNat_toNat]; omega
      have q3 : ((x : Int) % 256) = (((UInt8.ofNat (x % 256)).toNat : Nat) : Int) := by rw [ofNat_toNat]; omega
      rw [q0, q1, q2, q3]
      go_roundg (n - (j + 1))
      case measure => rw [HGK.out]; omega
      case rel =>
        refine ⟨j + 1, (((bs.set (4*m) (UInt8.ofNat (x / 16777216 % 256))).set (4*m+1) (UInt8.ofNat (x / 65536 % 256))).set (4*m+2) (UInt8.ofNat (x / 256 % 256))).set (4*m+3) (UInt8.ofNat (x % 256)), rfl, by omega, by go_num, (((hbel.out.setCell (Nat.le_refl _) _).setCell (Nat.le_refl _) _).setCell (Nat.le_refl _) _).setCell (Nat.le_refl _) _, ?_, ?_, ?_⟩
        · have h4 := (((hblk.out.set_ (4*m) (.int .u8 (UInt8.ofNat (x / 16777216 % 256)).toNat)).set_ (4*m+1) (.int .u8 (UInt8.ofNat (x / 65536 % 256)).toNat)).set_ (4*m+2) (.int .u8 (UInt8.ofNat (x / 256 % 256)).toNat)).set_ (4*m+3) (.int .u8 (UInt8.ofNat (x % 256)).toNat)
          rw [bcells_set, bcells_set, bcells_set, bcells_set] at h4
          exact h4
        · simp only [List.length_set]; exact HBL.out
        · rw [set4 (by rw [HBL.out]; omega)]
          have hd : (bs.take (4*m) ++ UInt8.ofNat (x / 16777216 % 256) :: UInt8.ofNat (x / 65536 % 256) :: UInt8.ofNat (x / 256 % 256) :: UInt8.ofNat (x % 256) :: bs.drop (4*m+4)).drop (4 * (n - (j + 1))) = b4 x ++ bs.drop (4 * (n - j)) := by
            have hm2 := HM.out
            rw [show 4 * (n - (j+1)) = (bs.take (4*m)).length by rw [List.length_take, HBL.out]; omega, List.drop_left, show 4 * m + 4 = 4 * (n - j) by omega]; rfl
          rw [hd, b4_val hxlt, hval.out, wval_take_succ HX.out, List.length_drop, HBL.out, show 4 * n - 4 * (n - j) = 4 * j by omega, Nat.pow_mul, Nat.mul_comm, Nat.add_comm, show (256 : Nat) ^ 4 = 4294967296 from rfl]; exact rfl
    · obtain rfl : j = n := by omega
      have hst := bytes_back wr w.heap.size (4 * j) bs hbl.symm (4 * j) _ hblk.out
      have hv : bval bs = wval ws := by
        have := hval.out
        rw [Nat.sub_self, Nat.mul_zero, List.drop_zero, HN.out, List.take_length] at this
        exact this
      have hsz : (⟨bs.toArray⟩ : ByteArray).size ≤ maxLen := by show bs.length ≤ _; rw [hbl]; unfold maxLen; omega
      have HSZ := Lib.hid hsz; clear hsz hbl
      have HV := Lib.hid hv; clear hv
      go_wp2_with fail
      refine (trim_val _ _ HSZ.out).mono ?_
      rintro e w' ⟨rfl, rfl⟩
      go_wp2_with fail
      go_ret
      exact ⟨by rw [show bval (toL ⟨bs.toArray⟩) = wval ws from HV.out]; rfl, hbel.out⟩
end Go.Proofs.YtlfddhiimcophaaDoor
