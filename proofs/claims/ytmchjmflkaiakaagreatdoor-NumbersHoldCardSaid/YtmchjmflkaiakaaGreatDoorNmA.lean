/- Joined texts: NmL NmA. -/
import Derived.Test.YtmchjmflkaiakaaGreatDoorBo5
import Derived.Test.YtmchjmflkaiakaaGreatDoorSp6
namespace Go.Proofs.YtmchjmflkaiakaaGreatDoor
open Go.RowKit
set_option linter.unusedVariables false
set_option linter.unusedSimpArgs false
theorem and_fl (x : Nat) (hx : x < 18446744073709551616) : bits BinOp.and IntKind.u64 (x : Int) 9227875636482146303 = ((x / 9223372036854775808 * 9223372036854775808 + x % 4503599627370496 : Nat) : Int) := by
 have h := bits_and_u64_nat x 9227875636482146303 hx (by omega)
 have e : x &&& 9227875636482146303 = x / 9223372036854775808 * 9223372036854775808 + x % 4503599627370496 := by
  have h1 := Nat.and_div_two_pow (a := x) (b := 9227875636482146303) (n := 63)
  have h2 := Nat.and_mod_two_pow (a := x) (b := 9227875636482146303) (n := 63)
  have p3 : (9227875636482146303 : Nat) / 2 ^ 63 = 2 ^ 1 - 1 := by decide +kernel
  have p4 : (9227875636482146303 : Nat) % 2 ^ 63 = 2 ^ 52 - 1 := by decide +kernel
  rw [p3, Nat.and_two_pow_sub_one_eq_mod] at h1
  rw [p4, Nat.and_two_pow_sub_one_eq_mod] at h2
  omega
 rw [e] at h; exact h
theorem and_ex (y : Nat) (hy : y < 18446744073709551616) : bits BinOp.and IntKind.u64 (y : Int) 2047 = ((y % 2048 : Nat) : Int) := by
 have h := bits_and_u64_nat y 2047 hy (by omega)
 have e : y &&& 2047 = y % 2048 := Nat.and_two_pow_sub_one_eq_mod y 11
 rw [e] at h; exact h
theorem or_fl (s m e : Nat) (hs : s ≤ 1) (hm : m < 4503599627370496) (he : e < 2048) :
  bits BinOp.or IntKind.u64 ((s * 9223372036854775808 + m : Nat) : Int) ((e * 4503599627370496 : Nat) : Int) = ((s * 9223372036854775808 + (e * 4503599627370496 + m) : Nat) : Int) := by
 have h := u64_or_nat (s * 9223372036854775808 + m) (e * 4503599627370496) (by omega) (by omega)
 have h1 := Nat.two_pow_add_eq_or_of_lt (i := 63) (b := m) (by omega) s
 have h2 := Nat.two_pow_add_eq_or_of_lt (i := 52) (b := m) (by omega) e
 have h3 := Nat.two_pow_add_eq_or_of_lt (i := 63) (b := e * 4503599627370496 + m) (by omega) s
 have p1 : (2 : Nat) ^ 63 = 9223372036854775808 := by decide
 have p2 : (2 : Nat) ^ 52 = 4503599627370496 := by decide
 rw [p1] at h1 h3
 rw [p2] at h2
 have e9 : s * 9223372036854775808 + m ||| e * 4503599627370496 = s * 9223372036854775808 + (e * 4503599627370496 + m) := by
  rw [Nat.mul_comm s, h1, h3, Nat.mul_comm e, h2, Nat.or_assoc, Nat.or_comm m]
 rw [e9] at h; exact h
theorem pw_rz10 {n : Nat} (hn : n ≤ 73) : Rz 10 ((pw n : Nat) : Rat) := by
 have e1 : (((pw n : Nat) : Rat)).num = (pw n : Int) := Rat.num_natCast _
 have e2 : (((pw n : Nat) : Rat)).den = 1 := Rat.den_natCast _
 refine ⟨?_, ?_⟩
 ·rw [e1, Int.natAbs_natCast]
  unfold Sz
  rw [bstr_length_le]
  exact Nat.lt_of_le_of_lt (pw_le hn) (by decide +kernel)
 ·rw [e2]; exact Sz.one.more (by omega)
theorem ex_rz18 {b : Nat} (h1 : 4512606826625236992 ≤ b) (h2 : b ≤ 4701758010974797824) : Rz 18 (ex b) := by
 have h3 : 1002 ≤ exE b ∧ exE b ≤ 1044 := by unfold exE; rw [if_neg (by omega)]; omega
 rw [← ex_lo (by omega)]
 exact (m_rz (exM_lt b)).div (pw_rz10 (by omega)) (pw_ne _)
theorem mid_rz77 {b : Nat} (h1 : 4512606826625236992 ≤ b) (h2 : b < 4701758010974797824) : Rz 77 (midE b) :=
 ((num_s 1 2 (by decide) (by decide) (by decide)).mul ((ex_rz18 h1 (by omega)).add (ex_rz18 (b := b + 1) (by omega) (by omega)))).more (by omega)
theorem ex_2_21 : ex 4701758010974797824 = 2097152 := by
 rw [← ex_lo (b := 4701758010974797824) (by decide)]
 have e1 : exM 4701758010974797824 = 4503599627370496 := by decide
 have e2 : exE 4701758010974797824 = 1044 := by decide
 rw [e1, e2]
 have e3 : pw (1075 - 1044) = 2147483648 := by decide +kernel
 rw [e3]; decide +kernel
theorem mid_21 {b : Nat} (h : b < 4701758010974797824) : midE b ≤ 2097152 := by
 have h1 := mid_lt b
 have h2 := ex_le (show b + 1 ≤ 4701758010974797824 by omega)
 rw [ex_2_21] at h2; grind
structure Fl (l h : Rat) : Prop where
 zl : Rz 77 l
 zh : Rz 77 h
 le : l ≤ h
 lo : -2097152 ≤ l ∧ l ≤ 2097152
 hi : -2097152 ≤ h ∧ h ≤ 2097152
theorem fr_fl (n : Bool) {b : Nat} (h1 : 4517110426252607488 ≤ b) (h2 : b < 4701758010974797824) : Fl (frL n b) (frH n b) := by
 have z1 := mid_rz77 (b := b) (by omega) h2
 have z2 := mid_rz77 (b := b - 1) (by omega) (by omega)
 have p1 := mid_pos b
 have p2 := mid_pos (b - 1)
 have q1 := mid_21 h2
 have q2 := mid_21 (b := b - 1) (by omega)
 have m := mid_le (show b - 1 ≤ b by omega)
 unfold frL frH
 cases n
 ·have hb : ¬ b = 0 := by omega
  simp only [if_neg hb, Bool.false_eq_true, if_false]
  exact ⟨z2, z1, m, by constructor <;> grind, by constructor <;> grind⟩
 ·have hb : ¬ b = 0 := by omega
  simp only [if_neg hb, if_true]
  exact ⟨z1.neg, z2.neg, by grind, by constructor <;> grind, by constructor <;> grind⟩
theorem fr_le (n : Bool) (b : Nat) : frL n b ≤ frH n b := by
 have p1 := mid_pos b
 have m := mid_le (show b - 1 ≤ b by omega)
 unfold frL frH
 cases n
 ·simp only [Bool.false_eq_true, if_false]
  split <;> grind
 ·simp only [if_true]
  split <;> grind
def NmBd (M x : Rat) : Prop := -M ≤ x ∧ x ≤ M
theorem NmBd.mul {M N x y : Rat} (hx : NmBd M x) (hy : NmBd N y) : NmBd (M * N) (x * y) := by
 obtain ⟨a1, a2⟩ := hx
 obtain ⟨b1, b2⟩ := hy
 have h1 := Rat.mul_nonneg (show 0 ≤ M - x by grind) (show 0 ≤ N + y by grind)
 have h2 := Rat.mul_nonneg (show 0 ≤ M + x by grind) (show 0 ≤ N - y by grind)
 have h3 := Rat.mul_nonneg (show 0 ≤ M - x by grind) (show 0 ≤ N - y by grind)
 have h4 := Rat.mul_nonneg (show 0 ≤ M + x by grind) (show 0 ≤ N + y by grind)
 constructor <;> grind
theorem NmBd.min {M x y : Rat} (hx : NmBd M x) (hy : NmBd M y) : NmBd M (minQ x y) := by unfold minQ; split; exact hx; exact hy
theorem NmBd.max {M x y : Rat} (hx : NmBd M x) (hy : NmBd M y) : NmBd M (maxQ x y) := by unfold maxQ; split; exact hx; exact hy
theorem NmBd.sub {M N x y : Rat} (hx : NmBd M x) (hy : NmBd N y) : NmBd (M + N) (x - y) := by
 obtain ⟨a1, a2⟩ := hx
 obtain ⟨b1, b2⟩ := hy
 constructor <;> grind
theorem NmBd.more {M N x : Rat} (hx : NmBd M x) (h : M ≤ N) : NmBd N x := by
 obtain ⟨a1, a2⟩ := hx
 constructor <;> grind
theorem NmBd.inv {x : Rat} (h : 1 ≤ x) : NmBd 1 (1 / x) := by
 have h0 : 0 < x := by grind
 have e : (1 / x) * x = 1 := Rat.div_mul_cancel (by grind)
 have hp : 0 ≤ 1 / x := by
  rcases Rat.le_total (a := 0) (b := 1 / x) with h1 | h1
  ·exact h1
  ·have h2 := Rat.mul_nonneg (show 0 ≤ -(1 / x) by grind) (show 0 ≤ x by grind)
   grind
 have h3 := Rat.mul_nonneg hp (show 0 ≤ x - 1 by grind)
 constructor <;> grind
theorem ex_2_44 : ex 4805340802404319232 = 17592186044416 := by
 rw [← ex_lo (b := 4805340802404319232) (by decide)]
 have e1 : exM 4805340802404319232 = 4503599627370496 := by decide
 have e2 : exE 4805340802404319232 = 1067 := by decide
 rw [e1, e2]
 have e3 : pw (1075 - 1067) = 256 := by decide +kernel
 rw [e3]; decide +kernel
theorem und_exb {a : Rat} (h0 : 0 ≤ a) (h8 : a < 17592186044416) : ∃ u, Und a u ∧ a < ex (u + 1) := by
 rw [← ex_2_44] at h8
 obtain ⟨u, h1, h2, h3⟩ := und_ex_n h0 _ h8
 exact ⟨u, ⟨by omega, h2, .inr h3⟩, h3⟩
theorem ovr_exb {a : Rat} (h0 : 0 ≤ a) (h8 : a < 17592186044416) : ∃ o, Ovr a o := by
 rw [← ex_2_44] at h8
 obtain ⟨u, h1, h2, h3⟩ := und_ex_n h0 _ h8
 rcases rat_tri (ex u) a with h4 | h4 | h4
 ·exact ⟨u + 1, by omega, by grind, .inr h4⟩
 ·refine ⟨u, by omega, by grind, ?_⟩
  rcases Nat.eq_zero_or_pos u with h5 | h5
  ·exact .inl h5
  ·right; rw [← h4]; exact ex_lt (by omega)
 ·grind
theorem most_44 : (17592186044416 : Rat) ≤ ex 9218868437227405311 := by rw [← ex_2_44]; exact ex_le (by omega)
def BitsA (a : Rat) (t : Nat) : Prop := ∃ (n : Bool) (b : Nat), t = (if n = true then 9223372036854775808 else 0) + b ∧ b < 9218868437227405312 ∧ a_ok a (frL n b) (frH n b)
def BitsB (a : Rat) (t : Nat) : Prop := ∃ (n : Bool) (b : Nat), t = (if n = true then 9223372036854775808 else 0) + b ∧ b < 9218868437227405312 ∧ b_ok a (frL n b) (frH n b)
theorem to_ok {lo hi : Rat} (Zlo : Rz 1000 lo) (Zhi : Rz 1000 hi) (hle : lo ≤ hi) (h1 : -17592186044416 < lo) (h2 : hi < 17592186044416) : ∃ t1 t2 : Nat, BitsA lo t1 ∧ BitsB hi t2 ∧
  ∀ {W : World} {l : List Own} (hT : Tab W) (w : World) (h : St W l w), Calls Tryz.prog 50 #[.agg (VC lo hi)] w fun e w' => e = .returned (.tuple #[.int .u64 (t1 : Int), .int .u64 (t2 : Int), .int .i64 0]) ∧ Below w.heap.size w w' := by
 have mb := most_44
 have hm1 : -ex 9218868437227405311 ≤ lo := by grind
 have hm2 : hi ≤ ex 9218868437227405311 := by grind
 by_cases hl : 0 ≤ lo
 ·have hh : 0 ≤ hi := by grind
  obtain ⟨a1, hu, hu2⟩ := und_exb hl (by grind)
  obtain ⟨a2, ho⟩ := ovr_exb hh h2
  exact ⟨a1, a2, ⟨false, a1, by simp, hu.1, a_pos hu.2.1 hu2⟩, ⟨false, a2, by simp, by have := ho.1; omega, b_pos ho hh⟩, fun hT w h => to_pp hT Zlo Zhi hle hm1 hm2 hl hu hh ho w h⟩
 ·have hl : lo < 0 := by grind
  obtain ⟨a3, hu⟩ := ovr_exb (show 0 ≤ -lo by grind) (by grind)
  have hA : BitsA lo (a3 + 9223372036854775808) := ⟨true, a3, by rw [if_pos rfl]; omega, by have := hu.1; omega, (a_neg hu hl).2⟩
  by_cases hh : 0 ≤ hi
  ·obtain ⟨a2, ho⟩ := ovr_exb hh h2
   exact ⟨a3 + 9223372036854775808, a2, hA, ⟨false, a2, by simp, by have := ho.1; omega, b_pos ho hh⟩, fun hT w h => to_np hT Zlo Zhi hle hm1 hm2 hl hu rfl hh ho w h⟩
  ·have hh : hi < 0 := by grind
   obtain ⟨a4, ho, ho2⟩ := und_exb (show 0 ≤ -hi by grind) (by grind)
   rcases Nat.eq_zero_or_pos a4 with h4 | h4
   ·subst h4
    exact ⟨a3 + 9223372036854775808, 0, hA, ⟨false, 0, by simp, by omega, b_neg0 hh ho2⟩, fun hT w h => to_n0 hT Zlo Zhi hle hm1 hm2 hl hu rfl hh ho rfl w h⟩
   ·exact ⟨a3 + 9223372036854775808, a4 + 9223372036854775808, hA, ⟨true, a4, by rw [if_pos rfl]; omega, ho.1, b_neg ho.2.1 ho2 h4⟩, fun hT w h => to_nn hT Zlo Zhi hle hm1 hm2 hl hu rfl hh ho h4 rfl w h⟩
theorem nmsq (x : Rat) : 0 ≤ x * x := by
 rcases Rat.le_total (a := 0) (b := x) with h | h
 ·exact Rat.mul_nonneg h h
 ·have := Rat.mul_nonneg (show 0 ≤ -x by grind) (show 0 ≤ -x by grind)
  grind
theorem sqLo_nn (l h : Rat) : 0 ≤ sqLo l h := by
 unfold sqLo
 split
 ·exact Rat.le_refl
 ·exact le_min (nmsq l) (nmsq h)
structure Forms (al ah bl bh cl ch p q r ql qh el eh ml mh dl dh sl sh : Rat) : Prop where
 fq : ql ≤ qh ∧ sqLo cl ch = ql ∧ maxQ (cl * cl) (ch * ch) = qh
 fe : el ≤ eh ∧ ql + 1 = el ∧ qh + 1 = eh ∧ ¬ (el ≤ 0 ∧ 0 ≤ eh)
 fm : ml ≤ mh ∧ minQ (minQ (minQ (al * bl) (al * bh)) (ah * bl)) (ah * bh) = ml ∧ maxQ (maxQ (maxQ (al * bl) (al * bh)) (ah * bl)) (ah * bh) = mh
 fd : dl ≤ dh ∧ ml - ch = dl ∧ mh - cl = dh
 fs : sl ≤ sh ∧ minQ (minQ (minQ (dl * ((1 : Rat) / eh)) (dl * ((1 : Rat) / el))) (dh * ((1 : Rat) / eh))) (dh * ((1 : Rat) / el)) = sl ∧ maxQ (maxQ (maxQ (dl * ((1 : Rat) / eh)) (dl * ((1 : Rat) / el))) (dh * ((1 : Rat) / eh))) (dh * ((1 : Rat) / el)) = sh
 ne : r * r + 1 ≠ 0
 is : sl ≤ (p * q - r) / (r * r + 1) ∧ (p * q - r) / (r * r + 1) ≤ sh
 zq : Rz 156 ql ∧ Rz 156 qh
 ze : Rz 320 el ∧ Rz 320 eh
 zm : Rz 154 ml ∧ Rz 154 mh
 zd : Rz 463 dl ∧ Rz 463 dh
 zs : Rz 800 sl ∧ Rz 800 sh
 lo : -17592186044416 < sl
 hi : sh < 17592186044416
theorem forms {al ah bl bh cl ch p q r : Rat} (Fa : Fl al ah) (Fb : Fl bl bh) (Fc : Fl cl ch) (pa : al ≤ p ∧ p ≤ ah) (pb : bl ≤ q ∧ q ≤ bh) (pc : cl ≤ r ∧ r ≤ ch) :
  ∃ ql qh el eh ml mh dl dh sl sh : Rat, Forms al ah bl bh cl ch p q r ql qh el eh ml mh dl dh sl sh := by
 obtain ⟨ml, hml⟩ : ∃ v, minQ (minQ (minQ (al * bl) (al * bh)) (ah * bl)) (ah * bh) = v := ⟨_, rfl⟩
 obtain ⟨mh, hmh⟩ : ∃ v, maxQ (maxQ (maxQ (al * bl) (al * bh)) (ah * bl)) (ah * bh) = v := ⟨_, rfl⟩
 have m := mul_in pa.1 pa.2 pb.1 pb.2
 rw [hml, hmh] at m
 obtain ⟨dl, hdl⟩ : ∃ v, ml - ch = v := ⟨_, rfl⟩
 obtain ⟨dh, hdh⟩ : ∃ v, mh - cl = v := ⟨_, rfl⟩
 have d := sub_in m.1 m.2 pc.1 pc.2
 rw [hdl, hdh] at d
 obtain ⟨ql, hql⟩ : ∃ v, sqLo cl ch = v := ⟨_, rfl⟩
 obtain ⟨qh, hqh⟩ : ∃ v, maxQ (cl * cl) (ch * ch) = v := ⟨_, rfl⟩
 have s := sq_in pc.1 pc.2
 rw [hql, hqh] at s
 have q0 : 0 ≤ ql := hql ▸ sqLo_nn cl ch
 obtain ⟨el, hel⟩ : ∃ v, ql + 1 = v := ⟨_, rfl⟩
 obtain ⟨eh, heh⟩ : ∃ v, qh + 1 = v := ⟨_, rfl⟩
 have e : el ≤ r * r + 1 ∧ r * r + 1 ≤ eh := by constructor <;> grind
 have el1 : 1 ≤ el := by grind
 have eh1 : 1 ≤ eh := by grind
 have n0 : ¬ (el ≤ 0 ∧ 0 ≤ eh) := fun h => by grind
 have t := div_in d.1 d.2 e.1 e.2 n0
 obtain ⟨sl, hsl⟩ : ∃ v, minQ (minQ (minQ (dl * ((1 : Rat) / eh)) (dl * ((1 : Rat) / el))) (dh * ((1 : Rat) / eh))) (dh * ((1 : Rat) / el)) = v := ⟨_, rfl⟩
 obtain ⟨sh, hsh⟩ : ∃ v, maxQ (maxQ (maxQ (dl * ((1 : Rat) / eh)) (dl * ((1 : Rat) / el))) (dh * ((1 : Rat) / eh))) (dh * ((1 : Rat) / el)) = v := ⟨_, rfl⟩
 rw [hsl, hsh] at t
 have zml : Rz 154 ml := by rw [← hml]; exact (((Fa.zl.mul Fb.zl).min (Fa.zl.mul Fb.zh)).min (Fa.zh.mul Fb.zl)).min (Fa.zh.mul Fb.zh)
 have zmh : Rz 154 mh := by rw [← hmh]; exact (((Fa.zl.mul Fb.zl).max (Fa.zl.mul Fb.zh)).max (Fa.zh.mul Fb.zl)).max (Fa.zh.mul Fb.zh)
 have zql : Rz 156 ql := by rw [← hql]; exact (Rz.sqLo Fc.zl Fc.zh).more (by omega)
 have zqh : Rz 156 qh := by rw [← hqh]; exact ((Fc.zl.mul Fc.zl).max (Fc.zh.mul Fc.zh)).more (by omega)
 have zdl : Rz 463 dl := by rw [← hdl]; exact (zml.sub Fc.zh).more (by omega)
 have zdh : Rz 463 dh := by rw [← hdh]; exact (zmh.sub Fc.zl).more (by omega)
 have zel : Rz 320 el := by rw [← hel]; exact (zql.add Rz.one2).more (by omega)
 have zeh : Rz 320 eh := by rw [← heh]; exact (zqh.add Rz.one2).more (by omega)
 have zi : Rz 322 ((1 : Rat) / el) := Rz.one2.div zel (by grind)
 have zj : Rz 322 ((1 : Rat) / eh) := Rz.one2.div zeh (by grind)
 have zsl : Rz 800 sl := by rw [← hsl]; exact ((((zdl.mul zj).min (zdl.mul zi)).min (zdh.mul zj)).min (zdh.mul zi)).more (by omega)
 have zsh : Rz 800 sh := by rw [← hsh]; exact ((((zdl.mul zj).max (zdl.mul zi)).max (zdh.mul zj)).max (zdh.mul zi)).more (by omega)
 have Al : NmBd 2097152 al := Fa.lo
 have Ah : NmBd 2097152 ah := Fa.hi
 have Bl : NmBd 2097152 bl := Fb.lo
 have Bh : NmBd 2097152 bh := Fb.hi
 have Cl : NmBd 2097152 cl := Fc.lo
 have Ch : NmBd 2097152 ch := Fc.hi
 have bml : NmBd (2097152 * 2097152) ml := by rw [← hml]; exact (((Al.mul Bl).min (Al.mul Bh)).min (Ah.mul Bl)).min (Ah.mul Bh)
 have bmh : NmBd (2097152 * 2097152) mh := by rw [← hmh]; exact (((Al.mul Bl).max (Al.mul Bh)).max (Ah.mul Bl)).max (Ah.mul Bh)
 have bdl : NmBd (2097152 * 2097152 + 2097152) dl := by rw [← hdl]; exact bml.sub Ch
 have bdh : NmBd (2097152 * 2097152 + 2097152) dh := by rw [← hdh]; exact bmh.sub Cl
 have bi := NmBd.inv el1
 have bj := NmBd.inv eh1
 have bsl : NmBd ((2097152 * 2097152 + 2097152) * 1) sl := by rw [← hsl]; exact (((bdl.mul bj).min (bdl.mul bi)).min (bdh.mul bj)).min (bdh.mul bi)
 have bsh : NmBd ((2097152 * 2097152 + 2097152) * 1) sh := by rw [← hsh]; exact (((bdl.mul bj).max (bdl.mul bi)).max (bdh.mul bj)).max (bdh.mul bi)
 have big : ((2097152 * 2097152 + 2097152) * 1 : Rat) < 17592186044416 := by decide +kernel
 obtain ⟨g1, -⟩ := bsl
 obtain ⟨-, g2⟩ := bsh
 refine ⟨ql, qh, el, eh, ml, mh, dl, dh, sl, sh, ⟨by grind, hql, hqh⟩, ⟨by grind, hel, heh, n0⟩, ⟨by grind, hml, hmh⟩, ⟨by grind, hdl, hdh⟩, ⟨by grind, hsl, hsh⟩, by grind, t, ⟨zql, zqh⟩, ⟨zel, zeh⟩, ⟨zml, zmh⟩, ⟨zdl, zdh⟩, ⟨zsl, zsh⟩, ?_, ?_⟩
 ·grind
 ·grind
set_option maxHeartbeats 2000000
set_option maxRecDepth 20000
variable {W : World} {l : List Own}
theorem float_ok (x : Nat) (hx : x < 18446744073709551616) : ∃ (n : Bool) (b bb : Nat), bb = (if n = true then 9223372036854775808 else 0) + b ∧ 4517110426252607488 ≤ b ∧ b < 4701758010974797824 ∧
  ∀ {W : World} {l : List Own} (w : World) (h : St W l w), Calls Tryz.prog 39 #[.int .u64 (x : Int)] w fun e w' => e = .returned (.int .u64 (bb : Int)) ∧ Below w.heap.size w w' := by
 obtain ⟨s, hs⟩ : ∃ s, x / 9223372036854775808 = s := ⟨_, rfl⟩
 obtain ⟨m, hm⟩ : ∃ m, x % 4503599627370496 = m := ⟨_, rfl⟩
 obtain ⟨a4, h4⟩ : ∃ z : Nat, s * 9223372036854775808 + m = z := ⟨_, rfl⟩
 obtain ⟨y6, h6⟩ : ∃ z : Nat, x / 4503599627370496 = z := ⟨_, rfl⟩
 obtain ⟨y7, h7⟩ : ∃ z : Nat, y6 % 2048 = z := ⟨_, rfl⟩
 obtain ⟨j, hj⟩ : ∃ z : Nat, belowN (y7 : Int) 41 = z := ⟨_, rfl⟩
 have hj2 : j < 41 := hj ▸ belowN_lt _ (by omega)
 obtain ⟨e, he⟩ : ∃ z : Nat, 1003 + j = z := ⟨_, rfl⟩
 obtain ⟨sh, h12⟩ : ∃ z : Nat, e * 4503599627370496 = z := ⟨_, rfl⟩
 obtain ⟨bb, h13⟩ : ∃ z : Nat, s * 9223372036854775808 + (sh + m) = z := ⟨_, rfl⟩
 have f1 := and_fl x hx
 rw [hs, hm, h4] at f1
 have f3 := and_ex y6 (by omega)
 rw [h7] at f3
 have f8 := or_fl s m e (by omega) (by omega) (by omega)
 rw [h4, h12, h13] at f8
 have hbb : bb = (if decide (s = 1) = true then 9223372036854775808 else 0) + (sh + m) := by
  by_cases h1 : s = 1
  ·rw [if_pos (decide_eq_true h1)]; omega
  ·rw [if_neg (by simpa using h1)]; omega
 refine ⟨decide (s = 1), sh + m, bb, hbb, by omega, by omega, ?_⟩
 intro W l w h
 have HQ := Lib.hid (show bits BinOp.and IntKind.u64 (x : Int) 9227875636482146303 = (a4 : Int) ∧ (x : Int) / 4503599627370496 = (y6 : Int) ∧ bits BinOp.and IntKind.u64 (y6 : Int) 2047 = (y7 : Int) ∧ (-9223372036854775808 ≤ (y7 : Int) ∧ (y7 : Int) ≤ 9223372036854775807) ∧ IntKind.i64.wrap (y7 : Int) = (y7 : Int) ∧ IntKind.i64.wrap (1003 + (j : Int)) = (e : Int) ∧ IntKind.u64.wrap (e : Int) = (e : Int) ∧ IntKind.u64.wrap ((e : Int) * 4503599627370496) = (sh : Int) ∧ bits BinOp.or IntKind.u64 (a4 : Int) (sh : Int) = (bb : Int) from
  ⟨f1, by omega, f3, by omega, IntWalk.i64_in _ (by omega), by rw [IntWalk.i64_in _ (by omega)]; omega, IntWalk.u64_in _ (by omega), by rw [IntWalk.u64_in _ (by omega)]; omega, f8⟩)
 subst hj
 clear f1 f3 f8 hbb h13 h12 he hj2 h7 h6 h4 hm hs hx h
 go_enter Tryz.func39, Tryz.ntmps39
 have HS : St w [] w := St.start
 go_upto_region 0 with fail
 refine rgT [] HS ?_
 refine pW ?_
 refine dS fun _ HS1=>?_
 clear HS
 go_upto_region 1 with fail
 refine rgT [] HS1 ?_
 refine pW ?_
 refine pV (.int .u64 (a4 : Int)) (by intro w; go_simp <;> (first | (rw [HQ.out.1]; done) | exact HQ.out.1 | (simp [HQ.out.1]; done) | (trace_state; done))) ?_
 refine pW ?_
 refine pV (.int .u64 (y6 : Int)) (by intro w; go_simp <;> (first | (rw [HQ.out.2.1]; done) | exact HQ.out.2.1 | (simp [HQ.out.2.1]; done) | (trace_state; done))) ?_
 refine pV (.int .u64 (y7 : Int)) (by intro w; go_simp <;> (first | (rw [HQ.out.2.2.1]; done) | exact HQ.out.2.2.1 | (simp [HQ.out.2.2.1]; done) | (trace_state; done))) ?_
 refine pV (.int .i64 (y7 : Int)) (by intro w; go_simp <;> (first | (rw [HQ.out.2.2.2.2.1]; done) | exact HQ.out.2.2.2.2.1 | (simp [HQ.out.2.2.2.2.1]; done) | (trace_state; done))) ?_
 refine cX rfl rfl (below_q (n := 41) HQ.out.2.2.2.1.1 HQ.out.2.2.2.1.2 (by omega) (by omega)) ?_
 refine pV (.int .i64 (e : Int)) (by intro w; go_simp <;> (first | (rw [HQ.out.2.2.2.2.2.1]; done) | exact HQ.out.2.2.2.2.2.1 | (simp [HQ.out.2.2.2.2.2.1]; done) | (trace_state; done))) ?_
 refine pV (.int .u64 (e : Int)) (by intro w; go_simp <;> (first | (rw [HQ.out.2.2.2.2.2.2.1]; done) | exact HQ.out.2.2.2.2.2.2.1 | (simp [HQ.out.2.2.2.2.2.2.1]; done) | (trace_state; done))) ?_
 refine pV (.int .u64 (sh : Int)) (by intro w; go_simp <;> (first | (rw [HQ.out.2.2.2.2.2.2.2.1]; done) | exact HQ.out.2.2.2.2.2.2.2.1 | (simp [HQ.out.2.2.2.2.2.2.2.1]; done) | (trace_state; done))) ?_
 refine pV (.int .u64 (bb : Int)) (by intro w; go_simp <;> (first | (rw [HQ.out.2.2.2.2.2.2.2.2]; done) | exact HQ.out.2.2.2.2.2.2.2.2 | (simp [HQ.out.2.2.2.2.2.2.2.2]; done) | (trace_state; done))) ?_
 refine pW ?_
 refine dS fun _ HS2=>?_
 clear HS1
 go_wp2_with fail
 go_ret
 exact ⟨rfl, HS2.below⟩
theorem hpart_q {k : Nat} {al ah z0 : Rat} {x : Int} (hT : Tab W) (Zal : Rz k al) (Zah : Rz k ah) (hx : (-9223372036854775808 ≤ x ∧ x ≤ 9223372036854775807)) (hz0 : ptQ al ah x = z0) (hk : k ≤ 1000000000000) (w : World) (h : St W l w) :
  Calls Tryz.prog 46 #[.agg (VC al ah), .int .i64 x] w fun e w' => e = .returned (.agg (RC z0)) ∧ Below w.heap.size w w' := by
 subst hz0
 unfold ptQ
 have HT := Lib.hid (tabS hT h); clear hT h
 have Z_al := Lib.hid Zal; clear Zal
 have Z_ah := Lib.hid Zah; clear Zah
 have HI := Lib.hid hx; clear hx
 have HM := Lib.hid (show -9223372036854775808 ≤ (((belowN x 9 : Nat) : Int)) ∧ (((belowN x 9 : Nat) : Int)) ≤ 9223372036854775807 from by have := belowN_lt x (show 0 < 9 by omega); omega)
 have HM2 := Lib.hid (show (((belowN x 9 : Nat) : Int)).natAbs < 65536 from by have := belowN_lt x (show 0 < 9 by omega); omega)
 go_enter Tryz.func46, Tryz.ntmps46
 have HS : St w [] w := St.start
 go_upto_region 0 with fail
 refine rgT [] HS ?_
 refine bX (VC al ah) ?_
 intro bk2 _ _ hbk2_r
 refine nZ ?_
 refine Seq.alloc rfl rfl rfl (z := .agg (#[.bool false, .string ⟨#[]⟩, .string ⟨#[]⟩])) (by kernel_rfl) rfl ?_
 intro bk4 _ _ hbk4_r
 obtain ⟨_, _, hbk4_r⟩ := Reg.ne2 hbk4_r
 refine nZ ?_
 refine Seq.done fun ws1 hws => ?_
 have HS1 : St w [(bk2, 32, VC al ah), (bk4, 27, #[.bool false, .string ⟨#[]⟩, .string ⟨#[]⟩])] ws1 := hws.q2
 clear HS hws
 go_upto_region 1 with fail
 refine rgT [] HS1 ?_
 refine pW ?_
 refine cX rfl rfl (below_q (n := 9) HI.out.1 HI.out.2 (by omega) (by omega)) ?_
 refine cX rfl rfl (make_q HT.out HM.out.1 HM.out.2 (by omega) (by omega) (by omega) rfl) ?_
 refine pW ?_
 refine pV (.agg (RC ((((belowN x 9 : Nat) : Int) : Rat) / ((8 : Int) : Rat)))) (fun w => rfl) ?_
 refine pV (.int .i64 0) (fun w => rfl) ?_
 refine Seq.alloc rfl rfl rfl (z := .agg (#[.bool false, .string ⟨#[]⟩, .string ⟨#[]⟩])) (by kernel_rfl) rfl ?_
 intro bk5 _ _ hbk5_r
 refine nZ ?_
 refine sV (RC_one _) ?_
 refine pW ?_
 refine d1 bk5 fun _ HS2=>?_
 clear HS1
 go_upto_region 2 with fail
 have HPbk4 := HS2.p2
 refine wS [] (Reg.fin.put Reg.fin_no _ _) (StR.move (StR.no HPbk4)) ?_
 refine pV (.pointer (some ⟨bk2, 0, none⟩)) (by intro w; go_simp; try first | with_reducible rfl | rfl) ?_
 refine Seq.loadAt rfl rfl rfl rfl (by repeat first|exact mC|apply mT) (n := 3) (cs' := RC al) (by first | decide | exact Nat.le_refl _ | (simp [VC, TC, FC, BC, RC]; done)) (by kernel_rfl) (by first | rfl | (simp [VC, TC, FC, BC, RC]; done)) (nZ ?_)
 refine lV ?_
 refine pV (.pointer (some ⟨bk2, 3, none⟩)) (by intro w; go_simp; try first | with_reducible rfl | rfl) ?_
 refine Seq.loadAt rfl rfl rfl rfl (by repeat first|exact mC|apply mT) (n := 3) (cs' := RC ah) (by first | decide | exact Nat.le_refl _ | (simp [VC, TC, FC, BC, RC]; done)) (by kernel_rfl) (by first | rfl | (simp [VC, TC, FC, BC, RC]; done)) (nZ ?_)
 refine pV (.pointer (some ⟨bk2, 0, none⟩)) (by intro w; go_simp; try first | with_reducible rfl | rfl) ?_
 refine Seq.loadAt rfl rfl rfl rfl (by repeat first|exact mC|apply mT) (n := 3) (cs' := RC al) (by first | decide | exact Nat.le_refl _ | (simp [VC, TC, FC, BC, RC]; done)) (by kernel_rfl) (by first | rfl | (simp [VC, TC, FC, BC, RC]; done)) (nZ ?_)
 refine cX rfl rfl (sub_q (k := (1 * k + 0)) HT.out (Z_ah.out.more (by omega)) (Z_al.out.more (by omega)) rfl (by omega)) ?_
 refine cX rfl rfl (mul_q (k := (4 * k + 4)) HT.out ((num_s _ 8 HM2.out (by decide) (by decide)).more (by omega)) ((Z_ah.out.sub Z_al.out).more (by omega)) rfl (by omega)) ?_
 refine cX rfl rfl (add_q (k := (4 * k + 5)) HT.out (Z_al.out.more (by omega)) (((num_s _ 8 HM2.out (by decide) (by decide)).mul (Z_ah.out.sub Z_al.out)).more (by omega)) rfl (by omega)) ?_
 refine sV (RC_one _) ?_
 refine d1 bk4 fun _ HS3=>?_
 clear HS2 HPbk4
 go_wp2_with fail
 exact rO HS3 ⟨rfl, HS3.below⟩
theorem hat_q {x y : Int} {z0 z1 : Rat} (hT : Tab W) (hx : (-9223372036854775808 ≤ x ∧ x ≤ 9223372036854775807)) (hy : (-9223372036854775808 ≤ y ∧ y ≤ 9223372036854775807)) (hz0 : (x : Rat) = z0) (hz1 : (y : Rat) = z1) (w : World) (h : St W l w) :
  Calls Tryz.prog 85 #[.int .i64 x, .int .i64 y] w fun e w' => e = .returned (.agg (VC z0 z1)) ∧ Below w.heap.size w w' := by
 subst hz0 hz1
 have HT := Lib.hid (tabS hT h); clear hT h
 have HI := Lib.hid (And.intro hx hy); clear hx hy
 go_enter Tryz.func85, Tryz.ntmps85
 have HS : St w [] w := St.start
 go_upto_region 0 with fail
 refine rgT [] HS ?_
 refine Seq.alloc rfl rfl rfl (z := .agg (#[.bool false, .string ⟨#[]⟩, .string ⟨#[]⟩, .bool false, .string ⟨#[]⟩, .string ⟨#[]⟩])) (by kernel_rfl) rfl ?_
 intro bk4 _ _ hbk4_r
 refine nZ ?_
 refine d1 bk4 fun _ HS1=>?_
 clear HS
 go_upto_region 1 with fail
 refine wp_seq_text [] (StR.move (StR.no HS1)) ?_
 refine pW ?_
 refine cL (of_q HT.out HI.out.1.1 HI.out.1.2 rfl) ?_
 refine pW ?_
 refine cL (of_q HT.out HI.out.2.1 HI.out.2.2 rfl) ?_
 refine pV (.agg (VC ((x : Int) : Rat) ((y : Int) : Rat))) (fun w => bld_Vec rfl rfl rfl w) ?_
 refine sV (VC_one _ _) ?_
 refine d1 bk4 fun _ HS2=>?_
 clear HS1
 go_wp2_with fail
 exact rO HS2 ⟨rfl, HS2.below⟩
end Go.Proofs.YtmchjmflkaiakaaGreatDoor
