/- The law ActWorlds, from its arguments. -/
import Derived.Test.YtnaiflokmihmeaaActWorlds
import Derived.Test.YtnaiflokmihmeaaActS
namespace Go.Proofs.Ytnaiflokmihmeaa
open Go.RowKit Go.ChangeShapes Go.WideShapes Go.Deep
set_option linter.unusedVariables false
set_option linter.unusedSimpArgs false

theorem open_sl {H : Type} {enc : TypeId × Value → H} {P : Program} {w : World} {base : Nat} {spare : Nat → Bool} {held : Bool} {t e : TypeId} {fuel : Nat} {v : Value} {x : DataW H × List MemPlace} (ht : P.underlying t = some (.slice e)) (h : DataW.trod enc P w base spare held fuel t [v] = some x) : ∃ A n c, v = .slice A n c := by
  rcases open_slice ht h with ⟨h1, _⟩ | ⟨a, len, cap, m, n, D, Pl, h1, _⟩
  · have := List.head_eq_of_cons_eq h1
    exact ⟨none, 0, 0, this⟩
  · have := List.head_eq_of_cons_eq h1
    exact ⟨some a, len, cap, this⟩
set_option maxRecDepth 20000 in
theorem open_works {H : Type} {enc : TypeId × Value → H} {w : World} {base b0 : Nat} {v : Value} {d : DataW H} {p : List MemPlace} {r : Reach} {held : Bool}
    (h : DataW.Trod enc Try.prog w base (fun _ => true) held 72 v d p) (o : Value.okWide Try.prog w r b0 72 v) :
    ∃ A0 n0 c0 u1 A2 n2 c2 A3 n3 c3 u4 u5 u6 u7, v = .agg (wkc A0 n0 c0 u1 A2 n2 c2 A3 n3 c3 u4 u5 u6 u7) ∧ [u1, u4, u5, u6, u7].all Value.oneCell' = true := by
  obtain ⟨cs, rfl, hsz⟩ := okWide_struct Try.underlying72 o
  have hsz8 : cs.size = 8 := by rw [hsz]; kernel_rfl
  obtain ⟨fuel, hf⟩ := h
  obtain ⟨l⟩ := cs
  match l, hsz8 with
  | [c0, c1, c2, c3, c4, c5, c6, c7], _ =>
    obtain ⟨xs, n, _, _, hl, hxl, hi⟩ := DataW.trod_struct Try.underlying72 hf
    have hx6 : xs.length = 6 := by rw [hxl]; kernel_rfl
    match xs, hx6 with
    | [y0, y1, y2, y3, y4, y5], _ =>
      have g0 : DataW.trod enc Try.prog w base (fun _ => true) held n 64 [c0] = some y0 := hi 0 _ rfl
      have g1 : DataW.trod enc Try.prog w base (fun _ => true) held n 65 [c1] = some y1 := hi 1 _ rfl
      have g2 : DataW.trod enc Try.prog w base (fun _ => true) held n 66 [c2] = some y2 := hi 2 _ rfl
      have g3 : DataW.trod enc Try.prog w base (fun _ => true) held n 67 [c3] = some y3 := hi 3 _ rfl
      have g4 : DataW.trod enc Try.prog w base (fun _ => true) held n 68 [c4] = some y4 := hi 4 _ rfl
      have g5 : DataW.trod enc Try.prog w base (fun _ => true) held n 70 [c5, c6, c7] = some y5 := hi 5 _ rfl
      obtain ⟨A0, n0, k0, rfl⟩ := open_sl Try.underlying64 g0
      obtain ⟨A1, n1, k1, rfl⟩ := open_sl Try.underlying65 g1
      obtain ⟨A2, n2, k2, rfl⟩ := open_sl Try.underlying66 g2
      obtain ⟨A3, n3, k3, rfl⟩ := open_sl Try.underlying67 g3
      obtain ⟨A4, n4, k4, rfl⟩ := open_sl Try.underlying68 g4
      obtain ⟨zs, m, _, _, _, hzl, hj⟩ := DataW.trod_struct Try.underlying70 g5
      have hz3 : zs.length = 3 := by rw [hzl]; kernel_rfl
      match zs, hz3 with
      | [z0, z1, z2], _ =>
        have e0 : DataW.trod enc Try.prog w base (fun _ => true) held m 4 [c5] = some z0 := hj 0 _ rfl
        have e1 : DataW.trod enc Try.prog w base (fun _ => true) held m 9 [c6] = some z1 := hj 1 _ rfl
        have e2 : DataW.trod enc Try.prog w base (fun _ => true) held m 9 [c7] = some z2 := hj 2 _ rfl
        obtain ⟨s0, hs0, _⟩ := DataW.trod_bool Try.underlying4 e0
        obtain ⟨s1, hs1, _⟩ := DataW.trod_string Try.underlying9 e1
        obtain ⟨s2, hs2, _⟩ := DataW.trod_string Try.underlying9 e2
        have h5 := List.head_eq_of_cons_eq hs0
        have h6 := List.head_eq_of_cons_eq hs1
        have h7 := List.head_eq_of_cons_eq hs2
        subst h5 h6 h7
        exact ⟨A0, n0, k0, _, A2, n2, k2, A3, n3, k3, _, _, _, _, rfl, rfl⟩
set_option maxRecDepth 40000 in
theorem actWorlds_walk {H : Type} {enc : TypeId × Value → H} (W : World) (v0 v1 v2 v3 : Value) {d0 d1 d2 d3 : DataW H} {p0 p1 p2 p3 : List MemPlace} {base : Nat}
    (h0 : DataW.Trod enc Try.prog W 0 (fun _ => true) true 72 v0 d0 p0) (h1 : DataW.Trod enc Try.prog W 0 (fun _ => true) true 25 v1 d1 p1) (h2 : DataW.Trod enc Try.prog W 0 (fun _ => true) true 25 v2 d2 p2) (h3 : DataW.Trod enc Try.prog W 0 (fun _ => true) true 3 v3 d3 p3)
    (o0 : Value.okWide Try.prog W .any base 72 v0) (o1 : Value.okWide Try.prog W .any base 25 v1) (o2 : Value.okWide Try.prog W .any base 25 v2) (o3 : Value.okWide Try.prog W .any base 3 v3)
    (w0 : Light Try.prog 72 d0) (w1 : Light Try.prog 25 d1) (w2 : Light Try.prog 25 d2) (w3 : Light Try.prog 3 d3) :
    Calls Try.prog 7 #[v0, v1, v2, v3] W fun e W' => e = .returned (.bool true) ∧ Below W.heap.size W W' := by
  obtain ⟨A0, n0, c0, u1, A2, n2, c2, A3, n3, c3, u4, u5, u6, u7, rfl, hu⟩ := open_works h0 o0
  obtain ⟨da, ra, rfl, hok, _, hpl, _, q1, q2, q3⟩ := open_world h1 o1 w1
  obtain ⟨db, rb, rfl, hok2, _⟩ := open_world h2 o2 w2
  obtain ⟨i, rfl, _, _, _⟩ := open_int Try.underlying3 o3 h3
  unfold reachBytes at q1 q2 q3
  have a1 := hok.l1
  have a2 := hok.l2
  have a3 := hok.l3
  exact actWorlds_core A0 n0 c0 u1 A2 n2 c2 A3 n3 c3 u4 u5 u6 u7 hu da db ra rb i W hok hok2 (fun x hx => (hpl x hx).1) (by omega) (by omega) (by omega)
end Go.Proofs.Ytnaiflokmihmeaa
