/- Walk: world (reference): a world out of its facts. -/
import Derived.Test.YtnaiflokmihmeaaActO
namespace Go.Proofs.Ytnaiflokmihmeaa
open Go.RowKit
set_option linter.unusedVariables false
set_option linter.unusedSimpArgs false

theorem OS.rne {w wr : World} {b : Nat} {sl : Int} {S : List Ft} {v1 v2 v3 : Value} {xs : List Int} {ys : List Bool} {zs : List Int} {ri : Nat} {left : List Ft} (h : OS w b sl S v1 v2 v3 xs ys zs wr) (hi : SIter valF wr ri b left) : ∀ r ∈ [rowI v1 xs, rowB v2 ys, rowI v3 zs], r.v.ownBlock ≠ some ri := by
  intro r hr e
  obtain ⟨es, clock, since, c0, seen, hm, _⟩ := hi
  rcases (h.rows.own r hr).2 with ⟨hv, _⟩ | ⟨g, cap, cur, hv, hg, hh, _⟩
  · rw [hv] at e; cases e
  · rw [hv] at e
    have e2 : g = ri := by simpa [Value.ownBlock] using e
    subst e2
    rw [hm] at hh
    cases hh
theorem OS.grownI {w wr w' : World} {b : Nat} {sl : Int} {S : List Ft} {v1 v2 v3 : Value} {xs : List Int} {ys : List Bool} {zs : List Int} {ri : Nat} {left : List Ft} (h : OS w b sl S v1 v2 v3 xs ys zs wr) (hi : SIter valF wr ri b left) (hg : wr.grownBy w' (some ri)) (hr : w.heap.size + 1 < ri) : OS w b sl S v1 v2 v3 xs ys zs w' := by
  have hn := h.rne hi
  obtain ⟨h1, h2, h3, ⟨x, y, z, u, h4⟩, h5⟩ := h
  have ne : ∀ k, k ≠ ri → some k ≠ some ri := fun k hk e => hk (by injection e)
  refine ⟨h1, h2.grown hg (ne _ (by omega)), h3.grown hg (ne _ (by omega)), ⟨x, y, z, u, h4.grown hg (ne _ (by omega))⟩, ⟨h5.below.grown hg h5.below.size (fun k hk => by cases hk; omega), fun r hr2 => (h5.own r hr2).kept hg (.inr (hn r hr2)), h5.apart⟩⟩
theorem OS.mid {w wr wm w' : World} {b : Nat} {sl : Int} {S : List Ft} {v1 v2 v3 : Value} {xs : List Int} {ys : List Bool} {zs : List Int} (h : OS w b sl S v1 v2 v3 xs ys zs wr) (hb : Below wr.heap.size wr wm) {r : Rw} (hr : r ∈ [rowI v1 xs, rowB v2 ys, rowI v3 zs]) (hg : wm.grownBy w' r.v.ownBlock) : Blk w' (w.heap.size + 1) 25 #[.int .i64 sl, v1, v2, v3] := by
  have h0 := h.next hb
  refine h0.out.grown hg (own_blk_ne (h0.rows.own r hr) h0.out ?_)
  simp only [List.mem_cons, List.not_mem_nil, or_false] at hr
  rcases hr with rfl | rfl | rfl <;> (dsimp only; decide)
theorem own_slice {w : World} {base : Nat} {e : TypeId} {s n : Nat} {v : Value} {xs : List Value} (h : w.ownsRow base e s v n xs) : ∃ A c, v = .slice A n c := by
  rcases h.2 with ⟨hv, h0⟩ | ⟨g, cap, cur, hv, _⟩
  · exact ⟨none, 0, by rw [hv, h0]⟩
  · exact ⟨_, _, hv⟩
theorem own_sliceR {W w : World} {rs : List Rw} {v : Value} {e : TypeId} {s n : Nat} {xs : List Value} (h : Rws W (⟨v, e, s, n, xs⟩ :: rs) w) : ∃ A c, v = .slice A n c := own_slice (Rws.head h)
theorem cellsI_app (xs : List Int) (x : Int) : cellsI (xs ++ [x]) = cellsI xs ++ (#[.int .i64 x] : Array Value).toList := by simp [cellsI]
theorem cellsB_app (xs : List Bool) (x : Bool) : cellsB (xs ++ [x]) = cellsB xs ++ (#[.bool x] : Array Value).toList := by simp [cellsB]
theorem one_i9 (x : Int) : ∀ u ∈ (#[.int .i64 x] : Array Value).toList, u.oneCell' = true := by
  intro u hu; simp at hu; subst hu; rfl
theorem one_b (x : Bool) : ∀ u ∈ (#[.bool x] : Array Value).toList, u.oneCell' = true := by
  intro u hu; simp at hu; subst hu; rfl
/-- a world's rows, of its own -/
def WRows (w : World) (r : Raw) (d : Wd) (w' : World) : Prop := Rws w [rowI (.slice r.A1 r.n1 r.c1) d.pl, rowB (.slice r.A2 r.n2 r.c2) d.se, rowI (.slice r.A3 r.n3 r.c3) d.sp] w'
theorem WRows.ok {w w' : World} {r : Raw} {d : Wd} (h : WRows w r d w') : WOk w' r d := OS.okr h d.sl
theorem WRows.next {w w' w2 : World} {r : Raw} {d : Wd} (h : WRows w r d w') (hb : Below w'.heap.size w' w2) : WRows w r d w2 := Rws.next h hb
theorem WRows.lower {W w w' : World} {r : Raw} {d : Wd} (h : WRows w r d w') (hb : Below W.heap.size W w) : WRows W r d w' := Rws.lower h hb
set_option maxHeartbeats 8000000 in
set_option maxRecDepth 20000 in
theorem world_any (d : Wd) (b : Nat) (w : World) (h : StAt d b w) (hse : d.se.length = d.pl.length) (hp6 : d.pl.length ≤ 6) (hs4 : d.sp.length ≤ 4) (hlo : ∀ x ∈ d.pl, -100 ≤ x) (hsp : ∀ x ∈ d.sp, -1 ≤ x) (sl : Int) :
    Calls Try.prog 89 #[.map (some b), .int .i64 sl, .int .i64 d.pl.length, .int .i64 d.sp.length] w fun e w' => ∃ r, e = .returned (wv sl r) ∧ WRows w r d w' := by
  obtain ⟨S, hset, hnd, hin⟩ := h
  have HT : Hid (Tells S (inS d)) := Lib.hid ⟨hnd, hin⟩
  have HST := Lib.hid (OS.start hset sl)
  have HSE := Lib.hid hse
  have HLO := Lib.hid hlo
  have HSP := Lib.hid hsp
  generalize hsn : S.length = m2
  have HSN := Lib.hid hsn; clear hsn
  generalize hnp : d.pl.length = np at *
  generalize hna : d.sp.length = na at *
  have HNP := Lib.hid hnp
  have HNA := Lib.hid hna
  clear hset hnd hin hse hlo hsp hnp hna
  go_enter Try.func89, Try.ntmps89
  go_wp2_with fail
  go_loopg [19] np (fun kx i wr => ∃ (j : Nat) (v1 v2 : Value), kx = np - j ∧ j ≤ np ∧ i = .int .i64 j ∧ Hid (OS w b sl S v1 v2 (.slice none 0 0) (d.pl.take j) (d.se.take j) [] wr))
  case atStart => exact ⟨0, _, _, by omega, Nat.zero_le _, rfl, HST.out⟩
  case round =>
    clear HST
    obtain ⟨j, v1, v2, hgk, hj, rfl, HOS⟩ := hrel
    have HGK := Lib.hid hgk; clear hgk
    by_cases hlt : j < np
    · obtain ⟨⟨B1, t1, e1, B2, t2, e2, B3, t3, e3⟩, he1, he2, _, _⟩ := OS.ok HOS.out.rows
      dsimp only at he1 he2
      subst he1 he2
      obtain ⟨x, hx⟩ := get_of_lt HNP.out.symm hlt
      obtain ⟨y, hy⟩ := get_of_lt (HSE.out.symm) hlt
      have HX := Lib.hid hx
      have HY := Lib.hid hy
      have hxlo := HLO.out x (List.mem_of_getElem? hx)
      have HYS : Hid (decide ((⟨5, (j : Int), 0⟩ : Ft) ∈ S) = y) := Lib.hid (by
        have h1 := (HT.out.2 ⟨5, (j : Int), 0⟩).trans (inS_seen (d := d) (a := (j : Int)) (by rw [HSE.out, HNP.out]))
        cases y with
        | true => exact decide_eq_true (h1.2 ⟨j, rfl, hy⟩)
        | false => exact decide_eq_false (fun hm => by
            obtain ⟨q, hq1, hq2⟩ := h1.1 hm
            have : q = j := by omega
            subst this
            rw [hy] at hq2; cases hq2))
      clear hx hy
      have HIT0 := HOS
      go_wp2_with (at_range; refine wpList_set_range _ rfl _ 114 rfl Try.underlying114 HOS.out.set rfl ?_; intro w4 hi4 hb4 hz4)
      have HI4 := Lib.hid hi4
      have HO4 := Lib.hid (HOS.out.next hb4)
      have HRL : Hid (w.heap.size + 1 < wr.heap.size) := Lib.hid HOS.out.out.lt
      clear hi4 hb4 hz4
      generalize wr.heap.size = ri at *
      try go_frame
      go_loopg [11] m2 (fun k o wr => ∃ (left done : List Ft) (out : Int), k = left.length ∧ o = .int .i64 out ∧ Hid (S.Perm (done ++ left)) ∧ Hid (SIter valF wr ri b left) ∧ Hid (OS w b sl S (.slice B1 t1 e1) (.slice B2 t2 e2) (.slice none 0 0) (d.pl.take j) (d.se.take j) [] wr) ∧ Hid (PlOk j x done out))
      case atStart => exact ⟨S, [], _, HSN.out.symm, rfl, Lib.hid (List.Perm.refl _), HI4, HO4, Lib.hid (.inr ⟨rfl, fun v h => by simp at h, fun a h => by simp at h⟩)⟩
      case round =>
        clear HI4 HO4 HOS HIT0
        obtain ⟨left, done, out, hgk, rfl, hperm, hit, HOS, hok⟩ := hrel
        have HGK2 := Lib.hid hgk; clear hgk
        go_wp2_with (at_next; refine wpList_fset_next _ rfl _ rfl hit.out rfl ?_ ?_)
        · intro hl0
          have hout := pl_end HT.out (by have := hperm.out; rw [hl0, List.append_nil] at this; exact this) HX.out hok.out
          subst hout
          clear hl0 hperm hit hok HGK2
          obtain ⟨o0, o1, o2, o3, of⟩ := HOS.out.cells
          have hln : (d.pl.take j).length = j := by rw [List.length_take, HNP.out]; omega
          have hln2 : (d.se.take j).length = j := by rw [List.length_take, HSE.out]; omega
          have HL1 := Lib.hid hln
          have HL2 := Lib.hid hln2
          have HRW : Hid (Rws w (⟨.slice B1 t1 e1, 3, 1, j, cellsI (d.pl.take j)⟩ :: [rowB (.slice B2 t2 e2) (d.se.take j), rowI (.slice none 0 0) []]) wr) := Lib.hid (by have h9 := HOS.out.rows; unfold rowI at h9 ⊢; rw [HL1.out] at h9; exact h9)
          clear hln hln2 of
          go_upto_region 14 with (at_builtin; refine wpList_append_oneG rfl _ _ _ rfl Try.underlying22 infoI rfl rfl (n := j) (xs := cellsI (d.pl.take j)) (HRW.out) rfl rfl rfl (one_i9 _) (by omega) ?_; intro v' w6 hR6 hb6 hg6; obtain ⟨A6, c6, rfl⟩ := own_sliceR hR6; have HB6 := Lib.hid (HOS.out.mid (wm := wr.alloc (.cells #[.int .i64 out] 3)) ((Below.refl _ _).alloc (Nat.le_refl _) _) (r := rowI (.slice B1 t1 e1) (d.pl.take j)) (by simp) hg6); have g0 := HB6.out.cell 0; have g1 := HB6.out.cell 1; have g2 := HB6.out.cell 2; have g3 := HB6.out.cell 3; have h0 := HB6.out.frozen 0; have h1 := HB6.out.frozen 1; have h2 := HB6.out.frozen 2; have h3 := HB6.out.frozen 3; simp at g0 g1 g2 g3)
          have HOA : Hid (OS w b sl S (.slice A6 (j + 1) c6) (.slice B2 t2 e2) (.slice none 0 0) (d.pl.take j ++ [out]) (d.se.take j) [] (w6.setCell ⟨w.heap.size + 1, 1, none⟩ (.slice A6 (j + 1) c6))) := Lib.hid (HOS.out.app1 (wm := wr.alloc (.cells #[.int .i64 out] 3)) ((Below.refl _ _).alloc (Nat.le_refl _) _) (by have h9 := hR6; unfold rowI; rw [List.length_append, HL1.out, cellsI_app]; exact h9) hg6)
          clear HOS HRW HB6 hR6 hb6 hg6 o0 o1 o2 o3 g0 g1 g2 g3 h0 h1 h2 h3
          generalize World.setCell w6 _ _ = wA at *
          have HLK := Lib.hid (SetN.lookup (SetN.drew HOA.out.set) klaw_ft Try.underlying114 (zB wA.drew) ⟨5, (j : Int), 0⟩ (v := y) (by rw [HYS.out]))
          have hlk := HLK.out
          unfold valF at hlk
          dsimp only at hlk
          obtain ⟨o0, o1, o2, o3, of⟩ := HOA.out.cells
          clear of
          have hltA := HOA.out.out.lt
          have hneA : w.heap.size + 1 ≠ wA.heap.size := Nat.ne_of_lt hltA
          have HRB : Hid (Rws w (⟨.slice B2 t2 e2, 4, 1, j, cellsB (d.se.take j)⟩ :: [rowI (.slice A6 (j + 1) c6) (d.pl.take j ++ [out]), rowI (.slice none 0 0) []]) wA) := Lib.hid (by
            have h9 := HOA.out.rows.swap
            unfold rowB at h9
            rw [HL2.out] at h9
            exact h9)
          go_region_law (first
            | (refine step_append_grow rfl _ _ _ rfl Try.underlying23 infoBo rfl rfl (by first | exact (HRB.out.alloc _).drew | exact HRB.out.drew.alloc _) (by first | exact (Blk.new _ _ _).drew | exact Blk.new _ _ _) rfl rfl rfl (one_b _) (by omega) ?_
               intro v8 w8 hR8 hg8
               obtain ⟨A8, c8, rfl⟩ := own_sliceR hR8
               have HB8 := Lib.hid (HOA.out.mid (by first | exact ((Below.refl _ _).alloc (Nat.le_refl _) _).drew | exact (Below.refl _ _).drew.alloc (Nat.le_refl _) _) (r := rowB (.slice B2 t2 e2) (d.se.take j)) (by simp) hg8)
               have HOC := Lib.hid (HOA.out.app2 (by first | exact ((Below.refl _ _).alloc (Nat.le_refl _) _).drew | exact (Below.refl _ _).drew.alloc (Nat.le_refl _) _) (y := y) (by have h9 := Rws.swap hR8; unfold rowB; rw [List.length_append, HL2.out, cellsB_app]; exact h9) hg8)
               have q0 := HB8.out.cell 2
               have q1 := HB8.out.frozen 2
               simp at q0
               clear hR8 hg8)
            | fail)
          all_goals
            have HOD : Hid (OS w b sl S (.slice A6 (j + 1) c6) (.slice A8 (j + 1) c8) (.slice none 0 0) (d.pl.take (j+1)) (d.se.take (j+1)) [] (w8.setCell ⟨w.heap.size + 1, 2, none⟩ (.slice A8 (j + 1) c8))) := Lib.hid (by rw [List.take_add_one, List.take_add_one, HX.out, HY.out]; exact HOC.out)
            clear q0 q1 o0 o1 o2 o3 hlk hltA hneA
            go_wp2_with fail
            go_roundg (np - (j + 1))
            case measure => rw [HGK.out]; omega
            case rel => exact ⟨j+1, _, _, rfl, hlt, by go_num, HOD⟩
        · intro fk fa fb left' w5 hp5 hi5 hg5 hz5 hen
          have HO5 : Hid (OS w b sl S (.slice B1 t1 e1) (.slice B2 t2 e2) (.slice none 0 0) (d.pl.take j) (d.se.take j) [] w5) := Lib.hid (HOS.out.grownI hit.out hg5 HRL.out)
          have hbx : Below w5.heap.size w5 (w5.alloc (.cells #[.int .i64 fk, .int .i64 fa, .int .i64 fb] 45)) := (Below.refl _ _).alloc (Nat.le_refl _) _
          have HI6 := Lib.hid (hi5.next hbx)
          have HO6 := Lib.hid (HO5.out.next hbx)
          have HX6 := Lib.hid (Blk.new w5 45 #[.int .i64 fk, .int .i64 fa, .int .i64 fb])
          have HP6 : Hid (S.Perm (((⟨fk, fa, fb⟩ : Ft) :: done) ++ left')) := Lib.hid (hperm.out.trans ((hp5.append_left done).trans List.perm_middle))
          have HLN : Hid (left.length = left'.length + 1) := Lib.hid (by have := hp5.length_eq; simpa using this)
          have HMS : Hid ((⟨fk, fa, fb⟩ : Ft) ∈ S) := Lib.hid (hperm.out.mem_iff.2 (List.mem_append.2 (.inr (hp5.mem_iff.2 (by simp)))))
          clear hbx hp5 hi5 hg5 hz5 hperm hit HO5
          have k0 := HX6.out.cell 0
          have k1 := HX6.out.cell 1
          have k2 := HX6.out.cell 2
          simp at k0 k1 k2
          have hcs : (fk = 1 ∧ fa = (j : Int)) ∨ (fk = 2 ∧ fb = (j : Int)) ∨ (fk = 1 ∧ (fa == (j : Int)) = false) ∨ (fk = 2 ∧ (fb == (j : Int)) = false) ∨ ((fk == 1) = false ∧ (fk == 2) = false) := by simp; omega
          rcases hcs with ⟨rfl, rfl⟩ | ⟨rfl, rfl⟩ | ⟨rfl, h2⟩ | ⟨rfl, h2⟩ | ⟨h2, h3⟩
          · have hv := pl_in HT.out HX.out HMS.out
            subst hv
            go_wp2_with fail
            go_roundg left'.length
            case measure => rw [HGK2.out, HLN.out]; omega
            case rel => exact ⟨left', _, _, rfl, rfl, HP6, HI6, HO6, Lib.hid (.inl rfl)⟩
          · have HHV := Lib.hid (pl_held HT.out HX.out HMS.out)
            have hhv := HHV.out
            obtain ⟨hf0, _⟩ := inS_holds.1 ((HT.out.2 _).1 HMS.out)
            have hw := i64_w (-2 - fa) (by omega) (by omega)
            clear hhv
            go_wp2_with fail
            go_roundg left'.length
            case measure => rw [HGK2.out, HLN.out]; omega
            case rel => exact ⟨left', _, _, rfl, rfl, HP6, HI6, HO6, Lib.hid (.inl HHV.out)⟩
          · have HOK := Lib.hid (hok.out.skip (f := ⟨1, fa, fb⟩) (fun g => by have g2 := g.2; dsimp only at g2; simp [g2] at h2) (fun g => by have g1 := g.1; dsimp only at g1; omega))
            go_wp2_with fail
            go_roundg left'.length
            case measure => rw [HGK2.out, HLN.out]; omega
            case rel => exact ⟨left', _, _, rfl, rfl, HP6, HI6, HO6, HOK⟩
          · have HOK := Lib.hid (hok.out.skip (f := ⟨2, fa, fb⟩) (fun g => by have g1 := g.1; dsimp only at g1; omega) (fun g => by have g2 := g.2; dsimp only at g2; simp [g2] at h2))
            go_wp2_with fail
            go_roundg left'.length
            case measure => rw [HGK2.out, HLN.out]; omega
            case rel => exact ⟨left', _, _, rfl, rfl, HP6, HI6, HO6, HOK⟩
          · have HOK := Lib.hid (hok.out.skip (f := ⟨fk, fa, fb⟩) (fun g => by have g1 := g.1; dsimp only at g1; simp [g1] at h2) (fun g => by have g1 := g.1; dsimp only at g1; simp [g1] at h3))
            go_wp2_with fail
            go_roundg left'.length
            case measure => rw [HGK2.out, HLN.out]; omega
            case rel => exact ⟨left', _, _, rfl, rfl, HP6, HI6, HO6, HOK⟩
    · obtain rfl : j = np := by omega
      have htk : d.pl.take j = d.pl := by rw [← HNP.out, List.take_length]
      have htk2 : d.se.take j = d.se := by rw [← HSE.out, List.take_length]
      rw [htk, htk2] at HOS
      clear htk htk2
      go_wp2_with fail
      go_loopg [68] na (fun kx i wr => ∃ (q : Nat) (v3 : Value), kx = na - q ∧ q ≤ na ∧ i = .int .i64 q ∧ Hid (OS w b sl S v1 v2 v3 d.pl d.se (d.sp.take q) wr))
      case atStart => exact ⟨0, _, by omega, Nat.zero_le _, rfl, HOS⟩
      case round =>
        clear HOS HGK
        obtain ⟨q, v3, hgk, hq, rfl, HOS⟩ := hrel
        have HGK := Lib.hid hgk; clear hgk
        by_cases hlt3 : q < na
        · obtain ⟨⟨D1, g1, f1, D2, g2, f2, D3, g3, f3⟩, _, _, he3, _⟩ := OS.ok HOS.out.rows
          dsimp only at he3
          subst he3
          obtain ⟨x, hx⟩ := get_of_lt HNA.out.symm hlt3
          have HX := Lib.hid hx
          have hxlo := HSP.out x (List.mem_of_getElem? hx)
          clear hx
          have HIT0 := HOS
          go_wp2_with (at_range; refine wpList_set_range _ rfl _ 114 rfl Try.underlying114 HOS.out.set rfl ?_; intro w4 hi4 hb4 hz4)
          have HI4 := Lib.hid hi4
          have HO4 := Lib.hid (HOS.out.next hb4)
          have HRL : Hid (w.heap.size + 1 < wr.heap.size) := Lib.hid HOS.out.out.lt
          clear hi4 hb4 hz4
          generalize wr.heap.size = ri at *
          try go_frame
          go_loopg [14] m2 (fun k o wr => ∃ (left done : List Ft) (out : Int), k = left.length ∧ o = .int .i64 out ∧ Hid (S.Perm (done ++ left)) ∧ Hid (SIter valF wr ri b left) ∧ Hid (OS w b sl S v1 v2 (.slice D3 g3 f3) d.pl d.se (d.sp.take q) wr) ∧ Hid (SpOk q x done out))
          case atStart => exact ⟨S, [], _, HSN.out.symm, rfl, Lib.hid (List.Perm.refl _), HI4, HO4, Lib.hid (.inr ⟨rfl, fun v h => by simp at h⟩)⟩
          case round =>
            clear HI4 HO4 HOS HIT0
            obtain ⟨left, done, out, hgk, rfl, hperm, hit, HOS, hok⟩ := hrel
            have HGK2 := Lib.hid hgk; clear hgk
            go_wp2_with (at_next; refine wpList_fset_next _ rfl _ rfl hit.out rfl ?_ ?_)
            · intro hl0
              have hout := sp_end HT.out (by have := hperm.out; rw [hl0, List.append_nil] at this; exact this) HX.out hxlo hok.out
              subst hout
              clear hl0 hperm hit hok HGK2
              obtain ⟨o0, o1, o2, o3, of⟩ := HOS.out.cells
              have hln : (d.sp.take q).length = q := by rw [List.length_take, HNA.out]; omega
              have HL1 := Lib.hid hln
              have HRW : Hid (Rws w (⟨.slice D3 g3 f3, 3, 1, q, cellsI (d.sp.take q)⟩ :: [rowI v1 d.pl, rowB v2 d.se]) wr) := Lib.hid (by
                have h9 := HOS.out.rows.perm (rs' := [rowI (.slice D3 g3 f3) (d.sp.take q), rowI v1 d.pl, rowB v2 d.se]) ((List.Perm.cons _ (List.Perm.swap _ _ _)).trans (List.Perm.swap _ _ _))
                unfold rowI at h9 ⊢; rw [HL1.out] at h9; exact h9)
              clear hln of
              go_upto_region 26 with (at_builtin; refine wpList_append_oneG rfl _ _ _ rfl Try.underlying22 infoI rfl rfl (n := q) (xs := cellsI (d.sp.take q)) (HRW.out) rfl rfl rfl (one_i9 _) (by omega) ?_; intro v' w6 hR6 hb6 hg6; obtain ⟨A6, c6, rfl⟩ := own_sliceR hR6; have HB6 := Lib.hid (HOS.out.mid (wm := wr.alloc (.cells #[.int .i64 out] 3)) ((Below.refl _ _).alloc (Nat.le_refl _) _) (r := rowI (.slice D3 g3 f3) (d.sp.take q)) (by simp) hg6); have g0 := HB6.out.cell 0; have g1 := HB6.out.cell 1; have g2 := HB6.out.cell 2; have g3 := HB6.out.cell 3; have h0 := HB6.out.frozen 0; have h1 := HB6.out.frozen 1; have h2 := HB6.out.frozen 2; have h3 := HB6.out.frozen 3; simp at g0 g1 g2 g3)
              have HOA : Hid (OS w b sl S v1 v2 (.slice A6 (q + 1) c6) d.pl d.se (d.sp.take (q+1)) (w6.setCell ⟨w.heap.size + 1, 3, none⟩ (.slice A6 (q + 1) c6))) := Lib.hid (by
                rw [List.take_add_one, HX.out]
                exact HOS.out.app3 (wm := wr.alloc (.cells #[.int .i64 out] 3)) ((Below.refl _ _).alloc (Nat.le_refl _) _) (by have h9 := hR6.perm (rs' := [rowI v1 d.pl, rowB v2 d.se, ⟨.slice A6 (q + 1) c6, 3, 1, q + 1, cellsI (d.sp.take q) ++ (#[.int .i64 out] : Array Value).toList⟩]) ((List.Perm.swap _ _ _).trans (List.Perm.cons _ (List.Perm.swap _ _ _))); show Rws w [rowI v1 d.pl, rowB v2 d.se, ⟨.slice A6 (q + 1) c6, 3, 1, (d.sp.take q ++ [out]).length, cellsI (d.sp.take q ++ [out])⟩] w6; rw [List.length_append, HL1.out, cellsI_app]; exact h9) hg6)
              clear HOS HRW HB6 hR6 hb6 hg6 o0 o1 o2 o3 g0 g1 g2 g3 h0 h1 h2 h3
              go_wp2_with fail
              go_roundg (na - (q + 1))
              case measure => rw [HGK.out]; omega
              case rel => exact ⟨q+1, _, rfl, hlt3, by go_num, HOA⟩
            · intro fk fa fb left' w5 hp5 hi5 hg5 hz5 hen
              have HO5 : Hid (OS w b sl S v1 v2 (.slice D3 g3 f3) d.pl d.se (d.sp.take q) w5) := Lib.hid (HOS.out.grownI hit.out hg5 HRL.out)
              have hbx : Below w5.heap.size w5 (w5.alloc (.cells #[.int .i64 fk, .int .i64 fa, .int .i64 fb] 45)) := (Below.refl _ _).alloc (Nat.le_refl _) _
              have HI6 := Lib.hid (hi5.next hbx)
              have HO6 := Lib.hid (HO5.out.next hbx)
              have HX6 := Lib.hid (Blk.new w5 45 #[.int .i64 fk, .int .i64 fa, .int .i64 fb])
              have HP6 : Hid (S.Perm (((⟨fk, fa, fb⟩ : Ft) :: done) ++ left')) := Lib.hid (hperm.out.trans ((hp5.append_left done).trans List.perm_middle))
              have HLN : Hid (left.length = left'.length + 1) := Lib.hid (by have := hp5.length_eq; simpa using this)
              have HMS : Hid ((⟨fk, fa, fb⟩ : Ft) ∈ S) := Lib.hid (hperm.out.mem_iff.2 (List.mem_append.2 (.inr (hp5.mem_iff.2 (by simp)))))
              clear hbx hp5 hi5 hg5 hz5 hperm hit HO5
              have k0 := HX6.out.cell 0
              have k1 := HX6.out.cell 1
              have k2 := HX6.out.cell 2
              simp at k0 k1 k2
              have hcs : (fk = 6 ∧ fa = (q : Int)) ∨ (fk = 6 ∧ (fa == (q : Int)) = false) ∨ ((fk == 6) = false) := by simp; omega
              rcases hcs with ⟨rfl, rfl⟩ | ⟨rfl, h2⟩ | h2
              · have hv := sp_at HT.out HX.out HMS.out
                subst hv
                go_wp2_with fail
                go_roundg left'.length
                case measure => rw [HGK2.out, HLN.out]; omega
                case rel => exact ⟨left', _, _, rfl, rfl, HP6, HI6, HO6, Lib.hid (.inl rfl)⟩
              · have HOK := Lib.hid (hok.out.skip (f := ⟨6, fa, fb⟩) (fun g => by have g2 := g.2; dsimp only at g2; simp [g2] at h2))
                go_wp2_with fail
                go_roundg left'.length
                case measure => rw [HGK2.out, HLN.out]; omega
                case rel => exact ⟨left', _, _, rfl, rfl, HP6, HI6, HO6, HOK⟩
              · have HOK := Lib.hid (hok.out.skip (f := ⟨fk, fa, fb⟩) (fun g => by have g1 := g.1; dsimp only at g1; simp [g1] at h2))
                go_wp2_with fail
                go_roundg left'.length
                case measure => rw [HGK2.out, HLN.out]; omega
                case rel => exact ⟨left', _, _, rfl, rfl, HP6, HI6, HO6, HOK⟩
        · obtain rfl : q = na := by omega
          have htk : d.sp.take q = d.sp := by rw [← HNA.out, List.take_length]
          rw [htk] at HOS
          clear htk
          obtain ⟨o0, o1, o2, o3, of⟩ := HOS.out.cells
          obtain ⟨x0, y0, z0, u0, ⟨q0, q1, q2, q3⟩, q4, q5, q6, q7⟩ := HOS.out.room
          obtain ⟨⟨B1, t1, e1, B2, t2, e2, D3, g3, f3⟩, he1, he2, he3, _⟩ := OS.ok HOS.out.rows
          dsimp only at he1 he2 he3
          subst he1 he2 he3
          have HFN := Lib.hid (HOS.out.fin (.int .i64 sl) (.slice B1 t1 e1) (.slice B2 t2 e2) (.slice D3 g3 f3))
          clear of
          have HEND : Hid (∃ r, Value.agg #[.int .i64 sl, .slice B1 t1 e1, .slice B2 t2 e2, .slice D3 g3 f3] = wv sl r ∧ WRows w r d (put4 wr w.heap.size (.int .i64 sl) (.slice B1 t1 e1) (.slice B2 t2 e2) (.slice D3 g3 f3))) := Lib.hid ⟨⟨B1, t1, e1, B2, t2, e2, D3, g3, f3⟩, rfl, HFN.out.2⟩
          go_wp2_with fail
          obtain ⟨re, he9, hok9⟩ := HEND.out
          exact ret_blk1 rfl rfl rfl HFN.out.1 (n := 4) rfl (by kernel_rfl) ⟨re, congrArg Ending.returned he9, hok9⟩
end Go.Proofs.Ytnaiflokmihmeaa
