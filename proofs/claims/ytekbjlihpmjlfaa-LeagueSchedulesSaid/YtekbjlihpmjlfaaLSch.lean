/-
  LeagueSchedules: what is wanted is built, and the schedule is that.
-/
import Derived.Test.YtekbjlihpmjlfaaSLP
set_option linter.unusedSimpArgs false
set_option linter.unusedVariables false
namespace Go.Proofs.Ytekbjlihpmjlfaa
open Go.RowKit

theorem i_free {w : World} {B : Nat} {e : TypeId} {g n c j : Nat} {xs : List Value} (h : XOwns w B e 1 (some ⟨g, 0, none⟩) n c xs) (hj : j < n) : ∃ u, w.cell? ⟨g, j, none⟩ = some u ∧ w.frozen? ⟨g, j, none⟩ = false ∧ g < w.heap.size := by
  have hl := h.len
  obtain ⟨g', hg, _, h2, hc, hf⟩ := h.cell (j := j) (u := xs[j]'(by omega)) (List.getElem?_eq_getElem (by omega))
  injection hg with hg
  injection hg with hg
  subst hg
  exact ⟨_, hc, hf, h2⟩
/-- What is wanted, round by round. -/
def outW (n : Nat) (G : Nat → Option Addr × Nat) (r : Nat) : List Value := (List.range r).map fun i => .slice (G i).1 (2 * (schS n i).length) (G i).2
theorem outW_at {n r i : Nat} {G : Nat → Option Addr × Nat} (h : i < r) : (outW n G r)[i]? = some (.slice (G i).1 (2 * (schS n i).length) (G i).2) := by
  unfold outW
  rw [List.getElem?_map, List.getElem?_range h]
  rfl
theorem outW_next {n r : Nat} {G : Nat → Option Addr × Nat} {A : Option Addr} {c : Nat} : outW n G r ++ [.slice A (2 * (schS n r).length) c] = outW n (updF G r (A, c)) (r + 1) := by
  unfold outW
  rw [List.range_succ, List.map_append]
  congr 1
  · refine List.map_congr_left fun i hi => ?_
    have := List.mem_range.1 hi
    unfold updF
    rw [if_neg (by omega)]
  · simp [updF]
structure WtM (B n r : Nat) (A : Option Addr) (c : Nat) (G : Nat → Option Addr × Nat) (W : World) : Prop where
  O : XOwns W B 42 1 A r c (outW n G r)
  I : ∀ i, i < r → XOwns W B 3 1 (G i).1 (2 * (schS n i).length) (G i).2 (ics (flatI (schS n i)))
theorem WtM.below {B n r : Nat} {A : Option Addr} {c : Nat} {G : Nat → Option Addr × Nat} {W W' : World} (h : WtM B n r A c G W) (hb : Below W.heap.size W W') : WtM B n r A c G W' := ⟨h.O.below hb, fun i hi => (h.I i hi).below hb⟩
theorem WtM.more {B n r : Nat} {A A' : Option Addr} {c c' : Nat} {G : Nat → Option Addr × Nat} {W W' : World} {A2 : Option Addr} {c2 : Nat} (h : WtM B n r A c G W) (hx : XOwns W B 3 1 A2 (2 * (schS n r).length) c2 (ics (flatI (schS n r)))) (hg : W.grownBy W' (blkOf A))
    (ho : XOwns W' B 42 1 A' (r + 1) c' (outW n G r ++ [.slice A2 (2 * (schS n r).length) c2])) : WtM B n (r + 1) A' c' (updF G r (A2, c2)) W' := by
  refine ⟨by rw [← outW_next]; exact ho, fun i hi => ?_⟩
  by_cases e : i = r
  · subst e
    simp only [updF, if_pos]
    exact hx.grown hg (hx.apart h.O (by decide))
  · simp only [updF, if_neg e]
    exact (h.I i (by omega)).grown hg ((h.I i (by omega)).apart h.O (by decide))
theorem WtM.want {B n M : Nat} {A : Option Addr} {c : Nat} {G : Nat → Option Addr × Nat} {W : World} (h : WtM B n M A c G W) : WantS n M A W := by
  intro W' hb i hi
  have h' := h.below hb
  obtain ⟨g, hg, _, _, hc, _⟩ := h'.O.cell (outW_at (n := n) (G := G) hi)
  exact ⟨_, _, _, hg, by rw [ad_zero]; exact hc, (h'.I i hi).reads⟩

theorem mod_two {a M : Nat} (h : a < 2 * M) : a % M = a ∨ a % M + M = a := by
  rcases Nat.lt_or_ge a M with h1 | h1
  · exact .inl (Nat.mod_eq_of_lt h1)
  · refine .inr ?_
    rw [Nat.mod_eq_sub_mod h1, Nat.mod_eq_of_lt (by omega)]
    omega
set_option maxRecDepth 100000 in
set_option maxHeartbeats 3200000 in
theorem lsch_ok (n : Nat) (w : World) (hn : 2 ≤ n ∧ n ≤ 40) : Calls Try.prog 5 #[.int .i64 n] w fun e w' => e = .returned (.bool true) ∧ Below w.heap.size w w' := by
  have HN := Lib.hid hn
  obtain ⟨hn1, hn2⟩ := hn
  have HTW : Hid (∀ r, r < evN n - 1 → tabW n r (evN n / 2 - 1) = (List.range (evN n)).map (parN n r)) := Lib.hid (tabW_all n (by omega) hn1)
  obtain ⟨E, hE⟩ : ∃ E, evN n = E := ⟨_, rfl⟩
  obtain ⟨M, hM⟩ : ∃ M, E - 1 = M := ⟨_, rfl⟩
  obtain ⟨H, hH⟩ : ∃ H, E / 2 = H := ⟨_, rfl⟩
  obtain ⟨s, hs⟩ : ∃ s, n % 2 = s := ⟨_, rfl⟩
  have HE := Lib.hid hE
  have HM : Hid (evN n - 1 = M) := Lib.hid (by rw [hE]; exact hM)
  rw [hE, hM, hH] at HTW
  have hb : s ≤ 1 ∧ E = n + s ∧ E = 2 * H ∧ E = M + 1 ∧ 1 ≤ H ∧ H ≤ 20 := by unfold evN at hE; omega
  obtain ⟨b1, b2, b3, b4, b5, b6⟩ := hb
  have q1 : (n : Int).tmod 2 = (s : Int) := by rw [Int.tmod_eq_emod_of_nonneg (by omega)]; omega
  have hsE : (n : Int) + (s : Int) = (E : Int) := by omega
  have HSE := Lib.hid hsE
  clear hsE
  have q3 : (E : Int) - 1 = (M : Int) := by omega
  have q3w : IntKind.i64.wrap ((E : Int) - 1) = (M : Int) := by rw [q3]; exact IntWalk.i64_in _ (by omega)
  have q4 : (E : Int).tdiv 2 = (H : Int) := by rw [Int.tdiv_eq_ediv_of_nonneg (by omega)]; omega
  have u1 : n ≤ 40 := hn2
  have b7 : E ≤ M + 1 ∧ M + 1 ≤ E ∧ E ≤ 2 * H ∧ 2 * H ≤ E := by omega
  obtain ⟨b8, b9, b10, b11⟩ := b7
  clear hE hM hH hs b2 b3 b4
  go_enter Try.func5, Try.ntmps5
  go_wp2
  rw [HSE.out]
  go_loopw [6, 7] (fun o i W => ∃ (r : Nat) (A : Option Addr) (c : Nat) (G : Nat → Option Addr × Nat), r ≤ M ∧ o = .slice A r c ∧ i = .int .i64 r ∧ Hid (WtM w.heap.size n r A c G W) ∧ Hid (Below w.heap.size w W)) (fun _ i _ => M - (intOf i).toNat)
  case atStart => exact ⟨0, none, 0, fun _ => (none, 0), Nat.zero_le _, rfl, rfl, Lib.hid ⟨XOwns.nil_ _ _ _ _, fun i hi => absurd hi (by omega)⟩, Lib.hid (Below.refl _ _)⟩
  case round =>
    obtain ⟨r, Aw, cw, G, hr, rfl, rfl, HWT, HB⟩ := hrel
    have hwz := HB.out.size
    by_cases hlt : r < M
    · have hlt' : (r : Int) < M := by omega
      generalize wr = wq at *
      go_wp2_with (at_make; refine make_k _ rfl (.tmp 46) (.tmp 46) 42 rfl wq.heap.size 3 (.int .i64 0) 1 8 Try.info3 Try.underlying42 rfl (by decide) .i64 .i64 _ _ E rfl rfl rfl rfl ?_ ?_ ?_ ?_; omega; omega; exact Nat.le_refl _; intro w3 ho3 hb3; obtain ⟨uM, cM, fM, hgM⟩ := i_free ho3 (j := M) (by omega); obtain ⟨uR, cR, fR, -⟩ := i_free ho3 (j := r) (by omega))
      have HG0 : Hid (XOwns ((w3.setCell ⟨wq.heap.size, M, none⟩ (.int .i64 r)).setCell ⟨wq.heap.size, r, none⟩ (.int .i64 M)) wq.heap.size 3 1 (some ⟨wq.heap.size, 0, none⟩) E E (ics (natI (tabW n r 0)))) := Lib.hid (by
        have h := ho3
        rw [rep_one _ _ rfl] at h
        have e0 : List.replicate E (Value.int .i64 0) = ics (natI (List.replicate E 0)) := by simp [ics, natI]
        rw [e0] at h
        have h2 := (h.setX M (.int .i64 r)).setX r (.int .i64 M)
        rw [natI_set, natI_set] at h2
        rw [tabW, HE.out, show E - 1 = M by omega]
        exact h2)
      have HB0 : Hid (Below wq.heap.size wq ((w3.setCell ⟨wq.heap.size, M, none⟩ (.int .i64 r)).setCell ⟨wq.heap.size, r, none⟩ (.int .i64 M))) := Lib.hid ((hb3.setCell (p := ⟨wq.heap.size, M, none⟩) (Nat.le_refl _) _).setCell (p := ⟨wq.heap.size, r, none⟩) (Nat.le_refl _) _)
      obtain ⟨g, hg⟩ : ∃ g, wq.heap.size = g := ⟨_, rfl⟩
      have HG := Lib.hid hg
      rw [hg] at HG0 HB0 ⊢
      clear ho3 hb3 cM cR fM fR hgM hg
      go_loopw [9] (fun i W => ∃ j : Nat, i = .int .i64 (j + 1 : Nat) ∧ j + 1 ≤ H ∧ Hid (XOwns W g 3 1 (some ⟨g, 0, none⟩) E E (ics (natI (tabW n r j)))) ∧ Hid (Below g wq W)) (fun i _ => H - (intOf i).toNat)
      case atStart => exact ⟨0, rfl, b5, HG0, HB0⟩
      case round =>
        obtain ⟨j, rfl, hj, HX, HBX⟩ := hrel
        clear HG0 HB0
        have hgz := HBX.out.size
        by_cases hlj : j + 1 < H
        · have hlj' : ((j + 1 : Nat) : Int) < H := by omega
          obtain ⟨x, hx⟩ : ∃ x, (r + (j + 1)) % M = x := ⟨_, rfl⟩
          obtain ⟨y, hy⟩ : ∃ y, (r + M - (j + 1)) % M = y := ⟨_, rfl⟩
          have hxM : x < M := by rw [← hx]; exact Nat.mod_lt _ (by omega)
          have hyM : y < M := by rw [← hy]; exact Nat.mod_lt _ (by omega)
          have hxy : x ≠ y := by
            have h1 := mod_two (a := r + (j + 1)) (M := M) (by omega)
            have h2 := mod_two (a := r + M - (j + 1)) (M := M) (by omega)
            rw [hx] at h1
            rw [hy] at h2
            omega
          have HT1 : Hid (tabW n r (j + 1) = ((tabW n r j).set x y).set y x) := Lib.hid (by rw [tabW, HM.out, hx, hy])
          obtain ⟨ux, cx, fx, hgx⟩ := i_free HX.out (j := x) (by omega)
          obtain ⟨uy, cy, fy, -⟩ := i_free HX.out (j := y) (by omega)
          have ex : ((r : Int) + ((j + 1 : Nat) : Int)) % (M : Int) = (x : Int) := by rw [← hx]; simp
          have ey : ((r : Int) - ((j + 1 : Nat) : Int)) % (M : Int) = (y : Int) := by
            rw [← hy, show ((r : Int) - ((j + 1 : Nat) : Int)) = ((r + M - (j + 1) : Nat) : Int) - (M : Int) by omega, Int.sub_emod_right]
            omega
          obtain ⟨z, hz⟩ : ∃ z, j + 1 = z := ⟨_, rfl⟩
          rw [hz] at ex ey hlj' ⊢
          have hz2 : z ≤ 20 := by omega
          have hz3 : 1 ≤ z := by omega
          have HZ := Lib.hid hz
          have HEX := Lib.hid ex
          have HEY := Lib.hid ey
          clear hx hy ex ey hz
          go_wp2_with fail
          refine (mod_any _ _ _ (by omega) (by omega)).mono ?_
          rw [HEX.out]
          rintro e w5 ⟨rfl, rfl⟩
          go_wp2_with fail
          refine (mod_any _ _ _ (by omega) (by omega)).mono ?_
          rw [HEY.out]
          rintro e w5 ⟨rfl, rfl⟩
          go_wp2
          go_roundw
          case rel =>
            refine ⟨j + 1, ?_, ?_, Lib.hid ?_, Lib.hid ?_⟩
            · rw [HZ.out]; go_num
            · omega
            · rw [HT1.out, ← natI_set, ← natI_set]
              exact (HX.out.setX x _).setX y _
            · exact (HBX.out.setCell (p := ⟨g, x, none⟩) (Nat.le_refl _) _).setCell (p := ⟨g, y, none⟩) (Nat.le_refl _) _
          case measure => simp [intOf]; omega
        · have hjH : j = H - 1 := by omega
          have HTT : Hid (∀ W, Below wr.heap.size wr W → ∀ a, a < E → W.cell? ⟨g, a, none⟩ = some (.int .i64 (parN n r a))) := Lib.hid fun W hb a ha => by
            have h := HX.out.below hb
            rw [hjH, HTW.out r hlt] at h
            obtain ⟨g', hg, _, _, hc, _⟩ := h.cell (j := a) (natI_at (v := parN n r a) (by rw [List.getElem?_map, List.getElem?_range ha]; rfl))
            injection hg with hg
            injection hg with hg
            subst hg
            exact hc
          have hlj' : (H : Int) ≤ ((j + 1 : Nat) : Int) := by omega
          have hgl : g < wr.heap.size := (i_free HX.out (j := 0) (by omega)).choose_spec.2.2
          clear hjH
          generalize wr = ws at *
          go_wp2
          go_loopw [12, 13] (fun o i W => ∃ (a : Nat) (Al : Option Addr) (L cl : Nat) (xs : List Int), a ≤ n ∧ o = .slice Al L cl ∧ i = .int .i64 a ∧ Hid (xs = flatI (lW n r a) ∧ L = xs.length ∧ L ≤ 2 * a) ∧ Hid (XOwns W ws.heap.size 3 1 Al L cl (ics xs)) ∧ Hid (Below ws.heap.size ws W)) (fun _ i _ => n - (intOf i).toNat)
          case atStart => exact ⟨0, none, 0, 0, [], Nat.zero_le _, rfl, rfl, Lib.hid ⟨rfl, rfl, Nat.le_refl _⟩, Lib.hid (XOwns.nil_ _ _ _ _), Lib.hid (Below.refl _ _)⟩
          case round =>
            obtain ⟨a, Al, L, cl, xs, ha, rfl, rfl, HLx, HO, HBW⟩ := hrel
            have hwz2 := HBW.out.size
            have hL2 := HLx.out.2.2
            by_cases hla : a < n
            · have hla' : (a : Int) < n := by omega
              have haE : a < E := by have := HSE.out; omega
              have c0 := HTT.out _ HBW.out a haE
              have HSK := Lib.hid (lW_skip (n := n) (r := r) (a := a))
              have HMR := Lib.hid (lW_more (n := n) (r := r) (a := a))
              obtain ⟨b, hb⟩ : ∃ b, parN n r a = b := ⟨_, rfl⟩
              rw [hb] at c0 HSK HMR
              have hgl2 : g < wr.heap.size := by omega
              clear hb
              by_cases hk1 : b < a
              · have HLW : Hid (lW n r (a + 1) = lW n r a) := Lib.hid (HSK.out (.inl hk1))
                have hk1' : (b : Int) < (a : Int) := by omega
                go_wp2
                go_roundw
                case rel => exact ⟨a + 1, Al, L, cl, xs, hla, rfl, by go_num, Lib.hid ⟨by rw [HLW.out]; exact HLx.out.1, HLx.out.2.1, by omega⟩, HO, HBW⟩
                case measure => simp [intOf]; omega
              by_cases hk2 : n ≤ b
              · have HLW : Hid (lW n r (a + 1) = lW n r a) := Lib.hid (HSK.out (.inr hk2))
                have hk1' : ¬ (b : Int) < (a : Int) := by omega
                have hk2' : (n : Int) ≤ (b : Int) := by omega
                go_wp2
                go_roundw
                case rel => exact ⟨a + 1, Al, L, cl, xs, hla, rfl, by go_num, Lib.hid ⟨by rw [HLW.out]; exact HLx.out.1, HLx.out.2.1, by omega⟩, HO, HBW⟩
                case measure => simp [intOf]; omega
              have hk1' : ¬ (b : Int) < (a : Int) := by omega
              have hk2' : ¬ (n : Int) ≤ (b : Int) := by omega
              have hlw := HMR.out (by omega)
              by_cases hpar : (a + b) % 2 = 0
              · rw [if_pos hpar] at hlw
                have HLW := Lib.hid hlw
                have hp2 : ((a : Int) + (b : Int)).tmod 2 = 0 := by rw [Int.tmod_eq_emod_of_nonneg (by omega)]; omega
                clear hlw hpar
                have hal : Below wr.heap.size wr (wr.alloc (.cells #[.int .i64 a, .int .i64 b] 3)) := (Below.refl _ _).alloc (Nat.le_refl _) _
                have HBL := Lib.hid (Blk.mk_ wr 3 #[.int .i64 a, .int .i64 b] _ rfl)
                go_wp2_with (at_builtin; refine append_xr (w := (wr.alloc (.cells #[.int .i64 a, .int .i64 b] 3))) ?_ (.tmp 106) (.tmp 109) 42 ?_ ws.heap.size 3 (.int .i64 0) 1 8 Try.info3 Try.underlying42 rfl (by decide) Al L cl (ics xs) ?_ (HO.out.below hal) (some ⟨wr.heap.size, 0, none⟩) 2 2 (ics [(a : Int), (b : Int)]) ?_ (fun h => by cases h) (reads_block HBL.out 1 2 rfl) (ics_one _) ?_ ?_ ?_ ?_; rfl; rfl; rfl; rfl; omega; omega; (simp; omega); intro A6 c6 w6 ho6 hb6)
                go_roundw
                case rel => exact ⟨a + 1, hla, A6, L + 2, c6, ⟨rfl, rfl, rfl⟩, by omega, flatI (lW n r (a + 1)), Lib.hid ⟨rfl, by rw [HLW.out, flatI_snoc, List.length_append, ← HLx.out.1, HLx.out.2.1]; rfl, by omega⟩, Lib.hid (by rw [HLW.out, flatI_snoc, ← HLx.out.1]; (have h := ho6; rw [show ics xs ++ ics [(a : Int), (b : Int)] = ics (xs ++ [(a : Int), (b : Int)]) by simp [ics]] at h; exact h)), Lib.hid ((HBW.out.trans (hal.mono hwz2)).trans hb6)⟩
                case measure => simp [intOf]; omega
              · rw [if_neg hpar] at hlw
                have HLW := Lib.hid hlw
                have hp2 : ((a : Int) + (b : Int)).tmod 2 = 1 := by rw [Int.tmod_eq_emod_of_nonneg (by omega)]; omega
                clear hlw hpar
                have hal : Below wr.heap.size wr (wr.alloc (.cells #[.int .i64 b, .int .i64 a] 3)) := (Below.refl _ _).alloc (Nat.le_refl _) _
                have HBL := Lib.hid (Blk.mk_ wr 3 #[.int .i64 b, .int .i64 a] _ rfl)
                go_wp2_with (at_builtin; refine append_xr (w := (wr.alloc (.cells #[.int .i64 b, .int .i64 a] 3))) ?_ (.tmp 111) (.tmp 114) 42 ?_ ws.heap.size 3 (.int .i64 0) 1 8 Try.info3 Try.underlying42 rfl (by decide) Al L cl (ics xs) ?_ (HO.out.below hal) (some ⟨wr.heap.size, 0, none⟩) 2 2 (ics [(b : Int), (a : Int)]) ?_ (fun h => by cases h) (reads_block HBL.out 1 2 rfl) (ics_one _) ?_ ?_ ?_ ?_; rfl; rfl; rfl; rfl; omega; omega; (simp; omega); intro A6 c6 w6 ho6 hb6)
                go_roundw
                case rel => exact ⟨a + 1, hla, A6, L + 2, c6, ⟨rfl, rfl, rfl⟩, by omega, flatI (lW n r (a + 1)), Lib.hid ⟨rfl, by rw [HLW.out, flatI_snoc, List.length_append, ← HLx.out.1, HLx.out.2.1]; rfl, by omega⟩, Lib.hid (by rw [HLW.out, flatI_snoc, ← HLx.out.1]; (have h := ho6; rw [show ics xs ++ ics [(b : Int), (a : Int)] = ics (xs ++ [(b : Int), (a : Int)]) by simp [ics]] at h; exact h)), Lib.hid ((HBW.out.trans (hal.mono hwz2)).trans hb6)⟩
                case measure => simp [intOf]; omega
            · obtain rfl : a = n := by omega
              obtain ⟨e1, e2, -⟩ := HLx.out
              rw [lW_all] at e1
              have e3 : L = 2 * (schS a r).length := by rw [e2, e1, flatI_len]
              have hB4 : Below wq.heap.size wq wr := below_call (by rw [HG.out]; exact HBX.out) HBW.out hgz
              have HB4 := Lib.hid hB4
              have HW4 := Lib.hid (HWT.out.below hB4)
              have hz4 := hB4.size
              have HX2 : Hid (XOwns wr w.heap.size 3 1 Al (2 * (schS a r).length) cl (ics (flatI (schS a r)))) := Lib.hid (by rw [← e3, ← e1]; exact own_lower HO.out (by omega))
              have HE3 := Lib.hid e3
              have hal : Below wr.heap.size wr (wr.alloc (.cells #[.slice Al L cl] 42)) := (Below.refl _ _).alloc (Nat.le_refl _) _
              have HAL := Lib.hid hal
              have HBL := Lib.hid (Blk.mk_ wr 42 #[.slice Al L cl] _ rfl)
              clear e1 e2 e3 hB4 hal
              go_wp2_with (at_builtin; refine append_x (w := (wr.alloc (.cells #[.slice Al L cl] 42))) ?_ (.tmp 116) (.tmp 118) 38 ?_ w.heap.size 42 (.slice none 0 0) 1 24 Try.info42 Try.underlying38 rfl (by decide) Aw r cw (outW a G r) ?_ (HW4.out.O.below HAL.out) (some ⟨wr.heap.size, 0, none⟩) 1 1 [.slice Al L cl] ?_ (reads_block HBL.out 1 1 rfl) (fun u hu => by simp at hu; subst hu; rfl) (by decide) ?_ ?_ ?_ _ rfl ?_; rfl; rfl; rfl; rfl; omega; omega; (simp; omega); intro g7 c7 w7 ho7 hg7 hi7 hz7)
              go_roundw
              case rel =>
                refine ⟨r + 1, some ⟨g7, 0, none⟩, c7, updF G r (Al, cl), hlt, rfl, by go_num, Lib.hid ?_, Lib.hid ?_⟩
                · refine (HW4.out.below HAL.out).more (HX2.out.below HAL.out) hg7 ?_
                  rw [← HE3.out]
                  exact ho7
                · exact ((HB.out.trans (HB4.out.mono hwz)).trans (HAL.out.mono (by omega))).trans ((Below.refl _ _).grown hg7 (by simp; omega) (fun k hk => ((HW4.out.below HAL.out).O.lt k hk).1))
              case measure => simp [intOf]; omega
    · obtain rfl : r = M := by omega
      go_wp2_with fail
      refine (schedules_any n r Aw cw _ HN.out HM.out HWT.out.want).mono ?_
      rintro e w8 ⟨rfl, hb8⟩
      go_wp2_with fail
      refine (known_any _).mono ?_
      rintro e w9 ⟨rfl, hb9⟩
      go_wp2
      go_ret
      exact ⟨rfl, below_call HB.out (below_call hb8 hb9 hb8.size) hwz⟩
end Go.Proofs.Ytekbjlihpmjlfaa
