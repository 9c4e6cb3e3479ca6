/-
  Texts: Shu.
-/
import Derived.Test.YtagpphelgghbpaaGreatHk30
import Derived.Test.YtagpphelgghbpaaGreatHk12
/-
  draws.Shuffle.
-/
set_option linter.unusedSimpArgs false
set_option linter.unusedVariables false
namespace Go.Proofs.YtagpphelgghbpaaGreat
open Go.RowKit

theorem grow_far {a b c : World} {r : Option Nat} {g : Nat} (h : a.grownBy b r) (k : b.grownBy c (some g)) (hg : a.heap.size ≤ g) : a.grownBy c r := ⟨k.os.trans h.os, k.tape.trans h.tape, k.output.trans h.output, Nat.le_trans h.size k.size, fun j hj hne => (k.block j (Nat.lt_of_lt_of_le hj h.size) (by intro e; injection e with e; omega)).trans (h.block j hj hne)⟩
theorem grow_below {a b c : World} {r : Option Nat} (h : a.grownBy b r) (k : Below b.heap.size b c) : a.grownBy c r := only_trans_ h (grownBy_below_ k)
theorem DwS.far {W W' : World} {gd gu used g : Nat} {us : List Int} (h : DwS W gd gu us used) (hg : W.grownBy W' (some g)) (h1 : gd ≠ g) (h2 : gu ≠ g) : DwS W' gd gu us used := ⟨h.D.grown hg (fun e => h1 (by injection e)), h.U.grown hg (fun e => h2 (by injection e))⟩
def ShEnd (W : World) (gd gu : Nat) (us : List Int) (used n : Nat) (l : List Int) (e : Ending) (w' : World) : Prop := ∃ A c, e = .returned (.tuple #[.slice A n c, .int .i64 0]) ∧ XOwns w' W.heap.size 3 1 A n c (ics (shuf us used l)) ∧ DwS w' gd gu us (used + (n - 1)) ∧ W.grownBy w' (some gd)
structure ShL (W0 : World) (gd gu : Nat) (us : List Int) (n c g : Nat) (A : Option Addr) (used k : Nat) (l r : List Int) (u1 : Nat) (W : World) : Prop where
  X : XOwns W W0.heap.size 3 1 A n c (ics l)
  D : DwS W gd gu us used
  G : W0.grownBy W (some gd)
  e : shufL us (k - 1) used l = r
  u : used + (k - 1) = u1
  le : l.length = n
set_option maxRecDepth 100000 in
set_option maxHeartbeats 3200000 in
theorem shuffle_ok (W : World) (gd gu : Nat) (us : List Int) (used : Nat) (hD : DwS W gd gu us used) (hne : gd ≠ gu) (hn65 : us.length ≤ 65536) (hw : ∀ k, k < us.length → 0 ≤ ith us k ∧ ith us k ≤ 18446744073709551615) (A : Option Addr) (n c : Nat) (l : List Int) (hx : Reads W 1 A n (ics l)) (hA : A = none → c = 0) (hl5 : n ≤ 500) (hleft : used + (n - 1) ≤ us.length) :
    Calls Tryz.prog 29 #[.pointer (some ⟨gd, 0, none⟩), .slice A n c] W (ShEnd W gd gu us used n l) := by
  have HC : Hid (Calls Tryz.prog 64 #[.pointer (some ⟨gd, 0, none⟩), .int .i64 ((n : Int) - 1), .int .i64 0] W fun e w' => e = .returned (.int .i64 0) ∧ Below W.heap.size W w') := Lib.hid ((dcheck_any W gd gu us used ((n : Int) - 1) 0 hD (by omega) hn65).mono fun e w' h => ⟨by rw [h.1]; unfold chkS; rw [if_neg (by simp), if_neg (by omega)], h.2⟩)
  have HK : Hid (∀ W', Below W.heap.size W W' → Calls Tryz.prog 61 #[.slice A n c] W' fun e w' => ∃ A' c', e = .returned (.slice A' n c') ∧ XOwns w' W'.heap.size 3 1 A' n c' (ics l) ∧ Below W'.heap.size W' w') := Lib.hid fun W' hb => clone_ints A n c (ics l) W' (hx.below hb) (ics_one l) hA (by omega)
  have HD := Lib.hid hD
  have HNE := Lib.hid hne
  have HN65 := Lib.hid hn65
  have HW := Lib.hid hw
  have HLE := Lib.hid hleft
  have HLN := Lib.hid (ilen hx)
  obtain ⟨r, hr⟩ : ∃ r, shuf us used l = r := ⟨_, rfl⟩
  obtain ⟨u1, hu1⟩ : ∃ r, used + (n - 1) = r := ⟨_, rfl⟩
  have HR := Lib.hid (And.intro hr hu1)
  have h5 : (n : Int) ≤ 500 := by omega
  have hwn : wrap64 ((n : Int) - 1) = (n : Int) - 1 := by unfold wrap64; omega
  unfold ShEnd
  rw [hr, hu1]
  clear hD hne hn65 hw hx hA hl5 hleft hr hu1
  go_enter Tryz.func29, Tryz.ntmps29
  go_wp2_with (first
    | (go_at_call 64; refine HC.out.mono ?_; rintro e w1 ⟨rfl, hb1⟩; have HB1 := Lib.hid hb1; clear hb1)
    | (go_at_call 61; refine (HK.out w1 HB1.out).mono ?_; rintro e w2 ⟨A2, c2, rfl, hx2, hb2⟩; have HF2 : Hid (ShL W gd gu us n c2 0 A2 used n l r u1 w2) := Lib.hid ⟨hx2.more HB1.out.size, HD.out.below (HB1.out.trans (hb2.mono HB1.out.size)), grownBy_below_ (HB1.out.trans (hb2.mono HB1.out.size)), by rw [← HR.out.1, ← HLN.out]; rfl, HR.out.2, HLN.out⟩; clear hx2 hb2)
    | fail)
  go_loopw [9] (fun i W' => ∃ (k : Nat) (iv : Int) (used' : Nat) (l' : List Int), i = .int .i64 iv ∧ Hid (iv = (k : Int) - 1 ∧ k ≤ n ∧ ShL W gd gu us n c2 0 A2 used' k l' r u1 W')) (fun i _ => (intOf i).toNat)
  case atStart => exact ⟨n, _, used, l, rfl, Lib.hid ⟨by first | rfl | exact hwn, Nat.le_refl _, HF2.out⟩⟩
  case round =>
    obtain ⟨k, iv, used', l', rfl, HF⟩ := hrel
    clear HF2 HC HK
    by_cases hk : 0 < iv
    · obtain ⟨q, hq⟩ : ∃ q : Nat, iv = (q : Int) := ⟨iv.toNat, by omega⟩
      subst hq
      have hkq : k = q + 1 := by have := HF.out.1; omega
      subst hkq
      have hqn : q + 1 ≤ n := HF.out.2.1
      have hwq : wrap64 ((q : Int) + 1) = (q : Int) + 1 := by unfold wrap64; omega
      have hwq2 : wrap64 ((q : Int) - 1) = (q : Int) - 1 := by unfold wrap64; omega
      have hus : used' < us.length := by have h1 := HF.out.2.2.u; have h2 := HR.out.2; have h3 := HLE.out; omega
      obtain ⟨rj, hrj⟩ : ∃ x, ith us used' % ((q : Int) + 1) = x := ⟨_, rfl⟩
      have hj0 : 0 ≤ rj ∧ rj < (q : Int) + 1 := by rw [← hrj]; exact ⟨Int.emod_nonneg _ (by omega), Int.emod_lt_of_pos _ (by omega)⟩
      obtain ⟨j, rfl⟩ : ∃ j : Nat, rj = (j : Int) := ⟨rj.toNat, by omega⟩
      have HCH : Hid (Calls Tryz.prog 65 #[.pointer (some ⟨gd, 0, none⟩), .int .i64 ((q : Int) + 1)] wr fun e w' => e = .returned (.int .i64 (j : Int)) ∧ DwS w' gd gu us (used' + 1) ∧ wr.grownBy w' (some gd)) := Lib.hid (by
        have h := dchoose_any wr gd gu us used' ((q : Int) + 1) HF.out.2.2.D HNE.out hus HN65.out (by omega) (HW.out used' hus)
        rw [hrj] at h
        exact h)
      have HJ := Lib.hid hrj
      have HJL : Hid (j < q + 1 ∧ q + 1 ≤ n) := Lib.hid (by omega)
      clear hus hrj hj0 hqn
      obtain ⟨g, hg⟩ : ∃ g, A2 = some ⟨g, 0, none⟩ := by
        obtain ⟨g, e, _⟩ := HF.out.2.2.X.cell (j := 0) (u := .int .i64 (ith l' 0)) (by rw [ics, List.getElem?_map, ith_get (by have := HF.out.2.2.le; have := HJL.out; omega)]; rfl)
        exact ⟨g, e⟩
      subst hg
      go_wp2_with (first
        | (go_at_call 65; refine HCH.out.mono ?_; rintro e w3 ⟨rfl, hd3, hg3⟩; have hgl := HF.out.2.2.X.lt g rfl; have HF3 : Hid (XOwns w3 W.heap.size 3 1 (some ⟨g, 0, none⟩) n c2 (ics l') ∧ DwS w3 gd gu us (used' + 1) ∧ W.grownBy w3 (some gd)) := Lib.hid ⟨HF.out.2.2.X.grown hg3 (.inr (fun e => by have e' : g = gd := (by injection e); have := HD.out.D.lt; omega)), hd3, only_trans_ HF.out.2.2.G hg3⟩; clear hd3 hg3 hgl)
        | fail)
      refine sh_swap w3 W.heap.size g n c2 l' q j HF3.out.1 (by have := HJL.out; omega) (by have := HJL.out; omega) (by omega) _ _ _ _ _ _ _ _ _ _ _ _ _ _ _ _ _ _ _ _ _ _ _ _ _ _ _ _ _ _ _ _ _ _ _ _ _ _ _ _ _ _ _ _ _ _ _ _ _ ?_ ?_
      · exact fun d _ _ _ _ h => by cases d <;> exact h
      intro v36 v37 v38 v39 v40 v41 v42 v43 v44 v45 v46 v47 v48 v49 W9 h9
      have HF9 : Hid (ShL W gd gu us n c2 0 (some ⟨g, 0, none⟩) (used' + 1) q (swp l' q j) r u1 W9) := Lib.hid (by
        have hgl := HF3.out.1.lt g rfl
        have hdl := HD.out.D.lt
        have hul := HD.out.U.lt
        have hq1 : 1 ≤ q := by omega
        have he := HF.out.2.2.e
        obtain ⟨p, rfl⟩ : ∃ p, q = p + 1 := ⟨q - 1, by omega⟩
        refine ⟨h9.1, HF3.out.2.1.far h9.2 (by omega) (by omega), grow_far HF3.out.2.2 h9.2 hgl.1, ?_, by have := HF.out.2.2.u; omega, by rw [swp_len]; exact HF.out.2.2.le⟩
        rw [← he]
        show _ = shufL us (p + 1 + 1 - 1) used' l'
        rw [show p + 1 + 1 - 1 = p + 1 by omega, shufL, show p + 1 - 1 = p by omega]
        have hj := HJ.out
        rw [show (((p + 1 : Nat) : Int) + 1) = (p : Int) + 2 by omega] at hj
        rw [hj]
        rfl)
      clear h9
      go_wp2_with fail
      go_roundw
      case rel => exact ⟨q, (q : Int) - 1, used' + 1, swp l' q j, by first | rfl | rw [hwq2], Lib.hid ⟨rfl, by have := HJL.out; omega, HF9.out⟩⟩
      case measure => simp [intOf, hwq2]; omega
    · have hk0 : decide (0 < iv) = false := by simpa using hk
      go_wp2_with fail
      go_ret2
      have h := HF.out.2.2
      have hk1 : k - 1 = 0 := by have := HF.out.1; omega
      refine ⟨A2, c2, rfl, ?_, ?_, h.G⟩
      · have he := h.e
        rw [hk1] at he
        rw [← he]
        exact h.X
      · have hu := h.u
        rw [hk1] at hu
        rw [← hu]
        exact h.D
set_option maxHeartbeats 1600000 in
theorem shuffle_end (W : World) (gd gu : Nat) (us : List Int) (used : Nat) (hD : DwS W gd gu us used) (hu : used ≤ us.length) (hn65 : us.length ≤ 65536) (A : Option Addr) (n c : Nat) (hl5 : n ≤ 500) (hleft : us.length - used + 1 < n) :
    Calls Tryz.prog 29 #[.pointer (some ⟨gd, 0, none⟩), .slice A n c] W fun e w' => e = .returned (.tuple #[.slice none 0 0, .int .i64 16]) ∧ Below W.heap.size W w' := by
  have HC : Hid (Calls Tryz.prog 64 #[.pointer (some ⟨gd, 0, none⟩), .int .i64 ((n : Int) - 1), .int .i64 0] W fun e w' => e = .returned (.int .i64 16) ∧ Below W.heap.size W w') := Lib.hid ((dcheck_any W gd gu us used ((n : Int) - 1) 0 hD hu hn65).mono fun e w' h => ⟨by rw [h.1]; unfold chkS; rw [if_neg (by simp), if_pos (by omega)], h.2⟩)
  have h5 : (n : Int) ≤ 500 := by omega
  have hwn : wrap64 ((n : Int) - 1) = (n : Int) - 1 := by unfold wrap64; omega
  clear hD hu hn65 hl5 hleft
  go_enter Tryz.func29, Tryz.ntmps29
  go_wp2_with (first
    | (go_at_call 64; refine HC.out.mono ?_; rintro e w1 ⟨rfl, hb1⟩)
    | fail)
  go_ret2
  exact ⟨rfl, hb1⟩
end Go.Proofs.YtagpphelgghbpaaGreat
