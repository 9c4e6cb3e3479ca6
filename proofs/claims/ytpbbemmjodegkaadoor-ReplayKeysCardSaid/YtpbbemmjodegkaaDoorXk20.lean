/-
  Texts: Ks.
-/
import Derived.Test.YtpbbemmjodegkaaDoorXk19
set_option linter.unusedSimpArgs false
set_option linter.unusedVariables false
namespace Go.Proofs.YtpbbemmjodegkaaDoor
open Go.RowKit

set_option maxRecDepth 100000 in
set_option maxHeartbeats 6400000 in
theorem rkey_any (c0 c1 c2 c3 c4 c5 : Int) (A0 A1 A2 A3 : Option Addr) (x0 x1 x2 x3 : Nat) (l : List Cd) (ms : List CdM) (d1 d2 : List Int) (us : List Nat) (w : World)
    (h0 : CsR w ⟨A0, x0⟩ l ms) (h1 : Reads w 1 A1 d1.length (ics d1)) (o1 : A1 = none → x1 = 0) (h2 : Reads w 1 A2 d2.length (ics d2)) (o2 : A2 = none → x2 = 0) (h3 : NReads w A3 us.length us)
    (b0 : l.length ≤ 60) (b1 : d1.length ≤ 60) (b2 : d2.length ≤ 60) (b3 : us.length ≤ 100) (hwf : ∀ x ∈ keyL c0 c1 c2 c3 c4 c5 d1 d2, wf64 x) :
    Calls Tryd.prog 5 #[.agg #[.int .i64 c0, .int .i64 c1, .int .i64 c2, .int .i64 c3, .int .i64 c4, .int .i64 c5], .agg #[.slice A0 l.length x0, .slice A1 d1.length x1, .slice A2 d2.length x2, .slice A3 us.length x3]] w
      fun e w' => KeyEnd (keyL c0 c1 c2 c3 c4 c5 d1 d2) us l e ∧ Below w.heap.size w w' := by
  obtain ⟨n0, e0⟩ : ∃ n, l.length = n := ⟨_, rfl⟩
  obtain ⟨n1, e1⟩ : ∃ n, d1.length = n := ⟨_, rfl⟩
  obtain ⟨n2, e2⟩ : ∃ n, d2.length = n := ⟨_, rfl⟩
  obtain ⟨n3, e3⟩ : ∃ n, us.length = n := ⟨_, rfl⟩
  obtain ⟨L, hL⟩ : ∃ L, keyL c0 c1 c2 c3 c4 c5 d1 d2 = L := ⟨_, rfl⟩
  obtain ⟨L0, hL0⟩ : ∃ L0, [c0, c1, c2, c3, c4, c5] = L0 := ⟨_, rfl⟩
  have HLL : Hid (L = L0 ++ ((n1 : Int) :: d1) ++ ((n2 : Int) :: d2)) := Lib.hid (by rw [← hL, ← hL0, ← e1, ← e2]; rfl)
  obtain ⟨nN, hnN⟩ : ∃ x, 8 + n1 + n2 = x := ⟨_, rfl⟩
  have HLN : Hid (L.length = nN) := Lib.hid (by rw [HLL.out, ← hL0, ← hnN]; simp [e1, e2]; omega)
  have HNN := Lib.hid hnN
  rw [hL] at hwf ⊢
  obtain ⟨wa, ha⟩ : ∃ z, w.alloc (.cells #[.int .i64 c0, .int .i64 c1, .int .i64 c2, .int .i64 c3, .int .i64 c4, .int .i64 c5] 23) = z := ⟨_, rfl⟩
  obtain ⟨wb, hb⟩ : ∃ z, wa.alloc (.cells #[.slice A0 n0 x0, .slice A1 n1 x1, .slice A2 n2 x2, .slice A3 n3 x3] 29) = z := ⟨_, rfl⟩
  obtain ⟨wc, hc⟩ : ∃ z, wb.alloc (.cells #[.int .i64 c0, .int .i64 c1, .int .i64 c2, .int .i64 c3, .int .i64 c4, .int .i64 c5] 3) = z := ⟨_, rfl⟩
  have bA : Below w.heap.size w wa := ha ▸ (Below.refl _ _).alloc (Nat.le_refl _) _
  have bB : Below wa.heap.size wa wb := hb ▸ (Below.refl _ _).alloc (Nat.le_refl _) _
  have bC : Below wb.heap.size wb wc := hc ▸ (Below.refl _ _).alloc (Nat.le_refl _) _
  have kA : Blk wb w.heap.size 23 #[.int .i64 c0, .int .i64 c1, .int .i64 c2, .int .i64 c3, .int .i64 c4, .int .i64 c5] := Blk.call (ha ▸ Blk.mk_ _ _ _ _ rfl) bB
  have kS : Blk wb wa.heap.size 29 #[.slice A0 n0 x0, .slice A1 n1 x1, .slice A2 n2 x2, .slice A3 n3 x3] := hb ▸ Blk.mk_ _ _ _ _ rfl
  have kL : Blk wc wb.heap.size 3 #[.int .i64 c0, .int .i64 c1, .int .i64 c2, .int .i64 c3, .int .i64 c4, .int .i64 c5] := hc ▸ Blk.mk_ _ _ _ _ rfl
  have f0 : wb.cell? ⟨w.heap.size, 0, none⟩ = some (.int .i64 c0) := (kA.at_ 0).trans rfl
  have f1 : wb.cell? ⟨w.heap.size, 1, none⟩ = some (.int .i64 c1) := (kA.at_ 1).trans rfl
  have f2 : wb.cell? ⟨w.heap.size, 2, none⟩ = some (.int .i64 c2) := (kA.at_ 2).trans rfl
  have f3 : wb.cell? ⟨w.heap.size, 3, none⟩ = some (.int .i64 c3) := (kA.at_ 3).trans rfl
  have f4 : wb.cell? ⟨w.heap.size, 4, none⟩ = some (.int .i64 c4) := (kA.at_ 4).trans rfl
  have f5 : wb.cell? ⟨w.heap.size, 5, none⟩ = some (.int .i64 c5) := (kA.at_ 5).trans rfl
  have HW : Hid (∀ W, Below wb.heap.size wb W → Below w.heap.size w W) := Lib.hid fun W h => below_call (below_call bA bB bA.size) h (Nat.le_trans bA.size bB.size)
  have HS : Hid (∀ W, Below wb.heap.size wb W → Blk W wa.heap.size 29 #[.slice A0 n0 x0, .slice A1 n1 x1, .slice A2 n2 x2, .slice A3 n3 x3]) := Lib.hid fun W h => kS.below h kS.lt
  have HDL := Lib.hid ((kS.call bC).mid (o := 1) (ty := 26) [.slice A1 n1 x1, .slice A2 n2 x2] _ (fun j v hj => by rcases j with _ | _ | j <;> simp_all) Tryd.underlying26 rfl size_deck)
  have HX0 : Hid (XOwns wc wb.heap.size 3 1 (some ⟨wb.heap.size, 0, none⟩) 6 6 (ics L0)) := Lib.hid (by rw [← hL0]; exact XOwns.of_blk kL (Nat.le_refl _) rfl (by decide))
  have HR0 : Hid (∀ W, Below wb.heap.size wb W → CsR W ⟨A0, x0⟩ l ms) := Lib.hid fun W h => ((h0.below bA).below bB).below h
  have HR1 : Hid (∀ W, Below wb.heap.size wb W → Reads W 1 A1 n1 (ics d1)) := Lib.hid fun W h => e1 ▸ ((h1.below bA).below bB).below h
  have HR2 : Hid (∀ W, Below wb.heap.size wb W → Reads W 1 A2 n2 (ics d2)) := Lib.hid fun W h => e2 ▸ ((h2.below bA).below bB).below h
  have HR3 : Hid (∀ W, Below wb.heap.size wb W → NReads W A3 n3 us) := Lib.hid fun W h => e3 ▸ ⟨((h3.1.below bA).below bB).below h, h3.2⟩
  have H3L : Hid (0 < n3 → ∀ g, blkOf A3 = some g → g < wb.heap.size) := Lib.hid fun hn g hg => by
    have := h3.1.foot (by omega) g hg
    have := bA.size
    have := bB.size
    omega
  have HBC := Lib.hid bC
  have HO1 := Lib.hid o1
  have HO2 := Lib.hid o2
  have HE0 := Lib.hid e0
  have HE3 := Lib.hid e3
  have HWF := Lib.hid hwf
  have HU6 := Lib.hid h3.2
  rw [e0] at b0
  rw [e1] at b1
  rw [e2] at b2
  rw [e3] at b3
  rw [e0, e1, e2, e3]
  have b4 : nN ≤ 128 := by omega
  clear hnN h0 h1 h2 h3 o1 o2 e0 e1 e2 e3 hL hL0 bA bB bC kA kS kL hwf
  go_enter Tryd.func5, Tryd.ntmps5
  go_wp2_with (first | (refine wpList_load_by HDL.out rfl rfl rfl ?_; simp only [Act.put, List.setIfInBounds_toArray, List.set_cons_succ, List.set_cons_zero]) | fail)
  clear ha hb hc f0 f1 f2 f3 f4 f5
  go_loopw [6, 30] (fun v i W => ∃ (A : Option Addr) (c : Nat), ((i = .int .i64 0 ∧ v = .slice A 6 c ∧ Hid (XOwns W wb.heap.size 3 1 A 6 c (ics L0))) ∨ (i = .int .i64 1 ∧ v = .slice A (6 + 1 + n1) c ∧ Hid (XOwns W wb.heap.size 3 1 A (6 + 1 + n1) c (ics (L0 ++ ((n1 : Int) :: d1))))) ∨ (i = .int .i64 2 ∧ v = .slice A nN c ∧ Hid (XOwns W wb.heap.size 3 1 A nN c (ics L)))) ∧ Hid (Below wb.heap.size wb W)) (fun _ i _ => 2 - (intOf i).toNat)
  case atStart => exact ⟨_, _, .inl ⟨rfl, rfl, HX0⟩, HBC⟩
  case round =>
    clear HX0 HBC HDL
    obtain ⟨A, c, ⟨rfl, rfl, HX⟩ | ⟨rfl, rfl, HX⟩ | ⟨rfl, rfl, HX⟩, HB⟩ := hrel
    · have hix := dk_0 (.slice A1 n1 x1) (.slice A2 n2 x2) wr
      obtain ⟨w7, hw7⟩ : ∃ x, wr.alloc (.cells #[.int .i64 (n1 : Int)] 3) = x := ⟨_, rfl⟩
      have hb7 : Below wr.heap.size wr w7 := by rw [← hw7]; exact (Below.refl _ _).alloc (Nat.le_refl _) _
      have HK7 : Hid (Blk w7 wr.heap.size 3 #[.int .i64 (n1 : Int)]) := Lib.hid (by rw [← hw7]; exact Blk.mk_ _ _ _ _ rfl)
      have HX7 := Lib.hid (HX.out.below hb7)
      have HB7 := Lib.hid (below_call HB.out hb7 HB.out.size)
      clear hb7
      go_wp2_with (first
        | (at_builtin; refine append_xr (w := w7) rfl (.tmp 33) (.tmp 36) 25 rfl wb.heap.size 3 _ 1 8 tinfo_int Tryd.underlying25 rfl (by decide) A (6) c (ics (L0)) rfl HX7.out (some ⟨wr.heap.size, 0, none⟩) 1 1 (ics [(n1 : Int)]) rfl (fun h => by cases h) (reads_block HK7.out 1 1 rfl) (ics_one _) (by omega) (by omega) HB7.out.size ?_; intro A8 c8 w8 ho8 hb8; have HX8 := Lib.hid ho8; have HB8 := Lib.hid (HB7.out.trans hb8); have HZ8 := Lib.hid HB8.out.size; clear ho8 hb8)
        | (at_builtin; refine append_xr (w := w8) rfl (.tmp 37) (.tmp 38) 25 rfl wb.heap.size 3 _ 1 8 tinfo_int Tryd.underlying25 rfl (by decide) A8 (6 + 1) c8 (ics (L0) ++ ics [(n1 : Int)]) rfl HX8.out A1 n1 x1 (ics d1) rfl HO1.out (HR1.out _ HB8.out) (ics_one _) (by omega) (by omega) HZ8.out ?_; intro A9 c9 w9 ho9 hb9)
        | fail)
      have HX9 : Hid (XOwns w9 wb.heap.size 3 1 A9 (6 + 1 + n1) c9 (ics (L0 ++ ((n1 : Int) :: d1)))) := Lib.hid (by
        rw [show ics L0 ++ ics [(n1 : Int)] ++ ics d1 = ics (L0 ++ ((n1 : Int) :: d1)) by simp [ics]] at ho9
        exact ho9)
      have HB9 := Lib.hid (HB8.out.trans hb9)
      clear ho9 hb9 hw7 HK7
      go_wp2_with fail
      go_roundw
      case rel => exact ⟨A9, c9, .inr (.inl ⟨rfl, rfl, HX9⟩), HB9⟩
      case measure => simp [intOf]
    · have hix := dk_1 (.slice A1 n1 x1) (.slice A2 n2 x2) wr
      obtain ⟨w7, hw7⟩ : ∃ x, wr.alloc (.cells #[.int .i64 (n2 : Int)] 3) = x := ⟨_, rfl⟩
      have hb7 : Below wr.heap.size wr w7 := by rw [← hw7]; exact (Below.refl _ _).alloc (Nat.le_refl _) _
      have HK7 : Hid (Blk w7 wr.heap.size 3 #[.int .i64 (n2 : Int)]) := Lib.hid (by rw [← hw7]; exact Blk.mk_ _ _ _ _ rfl)
      have HX7 := Lib.hid (HX.out.below hb7)
      have HB7 := Lib.hid (below_call HB.out hb7 HB.out.size)
      clear hb7
      go_wp2_with (first
        | (at_builtin; refine append_xr (w := w7) rfl (.tmp 33) (.tmp 36) 25 rfl wb.heap.size 3 _ 1 8 tinfo_int Tryd.underlying25 rfl (by decide) A (6 + 1 + n1) c (ics (L0 ++ ((n1 : Int) :: d1))) rfl HX7.out (some ⟨wr.heap.size, 0, none⟩) 1 1 (ics [(n2 : Int)]) rfl (fun h => by cases h) (reads_block HK7.out 1 1 rfl) (ics_one _) (by omega) (by omega) HB7.out.size ?_; intro A8 c8 w8 ho8 hb8; have HX8 := Lib.hid ho8; have HB8 := Lib.hid (HB7.out.trans hb8); have HZ8 := Lib.hid HB8.out.size; clear ho8 hb8)
        | (at_builtin; refine append_xr (w := w8) rfl (.tmp 37) (.tmp 38) 25 rfl wb.heap.size 3 _ 1 8 tinfo_int Tryd.underlying25 rfl (by decide) A8 (6 + 1 + n1 + 1) c8 (ics (L0 ++ ((n1 : Int) :: d1)) ++ ics [(n2 : Int)]) rfl HX8.out A2 n2 x2 (ics d2) rfl HO2.out (HR2.out _ HB8.out) (ics_one _) (by omega) (by omega) HZ8.out ?_; intro A9 c9 w9 ho9 hb9)
        | fail)
      have HX9 : Hid (XOwns w9 wb.heap.size 3 1 A9 nN c9 (ics L)) := Lib.hid (by
        rw [show ics (L0 ++ ((n1 : Int) :: d1)) ++ ics [(n2 : Int)] ++ ics d2 = ics L by rw [HLL.out]; simp [ics], show 6 + 1 + n1 + 1 + n2 = nN by have := HNN.out; omega] at ho9
        exact ho9)
      have HB9 := Lib.hid (HB8.out.trans hb9)
      clear ho9 hb9 hw7 HK7
      go_wp2_with fail
      go_roundw
      case rel => exact ⟨A9, c9, .inr (.inr ⟨rfl, by have := HNN.out; congr 1; omega, HX9⟩), HB9⟩
      case measure => simp [intOf]
    · have hneg := any_neg A nN c L wr HX.out.reads (by omega)
      obtain ⟨dn, hdn⟩ : ∃ d, L.any ngS = d := ⟨_, rfl⟩
      rw [hdn] at hneg
      have HN := Lib.hid hneg
      have HDN := Lib.hid hdn
      clear hneg hdn
      go_wp2_with fail
      refine HN.out.mono ?_
      rintro e w1 ⟨rfl, rfl⟩
      cases dn with
      | true =>
        go_wp2_with fail
        (first | go_ret | go_ret2)
        exact ⟨.inl ⟨HDN.out, rfl⟩, HW.out _ HB.out⟩
      | false =>
        have hpn := pnew_any ⟨A0, x0⟩ l ms wr (HR0.out _ HB.out) (by rw [HE0.out]; omega)
        rw [Sl.v, HE0.out] at hpn
        have HP := Lib.hid hpn
        have cS0 : wr.cell? ⟨wa.heap.size, 0, none⟩ = some (.slice A0 n0 x0) := ((HS.out _ HB.out).at_ 0).trans rfl
        clear hpn HN
        go_wp2_with fail
        refine HP.out.mono ?_
        rintro e w2 hE
        clear cS0 HP
        rcases hE with ⟨hok, rfl, hb2⟩ | ⟨hok, hnd, rfl, hb2⟩ | ⟨hok, hnd, p, rfl, hPl, hb2⟩
        · have HB2 := Lib.hid (below_call HB.out hb2 HB.out.size)
          have HOK := Lib.hid hok
          clear hb2 hok
          go_wp2_with fail
          (first | go_ret | go_ret2)
          exact ⟨.inr (.inl ⟨HDN.out, HOK.out, rfl⟩), HW.out _ HB2.out⟩
        · have HB2 := Lib.hid (below_call HB.out hb2 HB.out.size)
          have HOK := Lib.hid hok
          have HND := Lib.hid hnd
          clear hb2 hok hnd
          go_wp2_with fail
          (first | go_ret | go_ret2)
          exact ⟨.inr (.inr (.inl ⟨HDN.out, HOK.out, HND.out, rfl⟩)), HW.out _ HB2.out⟩
        · have HB2 := Lib.hid (below_call HB.out hb2 HB.out.size)
          have HOK := Lib.hid hok
          have HND := Lib.hid hnd
          have HX2 := Lib.hid (HX.out.below hb2)
          have HLT : Hid (∀ g, blkOf A = some g → g < wr.heap.size) := Lib.hid fun g hg => (HX.out.lt g hg).2
          obtain ⟨w7, hw7⟩ : ∃ x, w2.alloc (.cells #[.int .i64 (n3 : Int)] 3) = x := ⟨_, rfl⟩
          have hb7 : Below w2.heap.size w2 w7 := by rw [← hw7]; exact (Below.refl _ _).alloc (Nat.le_refl _) _
          have cS3 : w2.cell? ⟨wa.heap.size, 3, none⟩ = some (.slice A3 n3 x3) := ((HS.out _ HB2.out).at_ 3).trans rfl
          have HK7 : Hid (Blk w7 w2.heap.size 3 #[.int .i64 (n3 : Int)]) := Lib.hid (by rw [← hw7]; exact Blk.mk_ _ _ _ _ rfl)
          have HX7 := Lib.hid (HX2.out.below hb7)
          have HB7 := Lib.hid (below_call HB2.out hb7 HB2.out.size)
          have HPL7 := Lib.hid (hPl.below hb7)
          obtain ⟨B6, hB6⟩ : ∃ b, wr.heap.size = b := ⟨_, rfl⟩
          rw [hB6] at HPL7 HLT
          clear hb2 hok hnd hPl hb7 HX HX2 HB2 HB hB6
          go_wp2_with (first
            | (at_builtin; refine append_x (w := w7) rfl (.tmp 52) (.tmp 56) 25 rfl wb.heap.size 3 _ 1 8 tinfo_int Tryd.underlying25 rfl (by decide) A nN c (ics L) rfl HX7.out (some ⟨w2.heap.size, 0, none⟩) 1 1 (ics [(n3 : Int)]) rfl (reads_block HK7.out 1 1 rfl) (ics_one _) (by decide) (by omega) (by omega) HB7.out.size _ rfl ?_; intro g57 c57 w57 ho57 hg57 hi57 hlt57)
            | fail)
          obtain ⟨LL, hLL⟩ : ∃ x, L ++ [(n3 : Int)] = x := ⟨_, rfl⟩
          rw [← ics_app, hLL] at ho57
          have HX57 := Lib.hid ho57
          have HLL := Lib.hid hLL
          have HLLN : Hid (LL.length = nN + 1) := Lib.hid (by rw [← hLL, List.length_append, HLN.out]; rfl)
          have HPL := Lib.hid (HPL7.out.farB hg57 HLT.out)
          have HB57 : Hid (Below wb.heap.size wb w57) := Lib.hid (HB7.out.grown hg57 HB7.out.size (fun g hg => (HX7.out.lt g hg).1))
          clear ho57 hLL hg57 hi57 hlt57 HPL7 HB7 HK7 HX7 HLT hw7 cS3
          go_loopw [11, 59] (fun b i W => ∃ (k : Nat) (A : Option Addr) (n c : Nat), k ≤ nN + 1 ∧ i = .int .i64 k ∧ b = .slice A n c ∧ Hid (n ≤ 10 * k) ∧ Hid (BOwns W w57.heap.size 5 A n c ((LL.take k).flatMap numI)) ∧ Hid (Below w57.heap.size w57 W)) (fun _ i _ => nN + 1 - (intOf i).toNat)
          case atStart => exact ⟨0, none, 0, 0, Nat.zero_le _, rfl, rfl, Lib.hid (by omega), Lib.hid (XOwns.b (XOwns.nil_ _ _ _ _) (fun x h => by cases h)), Lib.hid (Below.refl _ _)⟩
          case round =>
            obtain ⟨k, A5, n5, c5, hk, rfl, rfl, HN5, HO5, HB5⟩ := hrel
            by_cases hlt : k < nN + 1
            · have hlt' : (k : Int) < nN + 1 := by omega
              obtain ⟨x, hx⟩ := get_of (l := LL) (k := k) (by rw [HLLN.out]; exact hlt)
              obtain ⟨q, rfl, hq⟩ := num_of HDN.out HWF.out b3 (by rw [HLL.out]; exact hx)
              have hc7 : wr.cell? ⟨g57, k, none⟩ = some (.int .i64 (q : Int)) := by
                obtain ⟨g, e1, _, _, h2, _⟩ := (HX57.out.below HB5.out).cell (j := k) (u := .int .i64 (q : Int)) (by rw [ics, List.getElem?_map, hx]; rfl)
                injection e1 with e1
                injection e1 with e1
                subst e1
                exact h2
              have hqm : (q : Int) % 18446744073709551616 = q := by omega
              have HSN : Hid ((LL.take (k + 1)).flatMap numI = (LL.take k).flatMap numI ++ [q].flatMap numS) := Lib.hid (by rw [flat_snoc (f := numI) hx]; simp [numI])
              have HL10 : Hid (([q].flatMap numS).length ≤ 10) := Lib.hid (by have := numS_len10 (show q < 2 ^ 64 by omega); simpa using this)
              obtain ⟨wl, hwl⟩ : ∃ x, wr.alloc (.cells #[.int .u64 (q : Int)] 37) = x := ⟨_, rfl⟩
              have hbl : Below wr.heap.size wr wl := by rw [← hwl]; exact (Below.refl _ _).alloc (Nat.le_refl _) _
              have hkl : Blk wl wr.heap.size 37 #[.int .u64 (q : Int)] := by rw [← hwl]; exact Blk.mk_ _ _ _ _ rfl
              have hzl : wl.heap.size = wr.heap.size + 1 := by rw [← hwl]; simp
              have HBL := Lib.hid (below_call HB5.out hbl HB5.out.size)
              have hput := put_any w57.heap.size A5 n5 c5 _ (some ⟨wr.heap.size, 0, none⟩) 1 1 [q] wl (HO5.out.below hbl) ⟨reads_block hkl 1 1 rfl, fun x hx => by rw [List.mem_singleton] at hx; omega⟩ (fun _ => ⟨fun e => by have := own_lt HO5.out wr.heap.size e.symm; omega, fun g hg => by have : wr.heap.size = g := (by simpa [blkOf] using hg); omega⟩) (by have := HN5.out; omega) (by have := HB5.out.size; omega)
              have HPT := Lib.hid hput
              have HOB := Lib.hid (own_blk HO5.out)
              have HLO := Lib.hid HO5.out.length
              clear hx hbl hkl hzl hput HO5 HB5
              go_wp2_with fail
              refine HPT.out.mono ?_
              rintro e w8 ⟨A8, n8, c8, rfl, ho8, hg8, hs8⟩
              have HO8 : Hid (BOwns w8 w57.heap.size 5 A8 n8 c8 ((LL.take (k + 1)).flatMap numI)) := Lib.hid (by rw [HSN.out]; exact ho8)
              have HN8 : Hid (n8 ≤ 10 * (k + 1)) := Lib.hid (by
                have h1 := ho8.length
                rw [List.length_append, HLO.out] at h1
                have := HN5.out
                have := HL10.out
                omega)
              have HB8 : Hid (Below w57.heap.size w57 w8) := Lib.hid (HBL.out.grown hg8 HBL.out.size (fun g hg => HOB.out g hg))
              clear ho8 hg8 hs8 hwl hc7 HPT
              go_wp2_with fail
              go_roundw
              case rel => exact ⟨k + 1, A8, n8, c8, hlt, by go_num, rfl, HN8, HO8, HB8⟩
              case measure => simp [intOf]; omega
            · obtain rfl : k = nN + 1 := by omega
              have HO5' : Hid (BOwns wr w57.heap.size 5 A5 n5 c5 (LL.flatMap numI)) := Lib.hid (by
                have h := HO5.out
                rw [List.take_of_length_le (by rw [HLLN.out]; exact Nat.le_refl _)] at h
                exact h)
              have HPE := Lib.hid (penc_any B6 p l wr (HPL.out.below HB5.out) HOK.out (by rw [HE0.out]; omega))
              have HBW := Lib.hid (below_call HB57.out HB5.out HB57.out.size)
              obtain ⟨B9, hB9⟩ : ∃ b, wr.heap.size = b := ⟨_, rfl⟩
              have HAL : Hid (∀ g, blkOf A5 = some g → g < B9) := Lib.hid (hB9 ▸ own_lt HO5.out)
              have HZ9 : Hid (w57.heap.size ≤ B9) := Lib.hid (hB9 ▸ HB5.out.size)
              clear HO5 hk
              go_wp2_with fail
              refine HPE.out.mono ?_
              rintro e w8 ⟨A8, n8, k8, rfl, ho8, hb8⟩
              rw [hB9] at ho8
              have cS3 : w8.cell? ⟨wa.heap.size, 3, none⟩ = some (.slice A3 n3 x3) := ((HS.out _ (below_call HBW.out hb8 HBW.out.size)).at_ 3).trans rfl
              have hput := put_any w57.heap.size A5 n5 c5 _ A3 n3 x3 us w8 (HO5'.out.below hb8) (HR3.out _ (below_call HBW.out hb8 HBW.out.size)) (fun h0 => ⟨fun e => by
                obtain ⟨ad, e1, hbl, _⟩ := (HR3.out _ HBW.out).1.2 h0
                have h1 := H3L.out h0 ad.block (by rw [e1]; rfl)
                have h2 := own_blk HO5'.out ad.block (by rw [← e, e1]; rfl)
                have := HB57.out.size
                omega, fun g hg => by
                have := H3L.out h0 g hg
                have := HBW.out.size
                have := hb8.size
                omega⟩) (by have := HN5.out; omega) (Nat.le_trans HZ9.out (hB9 ▸ hb8.size))
              have HPT := Lib.hid hput
              have HO8 := Lib.hid ho8
              have HB8 := Lib.hid (below_call HBW.out hb8 HBW.out.size)
              have HZ8 : Hid (w57.heap.size ≤ w8.heap.size) := Lib.hid (Nat.le_trans HZ9.out (hB9 ▸ hb8.size))
              clear hput ho8 hb8
              go_wp2_with fail
              refine HPT.out.mono ?_
              rintro e w9 ⟨A9, n9, c9, rfl, ho9, hg9, hs9⟩
              have HR8 : Hid (BReads w9 A8 n8 (encP l)) := Lib.hid ⟨(HO8.out.x.farB hg9 HAL.out).reads, HO8.out.2.1⟩
              have HN9 : Hid (n8 ≤ 20000) := Lib.hid (by have := HO8.out.length; have := encP_le HOK.out (by rw [HE0.out]; exact b0); omega)
              have HN10 : Hid (n9 ≤ 10 * (nN + 1) + 10 * n3) := Lib.hid (by
                have h1 := ho9.length
                rw [List.length_append, HO5'.out.length] at h1
                have := nums_le HU6.out
                rw [HE3.out] at this
                have := HN5.out
                omega)
              have HB9 : Hid (Below wb.heap.size wb w9) := Lib.hid (HB8.out.grown hg9 HB8.out.size (fun g hg => Nat.le_trans HB57.out.size (own_blk HO5'.out g hg)))
              have HO9 := Lib.hid ho9
              have HZ9' : Hid (w57.heap.size ≤ w9.heap.size) := Lib.hid (Nat.le_trans HZ8.out hg9.size)
              clear ho9 hg9 hs9
              go_wp2_with (first
                | (at_builtin; (refine append_bytes _ rfl (.tmp 80) (.tmp 81) 35 rfl w57.heap.size 5 Tryd.info5 Tryd.underlying35 A9 n9 c9 _ rfl HO9.out A8 n8 k8 _ rfl HO8.out.2.2 HR8.out (by have := HN9.out; have := HN10.out; omega) HZ9'.out ?_); intro A4 c4 w4 ho4 hb4)
                | fail)
              refine (psum_any A4 (n9 + n8) c4 _ w4 ho4.reads (by have := HN9.out; have := HN10.out; omega)).mono ?_
              rintro e w11 ⟨rfl, rfl⟩
              have HBE : Hid (Below wb.heap.size wb w4) := Lib.hid (HB9.out.trans (hb4.mono HB57.out.size))
              clear ho4 hb4
              go_wp2_with fail
              (first | go_ret | go_ret2)
              exact ⟨.inr (.inr (.inr ⟨HDN.out, HOK.out, HND.out, by unfold keyB; rw [HE3.out, HLL.out, List.append_assoc]; rfl⟩)), HW.out _ HBE.out⟩
end Go.Proofs.YtpbbemmjodegkaaDoor
