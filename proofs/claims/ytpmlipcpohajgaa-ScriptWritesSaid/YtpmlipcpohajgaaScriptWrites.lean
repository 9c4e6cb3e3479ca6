/-
  ScriptWrites: for all operations the statement ScriptWrites answers true; no condition.
-/
import Derived.Test.YtpmlipcpohajgaaKnown
import Derived.Test.YtpmlipcpohajgaaOpen
import Derived.Test.YtpmlipcpohajgaaOpenOps
import Derived.ProofKit
import Derived.OpenShut
import Derived.ShutString
import Derived.ChangeOld
import Derived.Below
import Derived.Lib.SmallJoins
set_option linter.unusedSimpArgs false
set_option linter.unusedVariables false
namespace Go.Proofs.Ytpmlipcpohajgaa.scriptWrites
open Go.Joins Go.ChangeShapes Go.WideShapes Go.ChangeAt Go.RowKit
open Go.ChangeMaps (open_string shut_string)


theorem _root_.Go.Proofs.Ytpmlipcpohajgaa.OReads.block_lt {w : World} {A : Option Addr} {n : Nat} {l : List OpV} (h : OReads w A n l) (hn : 0 < n) : ∀ ad, A = some ad → ad.block < w.heap.size := by
  obtain ⟨cs, h1, _, _⟩ := h
  obtain ⟨ad', e, hb, _⟩ := h1.2 hn
  intro ad e'
  rw [e] at e'
  injection e' with e'
  exact e' ▸ hb

set_option maxHeartbeats 1600000 in
theorem walk_main (A : Option Addr) (n cap : Nat) (l : List OpV) (w : World) (hx : OReads w A n l) (hn : n ≤ 60) :
    Calls Try.prog 4 #[.slice A n cap] w fun e w' => e = .returned (.bool true) ∧ Below w.heap.size w w' := by
  have hl := hx.length
  have HX : Hid (∀ W, Below w.heap.size w W → OReads W A n l) := fun W h => hx.below h
  have HL := Lib.hid hl
  clear hx hl
  have hn' : (n : Int) ≤ 60 := by omega
  go_enter Try.func4, Try.ntmps4
  go_wp2
  go_loopw [4, 5] (fun a i W => ∃ (k : Nat) (b : Bool), k ≤ n ∧ i = .int .i64 k ∧ a = .bool b ∧ Hid ((l.take k).all rvalid = b) ∧ Hid (∀ o ∈ l.take k, o.d.length ≤ 300) ∧ Below w.heap.size w W) (fun _ i _ => n - (intOf i).toNat)
  case atStart => exact ⟨0, true, Nat.zero_le _, rfl, rfl, Lib.hid (by simp), Lib.hid (fun o h => by simp at h), Below.refl _ _⟩
  case round =>
    obtain ⟨k, b, hk, rfl, rfl, HV, HD, hB⟩ := hrel
    have hz := hB.size
    by_cases hlt : k < n
    · obtain ⟨ad, v, D, dc, rfl, hv, c0, c1, c2, c3, c4, hd, hdn⟩ := (HX.out _ hB).at_ hlt
      have hlt' : (k : Int) < n := by omega
      have p1 := cell_part 0 c1
      have p2 := cell_part 1 c2
      have p3 := cell_part 2 c3
      have p4 := cell_part 3 c4
      have hadb : (ad.add (k * 5)).block < wr.heap.size := by
        rw [block_of_add]
        exact (HX.out _ hB).block_lt (by omega) ad rfl
      have HDR : Hid (∀ W, Below wr.heap.size wr W → BReads W D v.d.length v.d) := fun W h => hd.below h
      have HDN := Lib.hid hdn
      have HVK := Lib.hid hv
      clear c1 c2 c3 c4 hd hdn hv
      by_cases hlen : (300 : Int) < v.d.length
      · go_wp2_with (first
          | (go_at_call 6; refine (known_any _).mono ?_; rintro e w9 ⟨rfl, hb9⟩)
          | fail)
        go_ret
        exact ⟨rfl, below_call hB hb9 hz⟩
      · have hvd1 : v.d.length ≤ 100000 := by omega
        have HDS : Hid (∀ o ∈ l.take (k + 1), o.d.length ≤ 300) := Lib.hid (fun o h => by
          obtain ⟨hkl, hvk⟩ := List.getElem?_eq_some_iff.1 HVK.out
          rw [List.take_succ_eq_append_getElem hkl, List.mem_append, List.mem_singleton] at h
          rcases h with h | h
          · exact HD.out o h
          · rw [h, hvk]; omega)
        have HVS : Hid ((l.take (k + 1)).all rvalid = (b && rvalid v)) := Lib.hid (by
          obtain ⟨hkl, hvk⟩ := List.getElem?_eq_some_iff.1 HVK.out
          rw [List.take_succ_eq_append_getElem hkl, List.all_append, HV.out, hvk]
          simp)
        cases hq : rvalid v with
        | true =>
          have HQ := Lib.hid hq
          clear hq
          cases b with
          | true =>
            go_wp2_with (first
              | (go_at_call 10; refine (rvalid_any v D dc _ (HDR.out _ (by (focus (repeat' (first | (with_reducible exact Below.refl _ _) | (with_reducible assumption) | (with_reducible refine Below.alloc ?_ ?_ _) | (with_reducible refine below_drewN ?_ _) | (with_reducible refine Below.drew ?_) | (with_reducible refine Below.setCell ?_ ?_ _) | omega | (simp; done) | (simp; omega)))))) HDN.out hvd1).mono ?_; rintro e w1 ⟨rfl, hb1⟩; rw [HQ.out]; have hB1 : Below wr.heap.size wr w1 := Below.trans (by (focus (repeat' (first | (with_reducible exact Below.refl _ _) | (with_reducible assumption) | (with_reducible refine Below.alloc ?_ ?_ _) | (with_reducible refine below_drewN ?_ _) | (with_reducible refine Below.drew ?_) | (with_reducible refine Below.setCell ?_ ?_ _) | omega | (simp; done) | (simp; omega))))) (hb1.mono (by (focus (first | omega | (simp only [World.size_alloc]; done) | (simp only [World.size_alloc]; omega) | (simp; done) | (simp; omega))))); have m0 := (hB1.cell (p := ad.add (k * 5)) hadb).trans c0; have m1 := (hB1.cell (p := ⟨(ad.add (k * 5)).block, (ad.add (k * 5)).off + (0 + 1), none⟩) hadb).trans p1; have m2 := (hB1.cell (p := ⟨(ad.add (k * 5)).block, (ad.add (k * 5)).off + (1 + 1), none⟩) hadb).trans p2; have m3 := (hB1.cell (p := ⟨(ad.add (k * 5)).block, (ad.add (k * 5)).off + (2 + 1), none⟩) hadb).trans p3; have m4 := (hB1.cell (p := ⟨(ad.add (k * 5)).block, (ad.add (k * 5)).off + (3 + 1), none⟩) hadb).trans p4)
              | (go_at_call 11; refine (valid_any v D dc _ (HDR.out _ hB1) HDN.out hvd1).mono ?_; rintro e w2 ⟨rfl, hb2⟩; rw [HQ.out]; have hB2 : Below w.heap.size w w2 := (hB.trans (hB1.mono (by omega))).trans (hb2.mono (by have := hB1.size; omega)))
              | fail)
            go_roundw
            case rel => exact ⟨k + 1, true, by omega, by go_num, rfl, Lib.hid (by rw [HVS.out, HQ.out]; rfl), HDS, hB2⟩
            case measure => simp [intOf]; omega
          | false =>
            go_wp2_with (first
              | (go_at_call 10; refine (rvalid_any v D dc _ (HDR.out _ (by (focus (repeat' (first | (with_reducible exact Below.refl _ _) | (with_reducible assumption) | (with_reducible refine Below.alloc ?_ ?_ _) | (with_reducible refine below_drewN ?_ _) | (with_reducible refine Below.drew ?_) | (with_reducible refine Below.setCell ?_ ?_ _) | omega | (simp; done) | (simp; omega)))))) HDN.out hvd1).mono ?_; rintro e w1 ⟨rfl, hb1⟩; rw [HQ.out]; have hB1 : Below wr.heap.size wr w1 := Below.trans (by (focus (repeat' (first | (with_reducible exact Below.refl _ _) | (with_reducible assumption) | (with_reducible refine Below.alloc ?_ ?_ _) | (with_reducible refine below_drewN ?_ _) | (with_reducible refine Below.drew ?_) | (with_reducible refine Below.setCell ?_ ?_ _) | omega | (simp; done) | (simp; omega))))) (hb1.mono (by (focus (first | omega | (simp only [World.size_alloc]; done) | (simp only [World.size_alloc]; omega) | (simp; done) | (simp; omega))))); have m0 := (hB1.cell (p := ad.add (k * 5)) hadb).trans c0; have m1 := (hB1.cell (p := ⟨(ad.add (k * 5)).block, (ad.add (k * 5)).off + (0 + 1), none⟩) hadb).trans p1; have m2 := (hB1.cell (p := ⟨(ad.add (k * 5)).block, (ad.add (k * 5)).off + (1 + 1), none⟩) hadb).trans p2; have m3 := (hB1.cell (p := ⟨(ad.add (k * 5)).block, (ad.add (k * 5)).off + (2 + 1), none⟩) hadb).trans p3; have m4 := (hB1.cell (p := ⟨(ad.add (k * 5)).block, (ad.add (k * 5)).off + (3 + 1), none⟩) hadb).trans p4)
              | (go_at_call 11; refine (valid_any v D dc _ (HDR.out _ hB1) HDN.out hvd1).mono ?_; rintro e w2 ⟨rfl, hb2⟩; rw [HQ.out]; have hB2 : Below w.heap.size w w2 := (hB.trans (hB1.mono (by omega))).trans (hb2.mono (by have := hB1.size; omega)))
              | fail)
            go_roundw
            case rel => exact ⟨k + 1, false, by omega, by go_num, rfl, Lib.hid (by rw [HVS.out, HQ.out]; rfl), HDS, hB2⟩
            case measure => simp [intOf]; omega
        | false =>
          have HQ := Lib.hid hq
          clear hq
          cases b with
          | true =>
            go_wp2_with (first
              | (go_at_call 10; refine (rvalid_any v D dc _ (HDR.out _ (by (focus (repeat' (first | (with_reducible exact Below.refl _ _) | (with_reducible assumption) | (with_reducible refine Below.alloc ?_ ?_ _) | (with_reducible refine below_drewN ?_ _) | (with_reducible refine Below.drew ?_) | (with_reducible refine Below.setCell ?_ ?_ _) | omega | (simp; done) | (simp; omega)))))) HDN.out hvd1).mono ?_; rintro e w1 ⟨rfl, hb1⟩; rw [HQ.out]; have hB1 : Below wr.heap.size wr w1 := Below.trans (by (focus (repeat' (first | (with_reducible exact Below.refl _ _) | (with_reducible assumption) | (with_reducible refine Below.alloc ?_ ?_ _) | (with_reducible refine below_drewN ?_ _) | (with_reducible refine Below.drew ?_) | (with_reducible refine Below.setCell ?_ ?_ _) | omega | (simp; done) | (simp; omega))))) (hb1.mono (by (focus (first | omega | (simp only [World.size_alloc]; done) | (simp only [World.size_alloc]; omega) | (simp; done) | (simp; omega))))); have m0 := (hB1.cell (p := ad.add (k * 5)) hadb).trans c0; have m1 := (hB1.cell (p := ⟨(ad.add (k * 5)).block, (ad.add (k * 5)).off + (0 + 1), none⟩) hadb).trans p1; have m2 := (hB1.cell (p := ⟨(ad.add (k * 5)).block, (ad.add (k * 5)).off + (1 + 1), none⟩) hadb).trans p2; have m3 := (hB1.cell (p := ⟨(ad.add (k * 5)).block, (ad.add (k * 5)).off + (2 + 1), none⟩) hadb).trans p3; have m4 := (hB1.cell (p := ⟨(ad.add (k * 5)).block, (ad.add (k * 5)).off + (3 + 1), none⟩) hadb).trans p4)
              | (go_at_call 11; refine (valid_any v D dc _ (HDR.out _ hB1) HDN.out hvd1).mono ?_; rintro e w2 ⟨rfl, hb2⟩; rw [HQ.out]; have hB2 : Below w.heap.size w w2 := (hB.trans (hB1.mono (by omega))).trans (hb2.mono (by have := hB1.size; omega)))
              | fail)
            go_roundw
            case rel => exact ⟨k + 1, false, by omega, by go_num, rfl, Lib.hid (by rw [HVS.out, HQ.out]; rfl), HDS, hB2⟩
            case measure => simp [intOf]; omega
          | false =>
            go_wp2_with (first
              | (go_at_call 10; refine (rvalid_any v D dc _ (HDR.out _ (by (focus (repeat' (first | (with_reducible exact Below.refl _ _) | (with_reducible assumption) | (with_reducible refine Below.alloc ?_ ?_ _) | (with_reducible refine below_drewN ?_ _) | (with_reducible refine Below.drew ?_) | (with_reducible refine Below.setCell ?_ ?_ _) | omega | (simp; done) | (simp; omega)))))) HDN.out hvd1).mono ?_; rintro e w1 ⟨rfl, hb1⟩; rw [HQ.out]; have hB1 : Below wr.heap.size wr w1 := Below.trans (by (focus (repeat' (first | (with_reducible exact Below.refl _ _) | (with_reducible assumption) | (with_reducible refine Below.alloc ?_ ?_ _) | (with_reducible refine below_drewN ?_ _) | (with_reducible refine Below.drew ?_) | (with_reducible refine Below.setCell ?_ ?_ _) | omega | (simp; done) | (simp; omega))))) (hb1.mono (by (focus (first | omega | (simp only [World.size_alloc]; done) | (simp only [World.size_alloc]; omega) | (simp; done) | (simp; omega))))); have m0 := (hB1.cell (p := ad.add (k * 5)) hadb).trans c0; have m1 := (hB1.cell (p := ⟨(ad.add (k * 5)).block, (ad.add (k * 5)).off + (0 + 1), none⟩) hadb).trans p1; have m2 := (hB1.cell (p := ⟨(ad.add (k * 5)).block, (ad.add (k * 5)).off + (1 + 1), none⟩) hadb).trans p2; have m3 := (hB1.cell (p := ⟨(ad.add (k * 5)).block, (ad.add (k * 5)).off + (2 + 1), none⟩) hadb).trans p3; have m4 := (hB1.cell (p := ⟨(ad.add (k * 5)).block, (ad.add (k * 5)).off + (3 + 1), none⟩) hadb).trans p4)
              | (go_at_call 11; refine (valid_any v D dc _ (HDR.out _ hB1) HDN.out hvd1).mono ?_; rintro e w2 ⟨rfl, hb2⟩; rw [HQ.out]; have hB2 : Below w.heap.size w w2 := (hB.trans (hB1.mono (by omega))).trans (hb2.mono (by have := hB1.size; omega)))
              | fail)
            go_roundw
            case rel => exact ⟨k + 1, false, by omega, by go_num, rfl, Lib.hid (by rw [HVS.out, HQ.out]; rfl), HDS, hB2⟩
            case measure => simp [intOf]; omega
    · obtain rfl : k = n := by omega
      have hta : l.take k = l := List.take_of_length_le (by rw [HL.out]; exact Nat.le_refl _)
      have HALL : Hid (l.all rvalid = b) := Lib.hid (by have := HV.out; rwa [hta] at this)
      have HDA : Hid (∀ o ∈ l, o.d.length ≤ 300) := Lib.hid (by have := HD.out; rwa [hta] at this)
      have HOA : Hid (∀ W, Below wr.heap.size wr W → OReads W A k l) := fun W h => HX.out W (below_call hB h hz)
      clear hta
      cases b with
      | false =>
        have HW : Hid (writesB l [] 2 = true) := Lib.hid (by unfold writesB; rw [if_pos HALL.out]; rfl)
        go_wp2_with (first
          | (go_at_call 12; refine (writes_any A none k cap 0 0 [] 2 l _ (HOA.out _ (Below.refl _ _)) (by omega) HDA.out (breads_zero _ _)).mono ?_; rintro e w1 ⟨rfl, hb1⟩; rw [HW.out])
          | (go_at_call 6; refine (known_any _).mono ?_; rintro e w9 ⟨rfl, hb9⟩)
          | fail)
        go_ret
        exact ⟨rfl, below_call (below_call hB hb1 hz) hb9 (by have := hb1.size; omega)⟩
      | true =>
        have HVA : Hid (∀ o ∈ l, rvalid o = true) := Lib.hid (List.all_eq_true.1 HALL.out)
        generalize wr = w0 at *
        go_wp2
        go_loopw [3, 7] (fun v i W => ∃ (j : Nat) (B : Option Addr) (c : Nat), j ≤ k ∧ i = .int .i64 j ∧ v = .slice B (wrS (l.take j)).length c ∧ BOwns W w0.heap.size 5 B (wrS (l.take j)).length c (wrS (l.take j)) ∧ (wrS (l.take j)).length ≤ 303 * j ∧ Below w0.heap.size w0 W) (fun _ i _ => k - (intOf i).toNat)
        case atStart => exact ⟨0, none, 0, Nat.zero_le _, rfl, rfl, BOwns.nil _ _ _, by simp [wrS], Below.refl _ _⟩
        case round =>
          obtain ⟨j, B, c, hj, rfl, rfl, ho, hlen, hB0⟩ := hrel
          have hz0 := hB0.size
          by_cases hlt : j < k
          · obtain ⟨ad, v, D, dc, rfl, hv, c0, c1, c2, c3, c4, hd, hdn⟩ := (HOA.out _ hB0).at_ hlt
            have hlt' : (j : Int) < k := by omega
            have p1 := cell_part 0 c1
            have p2 := cell_part 1 c2
            have p3 := cell_part 2 c3
            have p4 := cell_part 3 c4
            have hvm : v ∈ l := List.mem_of_getElem? hv
            have hvd := HDA.out v hvm
            have hvd1 : v.d.length ≤ 100000 := by omega
            have hvn := rvalid_n (HVA.out v hvm)
            have hrl := rbytes_length v
            have HSN := Lib.hid (wrS_snoc l j v hv)
            have HDR : Hid (∀ W, Below wr.heap.size wr W → BReads W D v.d.length v.d) := fun W h => hd.below h
            have HDN := Lib.hid hdn
            have HOW : Hid (∀ W, Below wr.heap.size wr W → BOwns W w0.heap.size 5 B (wrS (l.take j)).length c (wrS (l.take j))) := fun W h => ho.below h
            clear c1 c2 c3 c4 hd hdn hv hvm ho
            generalize wrS (l.take j) = ws at *
            go_wp2_with (first
              | (go_at_call 13; refine (rbytes_any v D dc _ (HDR.out _ (Below.refl _ _)) HDN.out hvd1 hvn).mono ?_; rintro e w1 ⟨A1, n1, c1, rfl, ho1, hb1⟩; have hl1 := ho1.length; subst hl1; have hR1 := ho1.reads; have hA1 := ho1.2.2; have hO1 := HOW.out w1 hb1; have hB1 : Below w0.heap.size w0 w1 := below_call hB0 hb1 hz0; clear ho1)
              | (at_builtin; refine append_bytes _ rfl (.tmp 55) (.tmp 60) 22 rfl w0.heap.size 5 Try.info5 Try.underlying22 B ws.length c ws rfl hO1 A1 (rbytes v).length c1 (rbytes v) rfl hA1 hR1 ?_ ?_ ?_; omega; exact hB1.size; intro A2 c2 w2 ho2 hb2; rw [← List.length_append, ← HSN.out] at ho2)
              | fail)
            go_roundw
            case rel =>
              rw [← List.length_append, ← HSN.out]
              exact ⟨j + 1, A2, c2, by omega, by go_num, rfl, ho2, by rw [HSN.out, List.length_append]; omega, hB1.trans hb2⟩
            case measure => simp [intOf]; omega
          · obtain rfl : j = k := by omega
            have hta : l.take j = l := List.take_of_length_le (by rw [HL.out]; exact Nat.le_refl _)
            rw [hta] at ho hlen
            have HTA := Lib.hid hta
            clear hta
            have HO := Lib.hid (HOA.out _ hB0)
            have hBw : Below w.heap.size w wr := below_call hB hB0 hz
            have HR : Hid (BReads wr B (wrS l).length (wrS l)) := Lib.hid ho.reads
            clear ho
            rw [HTA.out]
            by_cases hbig : (4096 : Int) < (wrS l).length
            · have HW : Hid (writesB l [] 5 = true) := Lib.hid (by unfold writesB; rw [if_neg (by rw [HALL.out]; decide), if_pos (by omega)]; rfl)
              go_wp2_with (first
                | (go_at_call 12; refine (writes_any A none j cap 0 0 [] 5 l _ HO.out (by omega) HDA.out (breads_zero _ _)).mono ?_; rintro e w1 ⟨rfl, hb1⟩; rw [HW.out])
                | (go_at_call 6; refine (known_any _).mono ?_; rintro e w9 ⟨rfl, hb9⟩)
                | fail)
              go_ret
              exact ⟨rfl, below_call (below_call hBw hb1 (by have := hBw.size; omega)) hb9 (by have := hBw.size; have := hb1.size; omega)⟩
            · have HW : Hid (writesB l (wrS l) 0 = true) := Lib.hid (by unfold writesB; rw [if_neg (by rw [HALL.out]; decide), if_neg (by omega)]; simp)
              go_wp2_with (first
                | (go_at_call 12; refine (writes_any A B j cap _ c (wrS l) 0 l _ HO.out (by omega) HDA.out HR.out).mono ?_; rintro e w1 ⟨rfl, hb1⟩; rw [HW.out])
                | (go_at_call 6; refine (known_any _).mono ?_; rintro e w9 ⟨rfl, hb9⟩)
                | fail)
              go_ret
              exact ⟨rfl, below_call (below_call hBw hb1 (by have := hBw.size; omega)) hb9 (by have := hBw.size; have := hb1.size; omega)⟩

theorem walk (A : Option Addr) (n cap : Nat) (l : List OpV) (w : World) (hx : OReads w A n l) :
    Calls Try.prog 4 #[.slice A n cap] w fun e w' => e = .returned (.bool true) ∧ Below w.heap.size w w' := by
  by_cases hn : n ≤ 60
  · exact walk_main A n cap l w hx hn
  · clear hx
    have hn' : (60 : Int) < n := by omega
    go_enter Try.func4, Try.ntmps4
    go_wp2_with (first
      | (go_at_call 6; refine (known_any _).mono ?_; rintro e w9 ⟨rfl, hb9⟩)
      | fail)
    go_ret
    exact ⟨rfl, hb9⟩

theorem own : ownKnob Try.prog.godebug = none := by kernel_rfl
theorem laidOut : laidOutB Try.prog = true := by kernel_rfl

set_option maxRecDepth 100000 in
theorem lifted (os : Os) (started : os.Started) (H : Type) (enc : TypeId × Value → H) :
    ReturnsInHanded {} Try.checked os 4 .any (Rows.scriptWritesSpec.pre6 enc Try.prog Try.f4 Rows.scriptWritesRow.domain false) (Rows.scriptWritesSpec.post enc Try.prog Try.f4 false true false false) := by
  refine returnsInHanded_of_change (C := Try.checked) own started (by kernel_rfl) Try.func4
    (ChangeSpec.witness6 (enc := enc) (C := Try.checked) false ⟨#[], #[.slice none 0 0], []⟩ 8 (by kernel_rfl) (by kernel_rfl) (by kernel_rfl) (by kernel_rfl)) ?_
  intro W base args ds gs before hval0 hW hcnd _
  have hval : ∀ (j : Nat) t v, Try.f4.params[j]? = some t → args[j]? = some v → Value.okWide Try.prog W .any base t v := hval0
  have hW' := hW
  obtain ⟨p, q, hA0, hV, rfl, hfz, hnd⟩ := hW
  have hA : DataW.TrodAll enc Try.prog W 0 (fun _ => true) true Try.f4.params.toList args.toList ds p := hA0
  rw [Try.params4] at hA hval
  obtain ⟨v0, vs0, d0, ds0, p0, q0, hargs, rfl, rfl, h0, r0⟩ := trodAll_cons hA
  obtain ⟨rfl, rfl, rfl⟩ := trodAll_nil r0
  obtain rfl : args = #[v0] := by cases args; simp_all
  obtain ⟨rfl, rfl⟩ := trodVars_none hV
  have k0 := h0
  have lt0 : ∀ x ∈ p0, x.block < W.heap.size := by obtain ⟨m, hm⟩ := k0; exact DataW.trod_lt m _ _ _ hm
  obtain ⟨a0, len0, cap0, rfl⟩ := okWide_slice Try.underlying24 (hval 0 24 v0 rfl rfl)
  obtain ⟨z0, wz0, wc0, wm0⟩ := open_ops h0
  clear hA0 hval0
  refine (walk a0 len0 cap0 z0 W wz0).mono fun e W' ⟨he, bel⟩ => ?_
  subst he
  exact ⟨_, rfl, _, _, _, [], _, [], hW', trodAll_mk1 (shut_bool Try.underlying4 _), (trodAll_cons_mk (Below.trod laidOut (by kernel_rfl) (of_decide_eq_true (by kernel_rfl)) k0 bel lt0) trodAll_mk0), rfl, bel.frame _, fun h => by cases h⟩

theorem over : Rows.scriptWritesRow.holds Try.pinned (OpenSpec.ofChange Rows.scriptWritesSpec) :=
  OpenClaim.holds_of_wide 4 Try.f4 rfl rfl rfl rfl rfl rfl rfl ⟨rfl, rfl, rfl, rfl, rfl⟩ rfl rfl rfl rfl rfl (by kernel_rfl) Try.func4 (by kernel_rfl)
    (of_decide_eq_true (by kernel_rfl)) (by unfold Func.isWrapper; first | (rw [if_pos (by decide +kernel)]; kernel_rfl) | (rw [if_neg (by decide +kernel)]; exact ⟨rfl, rfl⟩))
    (fun os started H enc _ => lifted os started H enc)

/-- The statement. -/
theorem proved : Rows.ScriptWritesSaid := over

end Go.Proofs.Ytpmlipcpohajgaa.scriptWrites
