/-
  script.Write.
-/
import Derived.Test.YtpmlipcpohajgaaValid
set_option linter.unusedSimpArgs false
set_option linter.unusedVariables false
namespace Go.Proofs.Ytpmlipcpohajgaa
open Go.RowKit

def wrS (l : List OpV) : List Int := l.flatMap rbytes
theorem wrS_snoc (l : List OpV) (k : Nat) (v : OpV) (h : l[k]? = some v) : wrS (l.take (k + 1)) = wrS (l.take k) ++ rbytes v := by
  obtain ⟨hk, hv⟩ := List.getElem?_eq_some_iff.1 h
  rw [List.take_succ_eq_append_getElem hk, hv]
  simp [wrS]
theorem wrS_take_le (l : List OpV) (k : Nat) : (wrS (l.take k)).length ≤ (wrS l).length := by
  have : wrS l = wrS (l.take k) ++ wrS (l.drop k) := by
    unfold wrS
    rw [← List.flatMap_append, List.take_append_drop]
  rw [this, List.length_append]
  omega
theorem rbytes_length (o : OpV) : (rbytes o).length ≤ 3 + o.d.length := by
  unfold rbytes
  repeat' split
  all_goals simp
  all_goals omega
theorem rvalid_len {o : OpV} (h : rvalid o = true) : o.d.length ≤ 255 := by
  unfold rvalid at h
  rw [Bool.and_eq_true, Bool.and_eq_true, decide_eq_true_eq] at h
  exact h.1.1.2.2.2.2.2.2

/-- What has been written of a script: all of it, or more than there may be. -/
def WrOut (l : List OpV) (k : Nat) (ys : List Int) : Prop :=
  (ys = wrS (l.take k) ∨ (4096 < ys.length ∧ 4096 < (wrS (l.take k)).length)) ∧ ys.length ≤ 4500

def WritePost (l : List OpV) (w : World) (e : Ending) (w' : World) : Prop :=
  (if l.all rvalid = false then e = .returned (.tuple #[.slice none 0 0, .int .i64 2])
   else if 4096 < (wrS l).length then e = .returned (.tuple #[.slice none 0 0, .int .i64 5])
   else ∃ A n c, e = .returned (.tuple #[.slice A n c, .int .i64 0]) ∧ BOwns w' w.heap.size 5 A n c (wrS l)) ∧ Below w.heap.size w w'

set_option maxHeartbeats 1600000 in
theorem write_any (A : Option Addr) (n cap : Nat) (l : List OpV) (w : World) (hx : OReads w A n l) (hn : n ≤ 100000) (hd : ∀ o ∈ l, o.d.length ≤ 300) :
    Calls Try.prog 24 #[.slice A n cap] w (WritePost l w) := by
  have hl := hx.length
  have HX : Hid (∀ W, Below w.heap.size w W → OReads W A n l) := fun W h => by
    exact hx.below h
  have HL := Lib.hid hl
  have HD := Lib.hid hd
  clear hx hl hd
  have heql := fun (W : World) (a : Option Addr) (n c : Nat) => Lib.run_eql_slice_nil (P := Try.prog) W 22 5 a n c 0 0 Try.underlying22
  go_enter Try.func24, Try.ntmps24
  go_wp2
  go_loopw [4, 10] (fun v i W => ∃ (k : Nat) (B : Option Addr) (c : Nat) (ys : List Int), k ≤ n ∧ i = .int .i64 k ∧ v = .slice B ys.length c ∧ BOwns W w.heap.size 5 B ys.length c ys ∧ Hid (WrOut l k ys) ∧ Hid (∀ o ∈ l.take k, rvalid o = true) ∧ Below w.heap.size w W) (fun _ i _ => n - (intOf i).toNat)
  case atStart => exact ⟨0, none, 0, [], Nat.zero_le _, rfl, rfl, BOwns.nil _ _ _, Lib.hid ⟨.inl rfl, by simp⟩, Lib.hid (fun o h => by simp at h), Below.refl _ _⟩
  case round =>
    obtain ⟨k, B, c, ys, hk, rfl, rfl, ho, HW, HV, hB⟩ := hrel
    have hz := hB.size
    have hys := HW.out.2
    by_cases hlt : k < n
    · obtain ⟨ad, v, D, dc, rfl, hv, c0, c1, c2, c3, c4, hd, hdn⟩ := (HX.out _ hB).at_ hlt
      have hvm : v ∈ l := List.mem_of_getElem? hv
      have hvd := HD.out v hvm
      have hvd1 : v.d.length ≤ 100000 := by omega
      have hlt' : (k : Int) < n := by omega
      have p1 := cell_part 0 c1
      have p2 := cell_part 1 c2
      have p3 := cell_part 2 c3
      have p4 := cell_part 3 c4
      have HDR : Hid (∀ W, Below wr.heap.size wr W → BReads W D v.d.length v.d) := fun W h => hd.below h
      have HDN := Lib.hid hdn
      have HVK := Lib.hid hv
      have HOW : Hid (∀ W, Below wr.heap.size wr W → BOwns W w.heap.size 5 B ys.length c ys) := fun W h => ho.below h
      clear c1 c2 c3 c4 hd hdn hv ho hvm
      cases hq : rvalid v with
      | false =>
        have HQ := Lib.hid hq
        clear hq
        go_wp2_with (first
          | (go_at_call 23; refine (put_none_any v D dc _ (HDR.out _ (by (focus (repeat' (first | (with_reducible exact Below.refl _ _) | (with_reducible assumption) | (with_reducible refine Below.alloc ?_ ?_ _) | (with_reducible refine below_drewN ?_ _) | (with_reducible refine Below.drew ?_) | (with_reducible refine Below.setCell ?_ ?_ _) | omega | (simp; done) | (simp; omega)))))) HDN.out hvd1 HQ.out).mono ?_; rintro e w1 ⟨rfl, hb1⟩; have hB1 : Below w.heap.size w w1 := Below.trans (by (focus (repeat' (first | (with_reducible exact Below.refl _ _) | (with_reducible assumption) | (with_reducible refine Below.alloc ?_ ?_ _) | (with_reducible refine below_drewN ?_ _) | (with_reducible refine Below.drew ?_) | (with_reducible refine Below.setCell ?_ ?_ _) | omega | (simp; done) | (simp; omega))))) (hb1.mono (by (focus (first | omega | (simp only [World.size_alloc]; done) | (simp only [World.size_alloc]; omega) | (simp; done) | (simp; omega))))))
          | fail)
        go_ret2
        refine ⟨?_, hB1⟩
        rw [if_pos (by
          rw [List.all_eq_false]
          exact ⟨v, List.mem_of_getElem? HVK.out, by rw [HQ.out]; decide⟩)]
        rfl
      | true =>
        have HQ := Lib.hid hq
        clear hq
        have hrl := rbytes_length v
        have hrv := rvalid_len HQ.out
        have HVS : Hid (∀ o ∈ l.take (k + 1), rvalid o = true) := Lib.hid (fun o h => by
          obtain ⟨hkl, hvk⟩ := List.getElem?_eq_some_iff.1 HVK.out
          rw [List.take_succ_eq_append_getElem hkl, List.mem_append, List.mem_singleton] at h
          rcases h with h | h
          · exact HV.out o h
          · rw [h, hvk]; exact HQ.out)
        have HSN := Lib.hid (wrS_snoc l k v HVK.out)
        by_cases hle : (ys.length : Int) ≤ 4096
        · have HWS : Hid (WrOut l (k + 1) (ys ++ rbytes v)) := Lib.hid (by
            refine ⟨?_, by rw [List.length_append]; omega⟩
            rcases HW.out.1 with h | ⟨h, _⟩
            · left; rw [HSN.out, h]
            · omega)
          go_wp2_with (first
            | (go_at_call 23; refine (put_some_any v D dc _ (HDR.out _ (by (focus (repeat' (first | (with_reducible exact Below.refl _ _) | (with_reducible assumption) | (with_reducible refine Below.alloc ?_ ?_ _) | (with_reducible refine below_drewN ?_ _) | (with_reducible refine Below.drew ?_) | (with_reducible refine Below.setCell ?_ ?_ _) | omega | (simp; done) | (simp; omega)))))) HDN.out hvd1 (rvalid_n HQ.out) HQ.out).mono ?_; rintro e w1 ⟨ad1, cc, rfl, ho1, hb1⟩; have hB1 : Below w.heap.size w w1 := Below.trans (by (focus (repeat' (first | (with_reducible exact Below.refl _ _) | (with_reducible assumption) | (with_reducible refine Below.alloc ?_ ?_ _) | (with_reducible refine below_drewN ?_ _) | (with_reducible refine Below.drew ?_) | (with_reducible refine Below.setCell ?_ ?_ _) | omega | (simp; done) | (simp; omega))))) (hb1.mono (by (focus (first | omega | (simp only [World.size_alloc]; done) | (simp only [World.size_alloc]; omega) | (simp; done) | (simp; omega))))); have hO1 : BOwns w1 w.heap.size 5 B ys.length c ys := (HOW.out _ (Below.trans (by (focus (repeat' (first | (with_reducible exact Below.refl _ _) | (with_reducible assumption) | (with_reducible refine Below.alloc ?_ ?_ _) | (with_reducible refine below_drewN ?_ _) | (with_reducible refine Below.drew ?_) | (with_reducible refine Below.setCell ?_ ?_ _) | omega | (simp; done) | (simp; omega))))) (hb1.mono (by (focus (first | omega | (simp only [World.size_alloc]; done) | (simp only [World.size_alloc]; omega) | (simp; done) | (simp; omega))))))); have hR1 := ho1.reads; clear ho1)
            | (at_builtin; refine append_bytes _ rfl (.tmp 21) (.tmp 22) 22 rfl w.heap.size 5 Try.info5 Try.underlying22 B ys.length c ys rfl hO1 (some ad1) (rbytes v).length cc (rbytes v) rfl (fun h => by cases h) hR1 ?_ ?_ ?_; omega; exact hB1.size; intro A2 c2 w2 ho2 hb2)
            | fail)
          go_roundw
          case rel => exact ⟨k + 1, A2, c2, ys ++ rbytes v, by omega, by go_num, by rw [List.length_append], by rw [List.length_append]; exact ho2, HWS, HVS, hB1.trans hb2⟩
          case measure => simp [intOf]; omega
        · have HWS : Hid (WrOut l (k + 1) ys) := Lib.hid (by
            refine ⟨.inr ⟨by omega, ?_⟩, hys⟩
            rw [HSN.out, List.length_append]
            rcases HW.out.1 with h | ⟨_, h⟩
            · rw [← h]; omega
            · omega)
          go_wp2_with (first
            | (go_at_call 23; refine (put_some_any v D dc _ (HDR.out _ (by (focus (repeat' (first | (with_reducible exact Below.refl _ _) | (with_reducible assumption) | (with_reducible refine Below.alloc ?_ ?_ _) | (with_reducible refine below_drewN ?_ _) | (with_reducible refine Below.drew ?_) | (with_reducible refine Below.setCell ?_ ?_ _) | omega | (simp; done) | (simp; omega)))))) HDN.out hvd1 (rvalid_n HQ.out) HQ.out).mono ?_; rintro e w1 ⟨ad1, cc, rfl, ho1, hb1⟩; have hB1 : Below w.heap.size w w1 := Below.trans (by (focus (repeat' (first | (with_reducible exact Below.refl _ _) | (with_reducible assumption) | (with_reducible refine Below.alloc ?_ ?_ _) | (with_reducible refine below_drewN ?_ _) | (with_reducible refine Below.drew ?_) | (with_reducible refine Below.setCell ?_ ?_ _) | omega | (simp; done) | (simp; omega))))) (hb1.mono (by (focus (first | omega | (simp only [World.size_alloc]; done) | (simp only [World.size_alloc]; omega) | (simp; done) | (simp; omega))))); have hO1 : BOwns w1 w.heap.size 5 B ys.length c ys := (HOW.out _ (Below.trans (by (focus (repeat' (first | (with_reducible exact Below.refl _ _) | (with_reducible assumption) | (with_reducible refine Below.alloc ?_ ?_ _) | (with_reducible refine below_drewN ?_ _) | (with_reducible refine Below.drew ?_) | (with_reducible refine Below.setCell ?_ ?_ _) | omega | (simp; done) | (simp; omega))))) (hb1.mono (by (focus (first | omega | (simp only [World.size_alloc]; done) | (simp only [World.size_alloc]; omega) | (simp; done) | (simp; omega))))))); have hR1 := ho1.reads; clear ho1)
            | fail)
          go_roundw
          case rel => exact ⟨k + 1, B, c, ys, by omega, by go_num, rfl, hO1, HWS, HVS, hB1⟩
          case measure => simp [intOf]; omega
    · obtain rfl : k = n := by omega
      have hta : l.take k = l := List.take_of_length_le (by rw [HL.out]; exact Nat.le_refl _)
      have HTA := Lib.hid hta
      have HALL : Hid (l.all rvalid = true) := Lib.hid (by
        rw [List.all_eq_true]
        have := HV.out
        rw [hta] at this
        exact this)
      clear hta
      by_cases hle : (4096 : Int) < ys.length
      · go_wp2
        go_ret2
        refine ⟨?_, hB⟩
        rw [if_neg (by rw [HALL.out]; decide), if_pos (by
          have h := HW.out.1
          rw [HTA.out] at h
          rcases h with h | ⟨_, h⟩
          · rw [← h]; omega
          · exact h)]
        rfl
      · go_wp2
        go_ret2
        refine ⟨?_, hB⟩
        have h := HW.out.1
        rw [HTA.out] at h
        have hy : ys = wrS l := by
          rcases h with h | ⟨h, _⟩
          · exact h
          · omega
        subst hy
        rw [if_neg (by rw [HALL.out]; decide), if_neg (by omega)]
        exact ⟨B, _, c, rfl, ho⟩
end Go.Proofs.Ytpmlipcpohajgaa
