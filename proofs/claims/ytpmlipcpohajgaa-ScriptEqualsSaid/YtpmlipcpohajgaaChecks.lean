/-
  The statements' own reads and writes.
-/
import Derived.Test.YtpmlipcpohajgaaWrite
set_option linter.unusedSimpArgs false
set_option linter.unusedVariables false
namespace Go.Proofs.Ytpmlipcpohajgaa
open Go.RowKit

set_option maxHeartbeats 400000 in
theorem reads_any (A B : Option Addr) (n cap m cb : Nat) (xs : List Int) (l : List OpV) (w : World) (hx : BReads w A n xs) (hc : n ≤ cap) (hcm : cap ≤ 9223372036854775807) (hA : A = none → cap = 0) (hn : n ≤ 4096) (hl : OReads w B m l) (hm : m ≤ 1000000) :
    Calls Try.prog 8 #[.slice A n cap, .slice B m cb] w fun e w' => e = .returned (.bool (opsEq (parseS xs) l)) ∧ Below w.heap.size w w' := by
  have HX := Lib.hid hx
  have HA := Lib.hid hA
  have HY : Hid (∀ W, Below w.heap.size w W → OReads W B m l) := fun W h => hl.below h
  have HPL : Hid ((parseS xs).length ≤ n) := Lib.hid (by
    have hxl := hx.length
    rw [← hxl]
    clear hxl hx HX
    unfold parseS
    have : ∀ (f : Nat) (ys : List Int), (parseF f ys).length ≤ ys.length := by
      intro f
      induction f with
      | zero => intro ys; simp [parseF]
      | succ f ih =>
        intro ys
        simp only [parseF]
        split
        · simp
        · rename_i hne
          have h1 := ih (ys.drop (opS ys).2)
          have h2 := opS_pos ys
          have h3 : 0 < ys.length := List.length_pos_iff.2 hne
          rw [List.length_drop] at h1
          rw [List.length_cons]
          omega
    exact this _ _)
  clear hx hA hl
  go_enter Try.func8, Try.ntmps8
  go_wp2_with fail
  refine (parse_any A n cap xs _ HX.out hc hcm HA.out hn).mono ?_
  rintro e w1 ⟨A1, n1, c1, rfl, ho1, hb1⟩
  have hl1 := ho1.length
  have hpl := HPL.out
  have HO := Lib.hid ho1.reads
  clear ho1
  go_wp2_with fail
  refine (same_any A1 B n1 c1 m cb _ l _ HO.out (HY.out _ hb1) (by omega) hm).mono ?_
  rintro e w2 ⟨rfl, hb2⟩
  have hB2 := below_call hb1 hb2 hb1.size
  cases hq : opsEq (parseS xs) l with
  | true =>
    have HQ := Lib.hid hq
    clear hq
    go_wp2
    go_ret
    exact ⟨by rw [HQ.out]; rfl, hB2⟩
  | false =>
    have HQ := Lib.hid hq
    clear hq
    go_wp2
    go_ret
    exact ⟨by rw [HQ.out]; rfl, hB2⟩

def writesB (l : List OpV) (ys : List Int) (no : Int) : Bool :=
  if l.all rvalid = false then [] == ys && 2 == no else if 4096 < (wrS l).length then [] == ys && 5 == no else wrS l == ys && 0 == no

set_option maxHeartbeats 400000 in
theorem writes_any (A B : Option Addr) (n cap m cb : Nat) (ys : List Int) (no : Int) (l : List OpV) (w : World) (hl : OReads w A n l) (hn : n ≤ 100000) (hd : ∀ o ∈ l, o.d.length ≤ 300) (hy : BReads w B m ys) :
    Calls Try.prog 12 #[.slice A n cap, .slice B m cb, .int .i64 no] w fun e w' => e = .returned (.bool (writesB l ys no)) ∧ Below w.heap.size w w' := by
  have HY : Hid (∀ W, Below w.heap.size w W → BReads W B m ys) := fun W h => hy.below h
  have HYB := Lib.hid hy.2
  have HX := Lib.hid hl
  clear hy hl
  go_enter Try.func12, Try.ntmps12
  go_wp2_with fail
  refine (write_any A n cap l _ HX.out hn hd).mono ?_
  rintro e w1 ⟨hp, hb1⟩
  have h2 := convert_bytes (P := Try.prog) (HY.out _ hb1) cb 22 5 Try.underlying22 Try.underlying5 9 Try.underlying9
  by_cases ha : l.all rvalid = false
  · rw [if_pos ha] at hp
    have HW : Hid (writesB l ys no = ([] == ys && 2 == no)) := Lib.hid (by unfold writesB; rw [if_pos ha])
    have h3 := Lib.hid (str_inj (xs := []) (fun _ h => by cases h) HYB.out)
    subst hp
    have h1 := convert_bytes (P := Try.prog) (breads_zero w1 none) 0 22 5 Try.underlying22 Try.underlying5 9 Try.underlying9
    clear ha
    go_wp2
    all_goals go_ret
    all_goals refine ⟨?_, hb1⟩
    all_goals rw [HW.out, ← h3.out]
    all_goals simp_all
  · rw [if_neg ha] at hp
    by_cases hb : 4096 < (wrS l).length
    · rw [if_pos hb] at hp
      have HW : Hid (writesB l ys no = ([] == ys && 5 == no)) := Lib.hid (by unfold writesB; rw [if_neg ha, if_pos hb])
      have h3 := Lib.hid (str_inj (xs := []) (fun _ h => by cases h) HYB.out)
      subst hp
      have h1 := convert_bytes (P := Try.prog) (breads_zero w1 none) 0 22 5 Try.underlying22 Try.underlying5 9 Try.underlying9
      clear ha hb
      go_wp2
      all_goals go_ret
      all_goals refine ⟨?_, hb1⟩
      all_goals rw [HW.out, ← h3.out]
      all_goals simp_all
    · rw [if_neg hb] at hp
      have HW : Hid (writesB l ys no = (wrS l == ys && 0 == no)) := Lib.hid (by unfold writesB; rw [if_neg ha, if_neg hb])
      obtain ⟨A1, n1, c1, he, ho1⟩ := hp
      have h3 := Lib.hid (str_inj ho1.2.1 HYB.out)
      subst he
      have h1 := convert_bytes (P := Try.prog) ho1.reads c1 22 5 Try.underlying22 Try.underlying5 9 Try.underlying9
      clear ha hb ho1
      generalize wrS l = ws at *
      go_wp2
      all_goals go_ret
      all_goals refine ⟨?_, hb1⟩
      all_goals rw [HW.out, ← h3.out]
      all_goals simp_all
end Go.Proofs.Ytpmlipcpohajgaa
