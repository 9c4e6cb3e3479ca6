/-
  The reference's First: an operation with data.
-/
import Derived.Test.YtpmlipcpohajgaaFirst
import Derived.Test.YtpmlipcpohajgaaBlk
import Derived.IntWalk
import Derived.Deep.RegionWith
import Derived.Deep.RegionLaw
import Derived.Deep.AppendLies
set_option linter.unusedSimpArgs false
set_option linter.unusedVariables false
namespace Go.Proofs.Ytpmlipcpohajgaa
open Go.RowKit

theorem step_append_byte {ops : Array Oper} {o : Oper} {a : Act} {w : World} {K : Act → World → Prop} {Q : Exit → Act → World → Prop} {E : Prop} (hgd : o.guard = none) (s x : Operand)
    (ho : o.op = .call { callee := .builtin .append, args := #[s, x], argTypes := #[22, 22] })
    (base : Nat) (A : Option Addr) (n cap : Nat) (xs : List Int) (hs : a.eval s = .slice A n cap) (hown : BOwns w base 5 A n cap xs)
    (gl c : Nat) (x0 : Int) (hx : a.eval x = .slice (some ⟨gl, 0, none⟩) 1 c) (h0 : w.cell? ⟨gl, 0, none⟩ = some (.int .u8 x0)) (hb : 0 ≤ x0 ∧ x0 ≤ 255)
    (hn : n ≤ 1000000) (hbase : base ≤ w.heap.size)
    (h : ∀ g cap w', BOwns w' base 5 (some ⟨g, 0, none⟩) (n + 1) cap (xs ++ [x0]) → Below base w w' → K (a.put o.dst (.slice (some ⟨g, 0, none⟩) (n + 1) cap)) w') :
    if Region.wanted o (yielded ops a.tmps) = true then Oper.wp Try.prog o a w K Q else E := by
  obtain ⟨i0, hi, hz0, hz1, hz2⟩ := info_parts Try.info5
  refine step_append_lies w hgd s x 22 ho base 5 i0 _ 1 1 Try.underlying22 hi hz0 hz1 hz2 rfl (by omega) _ n (bys xs) hs hown.1 ⟨gl, 0, none⟩ 1 c [.int .u8 x0] hx rfl ?_ ?_ (by omega) (by unfold maxLen; omega) (by omega) hbase _ rfl ?_
  · intro j u hu
    match j, hu with
    | 0, hu => simp at hu; subst hu; simpa [Addr.add] using h0
    | j + 1, hu => simp at hu
  · intro u hu
    simp at hu
    subst hu
    rfl
  · intro g cap w' ho' hgr hat hlt
    have hm : bys xs ++ [.int .u8 x0] = bys (xs ++ [x0]) := by simp [bys]
    rw [hm] at ho'
    refine h g cap w' ⟨ho', ?_, fun h => by cases h⟩ ((Below.refl _ _).grown hgr hbase (fun k hk => (hown.1.lt k hk).1))
    intro z hz
    rcases List.mem_append.1 hz with hz | hz
    · exact hown.2.1 z hz
    · simp at hz; omega

set_option maxHeartbeats 1600000 in
theorem first_5 (A : Option Addr) (n cap : Nat) (xs : List Int) (w : World) (hx : BReads w A n xs) (h0 : 5 ≤ nth xs 0 % 16) (h1 : nth xs 0 % 16 ≤ 5) :
    Calls Try.prog 22 #[.slice A n cap] w (FirstPost w ⟨4, nth xs 0 / 16, 0, 0, takeZ (nth xs 1).toNat (xs.drop 2)⟩ (2 + (nth xs 1).toNat)) := by
  have hb0 := nth_bd hx.2 0
  have hb1 := nth_bd hx.2 1
  have HB := Lib.hid hx.2
  have hX := hx.alloc (.cells #[.int .i64 0, .int .i64 0, .int .i64 0, .int .i64 0, .slice none 0 0] 33)
  have HX : Hid (∀ W, Below w.heap.size w W → BReads W A n xs) := fun W h => hx.below h
  clear hx
  obtain ⟨m, hm⟩ : ∃ m : Nat, nth xs 1 = (m : Int) := ⟨(nth xs 1).toNat, by omega⟩
  have hmb : m ≤ 255 := by omega
  have HM := Lib.hid hm
  rw [hm, Int.toNat_natCast]
  clear hm hb1
  have hq2 : (nth xs 0 % 16 == 2) = false := beq_eq_false_iff_ne.2 (by omega)
  have hq3 : (nth xs 0 % 16 == 3) = false := beq_eq_false_iff_ne.2 (by omega)
  have hq4 : (nth xs 0 % 16 == 4) = false := beq_eq_false_iff_ne.2 (by omega)
  have hq5 : (nth xs 0 % 16 == 5) = true := beq_iff_eq.2 (by omega)
  go_enter Try.func22, Try.ntmps22
  go_wp2_with fail
  refine (at_any A n cap xs 0 0 _ rfl hX).mono ?_
  rintro e w1 ⟨rfl, rfl⟩
  go_wp2_with fail
  refine (at_any A n cap xs 0 0 _ rfl hX).mono ?_
  rintro e w1 ⟨rfl, rfl⟩
  generalize nth xs 0 = x at *
  go_wp2_with fail
  go_loopw [6] (fun i W => ∃ (k : Nat) (D : Option Addr) (c : Nat), k ≤ m ∧ i = .int .i64 k ∧ BOwns W (w.heap.size + 2) 5 D k c (takeZ k (xs.drop 2)) ∧ Below w.heap.size w W ∧ Blk W w.heap.size 33 #[.int .i64 0, .int .i64 0, .int .i64 0, .int .i64 0, .slice none 0 0] ∧ Blk W (w.heap.size + 1) 33 #[.int .i64 4, .int .i64 (x / 16), .int .i64 0, .int .i64 0, .slice D k c]) (fun i _ => m - (intOf i).toNat)
  case atStart => exact ⟨0, none, 0, Nat.zero_le _, rfl, BOwns.nil _ _ _, by (focus (repeat' (first | (with_reducible exact Below.refl _ _) | (with_reducible assumption) | (with_reducible refine Below.alloc ?_ ?_ _) | (with_reducible refine below_drewN ?_ _) | (with_reducible refine Below.drew ?_) | (with_reducible refine Below.setCell ?_ ?_ _) | omega | (simp; done) | (simp; omega)))), (Blk.mk_ _ _ _ _ rfl).alloc _, Blk.mk_ _ _ _ _ (by simp)⟩
  case round =>
    obtain ⟨k, D, c, hk, rfl, ho, hB, HR, HO⟩ := hrel
    have hz := HO.lt
    have hxr := HX.out wr hB
    have HOF := HO.free 4
    have HO4 := (HO.at_ 4).trans rfl
    have HBR := Lib.hid HR
    have HBO := Lib.hid HO
    clear HR HO
    go_wp2_with fail
    refine (at_any A n cap xs 1 1 _ rfl hxr).mono ?_
    rintro e w1 ⟨rfl, rfl⟩
    rw [HM.out]
    by_cases hlt : k < m
    · have hlt' : (k : Int) < m := by omega
      have HOW : Hid (∀ W, Below wr.heap.size wr W → BOwns W (w.heap.size + 2) 5 D k c (takeZ k (xs.drop 2))) := fun W h => ho.below h
      have HXW : Hid (∀ W, Below wr.heap.size wr W → BReads W A n xs) := fun W h => hxr.below h
      have hbk := nth_bd HB.out (2 + k)
      have e39 : IntKind.i64.wrap (2 + (k : Int)) = 2 + k := IntWalk.i64_in _ (by omega)
      have eU : IntKind.u8.wrap (nth xs (2 + k)) = nth xs (2 + k) := by simp [IntKind.wrap, IntKind.signed, IntKind.bits]; omega
      have hTS : Hid (takeZ (k + 1) (xs.drop 2) = takeZ k (xs.drop 2) ++ [nth xs (2 + k)]) := Lib.hid (by rw [takeZ_succ, nth_drop])
      clear ho hxr
      go_wp2_with fail
      go_region_law (first
        | (refine step_append_byte rfl (.tmp 36) (.tmp 42) rfl (w.heap.size + 2) D k c (takeZ k (xs.drop 2)) rfl (HOW.out _ (by (focus (repeat' (first | (with_reducible exact Below.refl _ _) | (with_reducible assumption) | (with_reducible refine Below.alloc ?_ ?_ _) | (with_reducible refine below_drewN ?_ _) | (with_reducible refine Below.drew ?_) | (with_reducible refine Below.setCell ?_ ?_ _) | omega | (simp; done) | (simp; omega)))))) wr.heap.size 1 (nth xs (2 + k)) rfl ?_ hbk ?_ ?_ ?_; simp; omega; (simp; omega); intro g cap6 w6 ho6 hb6; rw [← hTS.out] at ho6; have HBO6 := Lib.hid (Blk.below (t := 33) (by exact (HBO.out.alloc _)) hb6 (by omega)); have HBR6 := Lib.hid (Blk.below (t := 33) (by exact (HBR.out.alloc _)) hb6 (by omega)); have q4 := (HBO6.out.at_ 4).trans rfl; have qf := HBO6.out.free 4; have hB6 : Below w.heap.size w w6 := Below.trans (by (focus (repeat' (first | (with_reducible exact Below.refl _ _) | (with_reducible assumption) | (with_reducible refine Below.alloc ?_ ?_ _) | (with_reducible refine below_drewN ?_ _) | (with_reducible refine Below.drew ?_) | (with_reducible refine Below.setCell ?_ ?_ _) | omega | (simp; done) | (simp; omega))))) (hb6.mono (by omega)); have ho7 := Lib.hid ho6; clear hb6 ho6)
        | (go_simp; go_at_call 32; refine (at_any A n cap xs _ (2 + k) _ (by omega) (HXW.out _ (by (focus (repeat' (first | (with_reducible exact Below.refl _ _) | (with_reducible assumption) | (with_reducible refine Below.alloc ?_ ?_ _) | (with_reducible refine below_drewN ?_ _) | (with_reducible refine Below.drew ?_) | (with_reducible refine Below.setCell ?_ ?_ _) | omega | (simp; done) | (simp; omega))))))).mono ?_; rintro e w1 ⟨rfl, rfl⟩))
      all_goals
        clear e39 eU HO4 HOF
        go_wp2
        go_roundw
        case rel => exact ⟨k + 1, some ⟨g, 0, none⟩, cap6, by omega, by go_num, ho7.out.setBelow (by simp) _, by (focus (repeat' (first | (with_reducible exact Below.refl _ _) | (with_reducible assumption) | (with_reducible refine Below.alloc ?_ ?_ _) | (with_reducible refine below_drewN ?_ _) | (with_reducible refine Below.drew ?_) | (with_reducible refine Below.setCell ?_ ?_ _) | omega | (simp; done) | (simp; omega)))), HBR6.out.far (by simp) _, HBO6.out.put 4 _⟩
        case measure => simp [intOf]; omega
    · obtain rfl : k = m := by omega
      have HXW : Hid (∀ W, Below wr.heap.size wr W → BReads W A n xs) := fun W h => hxr.below h
      have c0 := (HBO.out.at_ 0).trans rfl
      have c1 := (HBO.out.at_ 1).trans rfl
      have c2 := (HBO.out.at_ 2).trans rfl
      have c3 := (HBO.out.at_ 3).trans rfl
      have r0 := (HBR.out.at_ 0).trans rfl
      have r1 := (HBR.out.at_ 1).trans rfl
      have r2 := (HBR.out.at_ 2).trans rfl
      have r3 := (HBR.out.at_ 3).trans rfl
      have r4 := (HBR.out.at_ 4).trans rfl
      have f0 := HBR.out.free 0
      have f1 := HBR.out.free 1
      have f2 := HBR.out.free 2
      have f3 := HBR.out.free 3
      have f4 := HBR.out.free 4
      have e48 : IntKind.i64.wrap (2 + (k : Int)) = 2 + k := IntWalk.i64_in _ (by omega)
      have HO2 := Lib.hid ho
      clear ho hxr hX
      go_wp2_with fail
      go_region_law ((go_simp; go_at_call 32; refine (at_any A n cap xs 1 1 _ rfl (HXW.out _ (by (focus (repeat' (first | (with_reducible exact Below.refl _ _) | (with_reducible assumption) | (with_reducible refine Below.alloc ?_ ?_ _) | (with_reducible refine below_drewN ?_ _) | (with_reducible refine Below.drew ?_) | (with_reducible refine Below.setCell ?_ ?_ _) | omega | (simp; done) | (simp; omega))))))).mono ?_; rintro e w1 ⟨rfl, rfl⟩; rw [HM.out]))
      all_goals go_wp2
      all_goals refine bodyPost_ret (v := .tuple #[.agg #[.int .i64 4, .int .i64 (x / 16), .int .i64 0, .int .i64 0, .slice D k c], .int .i64 (2 + (k : Int))]) (by simp [results, Try.results22, go_sem, r0, r1, r2, r3, r4]) rfl ?_
      all_goals refine first_fin ?_ D k c (by simp) (BOwns.more (base := w.heap.size + 2) (by have ho := HO2.out; (focus (repeat' (first | (with_reducible assumption) | (with_reducible refine BOwns.setBelow ?_ ?_ _) | (with_reducible refine BOwns.alloc ?_ _) | (with_reducible refine BOwns.drew ?_) | omega | (simp; done) | (simp; omega))))) (by omega))
      all_goals (focus (repeat' (first | (with_reducible exact Below.refl _ _) | (with_reducible assumption) | (with_reducible refine Below.alloc ?_ ?_ _) | (with_reducible refine below_drewN ?_ _) | (with_reducible refine Below.drew ?_) | (with_reducible refine Below.setCell ?_ ?_ _) | omega | (simp; done) | (simp; omega))))
end Go.Proofs.Ytpmlipcpohajgaa
