/-
  The statements' 'known': the chapter's examples.
-/
import Derived.Test.YtpmlipcpohajgaaChecks
import Derived.Deep.RegionHeld3
set_option linter.unusedSimpArgs false
set_option linter.unusedVariables false
namespace Go.Proofs.Ytpmlipcpohajgaa
open Go.RowKit

def plainC (v : OpV) : OpC := ⟨v, none, 0⟩
theorem oreads_lit (w W : World) (l : List OpV) (g n : Nat) (hW : Blk W g 33 (opXs (l.map plainC)).toArray) (hn : l.length = n) (hd : ∀ v ∈ l, v.d = []) : OReads W (some ⟨g, 0, none⟩) n l := by
  refine ⟨l.map plainC, ⟨by rw [opXs_length, List.length_map, hn], fun _ => ⟨_, rfl, hW.lt, fun j u hu => ?_⟩⟩, ?_, fun o ho => ?_⟩
  · rw [add_at', hW.at_]
    simpa using hu
  · rw [List.map_map]
    exact List.map_id' l
  · obtain ⟨v, hv, rfl⟩ := List.mem_map.1 ho
    have := hd v hv
    simp only [plainC]
    rw [this]
    exact ⟨breads_zero _ _, by simp⟩
theorem oreads_one (W : World) (v : OpV) (g ga : Nat) (hW : Blk W g 33 #[.int .i64 v.k, .int .i64 v.c, .int .i64 v.n, .int .i64 v.m, .slice (some ⟨ga, 0, none⟩) v.d.length v.d.length]) (hd : BReads W (some ⟨ga, 0, none⟩) v.d.length v.d) : OReads W (some ⟨g, 0, none⟩) 1 [v] := by
  refine ⟨[⟨v, some ⟨ga, 0, none⟩, v.d.length⟩], ⟨rfl, fun _ => ⟨_, rfl, hW.lt, fun j u hu => ?_⟩⟩, rfl, fun o ho => ?_⟩
  · rw [add_at', hW.at_]
    rw [opXs_one] at hu
    simpa [OpC.cells] using hu
  · rw [List.mem_singleton] at ho
    subst ho
    exact ⟨hd, fun h => by cases h⟩

set_option maxHeartbeats 400000 in
theorem tick_any (n : Int) (w : World) :
    Calls Try.prog 19 #[.int .i64 n] w fun e w' => e = .returned (.agg #[.int .i64 3, .int .i64 0, .int .i64 n, .int .i64 0, .slice none 0 0]) ∧ Below w.heap.size w w' := by
  go_enter Try.func19, Try.ntmps19
  go_wp2
  refine bodyPost_ret (v := .agg #[.int .i64 3, .int .i64 0, .int .i64 n, .int .i64 0, .slice none 0 0]) (by simp [results, Try.results19, go_sem]) rfl ?_
  exact ⟨rfl, by (focus (repeat' (first | (with_reducible exact Below.refl _ _) | (with_reducible assumption) | (with_reducible refine Below.alloc ?_ ?_ _) | (with_reducible refine below_drewN ?_ _) | (with_reducible refine Below.drew ?_) | (with_reducible refine Below.setCell ?_ ?_ _) | omega | (simp; done) | (simp; omega))))⟩

theorem fr0 : opsEq (parseS [2, 4, 9, 10, 1, 2]) ([⟨1, 0, 0, 0, []⟩, ⟨3, 0, 9, 0, []⟩, ⟨3, 0, 258, 0, []⟩] : List OpV) = true := by decide +kernel
theorem fr1 : opsEq (parseS [0, 5, 17, 5, 27, 5]) ([⟨6, 0, 5, 0, []⟩, ⟨6, 1, 5, 0, []⟩, ⟨6, 1, 5, 0, []⟩] : List OpV) = true := by decide +kernel
theorem fr2 : opsEq (parseS [23, 5, 1, 6, 4, 3, 9, 7]) ([⟨6, 1, 5, 1, []⟩, ⟨5, 0, 1, 0, []⟩, ⟨2, 0, 0, 0, []⟩, ⟨8, 0, 7, 0, []⟩] : List OpV) = true := by decide +kernel
theorem fr3 : opsEq (parseS [21, 2, 65]) ([⟨4, 1, 0, 0, [65, 0]⟩] : List OpV) = true := by decide +kernel
theorem fr4 : opsEq (parseS [8]) ([⟨7, 0, 0, 0, []⟩] : List OpV) = true := by decide +kernel
theorem fw0 : writesB ([⟨3, 0, 255, 0, []⟩, ⟨3, 0, 256, 0, []⟩, ⟨6, 1, 5, 0, []⟩, ⟨6, 1, 5, 1, []⟩] : List OpV) [4, 255, 10, 1, 0, 16, 5, 23, 5, 1] 0 = true := by decide +kernel
theorem fw1 : writesB ([⟨5, 0, 3, 0, []⟩] : List OpV) [] 2 = true := by decide +kernel
theorem fw2 : writesB ([⟨3, 0, 65536, 0, []⟩] : List OpV) [] 2 = true := by decide +kernel

set_option maxRecDepth 100000 in
set_option maxHeartbeats 1600000 in
theorem known_any (w : World) : Calls Try.prog 6 #[] w fun e w' => e = .returned (.bool true) ∧ Below w.heap.size w w' := by
  go_enter Try.func6, Try.ntmps6
  go_wp2_with fail
  refine (reads_any _ _ 6 6 3 3 [2, 4, 9, 10, 1, 2] ([⟨1, 0, 0, 0, []⟩, ⟨3, 0, 9, 0, []⟩, ⟨3, 0, 258, 0, []⟩] : List OpV) _ (by exact (BReads.lit _ 5 [2, 4, 9, 10, 1, 2] _ _ (by unfold IsBytes; decide) (by simp) rfl).alloc _) (by decide) (by decide) (fun h => by cases h) (by decide) (oreads_lit w _ ([⟨1, 0, 0, 0, []⟩, ⟨3, 0, 9, 0, []⟩, ⟨3, 0, 258, 0, []⟩] : List OpV) _ _ (by exact Blk.mk_ _ 33 _ _ (by simp)) rfl (by decide)) (by decide)).mono ?_
  rintro e w1 ⟨rfl, hb1⟩
  rw [fr0]
  have hs1 : Blk w1 w.heap.size 33 #[.int .i64 6, .int .i64 1, .int .i64 5, .int .i64 0, .slice none 0 0] ∧ Blk w1 (w.heap.size + 1) 33 #[.int .i64 6, .int .i64 1, .int .i64 5, .int .i64 1, .slice none 0 0] ∧ Below w.heap.size w w1 := by
    have hb : Below (w.heap.size + 2) ((w.alloc (.cells #[.int .i64 6, .int .i64 1, .int .i64 5, .int .i64 0, .slice none 0 0] 33)).alloc (.cells #[.int .i64 6, .int .i64 1, .int .i64 5, .int .i64 1, .slice none 0 0] 33)) w1 := Below.trans (by (focus (repeat' (first | (with_reducible exact Below.refl _ _) | (with_reducible assumption) | (with_reducible refine Below.alloc ?_ ?_ _) | (with_reducible refine below_drewN ?_ _) | (with_reducible refine Below.drew ?_) | (with_reducible refine Below.setCell ?_ ?_ _) | omega | (simp; done) | (simp; omega))))) (hb1.mono (by (focus (first | omega | (simp only [World.size_alloc]; done) | (simp only [World.size_alloc]; omega) | (simp; done) | (simp; omega)))))
    exact ⟨((Blk.mk_ w 33 _ _ rfl).alloc _).below hb (by omega), (Blk.mk_ _ 33 _ _ (by simp)).below hb (by omega), Below.trans (by (focus (repeat' (first | (with_reducible exact Below.refl _ _) | (with_reducible assumption) | (with_reducible refine Below.alloc ?_ ?_ _) | (with_reducible refine below_drewN ?_ _) | (with_reducible refine Below.drew ?_) | (with_reducible refine Below.setCell ?_ ?_ _) | omega | (simp; done) | (simp; omega))))) (hb.mono (by omega))⟩
  clear hb1
  have hz1 : w.heap.size + 1 < w1.heap.size := by have := hs1.2.1.lt; omega
  have hy1 : w.heap.size < w1.heap.size := by omega
  have a1_0 := (hs1.1.at_ 0).trans rfl
  have b1_0 := (hs1.2.1.at_ 0).trans rfl
  have a1_1 := (hs1.1.at_ 1).trans rfl
  have b1_1 := (hs1.2.1.at_ 1).trans rfl
  have a1_2 := (hs1.1.at_ 2).trans rfl
  have b1_2 := (hs1.2.1.at_ 2).trans rfl
  have a1_3 := (hs1.1.at_ 3).trans rfl
  have b1_3 := (hs1.2.1.at_ 3).trans rfl
  have a1_4 := (hs1.1.at_ 4).trans rfl
  have b1_4 := (hs1.2.1.at_ 4).trans rfl
  go_wp2_with fail
  refine (reads_any _ _ 6 6 3 3 [0, 5, 17, 5, 27, 5] ([⟨6, 0, 5, 0, []⟩, ⟨6, 1, 5, 0, []⟩, ⟨6, 1, 5, 0, []⟩] : List OpV) _ (by exact (BReads.lit _ 5 [0, 5, 17, 5, 27, 5] _ _ (by unfold IsBytes; decide) (by simp) rfl).alloc _) (by decide) (by decide) (fun h => by cases h) (by decide) (oreads_lit w _ ([⟨6, 0, 5, 0, []⟩, ⟨6, 1, 5, 0, []⟩, ⟨6, 1, 5, 0, []⟩] : List OpV) _ _ (by exact Blk.mk_ _ 33 _ _ (by simp)) rfl (by decide)) (by decide)).mono ?_
  rintro e w2 ⟨rfl, hb2⟩
  rw [fr1]
  have hs2 : Blk w2 w.heap.size 33 #[.int .i64 6, .int .i64 1, .int .i64 5, .int .i64 0, .slice none 0 0] ∧ Blk w2 (w.heap.size + 1) 33 #[.int .i64 6, .int .i64 1, .int .i64 5, .int .i64 1, .slice none 0 0] ∧ Below w.heap.size w w2 := by
    have hb : Below w1.heap.size w1 w2 := Below.trans (by (focus (repeat' (first | (with_reducible exact Below.refl _ _) | (with_reducible assumption) | (with_reducible refine Below.alloc ?_ ?_ _) | (with_reducible refine below_drewN ?_ _) | (with_reducible refine Below.drew ?_) | (with_reducible refine Below.setCell ?_ ?_ _) | omega | (simp; done) | (simp; omega))))) (hb2.mono (by (focus (first | omega | (simp only [World.size_alloc]; done) | (simp only [World.size_alloc]; omega) | (simp; done) | (simp; omega)))))
    exact ⟨hs1.1.call hb, hs1.2.1.call hb, hs1.2.2.trans (hb.mono (by omega))⟩
  clear hb2
  have hz2 : w.heap.size + 1 < w2.heap.size := by have := hs2.2.1.lt; omega
  have hy2 : w.heap.size < w2.heap.size := by omega
  have a2_0 := (hs2.1.at_ 0).trans rfl
  have b2_0 := (hs2.2.1.at_ 0).trans rfl
  have a2_1 := (hs2.1.at_ 1).trans rfl
  have b2_1 := (hs2.2.1.at_ 1).trans rfl
  have a2_2 := (hs2.1.at_ 2).trans rfl
  have b2_2 := (hs2.2.1.at_ 2).trans rfl
  have a2_3 := (hs2.1.at_ 3).trans rfl
  have b2_3 := (hs2.2.1.at_ 3).trans rfl
  have a2_4 := (hs2.1.at_ 4).trans rfl
  have b2_4 := (hs2.2.1.at_ 4).trans rfl
  clear hs1 hz1 hy1 a1_0 b1_0 a1_1 b1_1 a1_2 b1_2 a1_3 b1_3 a1_4 b1_4
  go_wp2_with fail
  refine (reads_any _ _ 8 8 4 4 [23, 5, 1, 6, 4, 3, 9, 7] ([⟨6, 1, 5, 1, []⟩, ⟨5, 0, 1, 0, []⟩, ⟨2, 0, 0, 0, []⟩, ⟨8, 0, 7, 0, []⟩] : List OpV) _ (by exact (BReads.lit _ 5 [23, 5, 1, 6, 4, 3, 9, 7] _ _ (by unfold IsBytes; decide) (by simp) rfl).alloc _) (by decide) (by decide) (fun h => by cases h) (by decide) (oreads_lit w _ ([⟨6, 1, 5, 1, []⟩, ⟨5, 0, 1, 0, []⟩, ⟨2, 0, 0, 0, []⟩, ⟨8, 0, 7, 0, []⟩] : List OpV) _ _ (by exact Blk.mk_ _ 33 _ _ (by simp)) rfl (by decide)) (by decide)).mono ?_
  rintro e w3 ⟨rfl, hb3⟩
  rw [fr2]
  have hs3 : Blk w3 w.heap.size 33 #[.int .i64 6, .int .i64 1, .int .i64 5, .int .i64 0, .slice none 0 0] ∧ Blk w3 (w.heap.size + 1) 33 #[.int .i64 6, .int .i64 1, .int .i64 5, .int .i64 1, .slice none 0 0] ∧ Below w.heap.size w w3 := by
    have hb : Below w2.heap.size w2 w3 := Below.trans (by (focus (repeat' (first | (with_reducible exact Below.refl _ _) | (with_reducible assumption) | (with_reducible refine Below.alloc ?_ ?_ _) | (with_reducible refine below_drewN ?_ _) | (with_reducible refine Below.drew ?_) | (with_reducible refine Below.setCell ?_ ?_ _) | omega | (simp; done) | (simp; omega))))) (hb3.mono (by (focus (first | omega | (simp only [World.size_alloc]; done) | (simp only [World.size_alloc]; omega) | (simp; done) | (simp; omega)))))
    exact ⟨hs2.1.call hb, hs2.2.1.call hb, hs2.2.2.trans (hb.mono (by omega))⟩
  clear hb3
  have hz3 : w.heap.size + 1 < w3.heap.size := by have := hs3.2.1.lt; omega
  have hy3 : w.heap.size < w3.heap.size := by omega
  have a3_0 := (hs3.1.at_ 0).trans rfl
  have b3_0 := (hs3.2.1.at_ 0).trans rfl
  have a3_1 := (hs3.1.at_ 1).trans rfl
  have b3_1 := (hs3.2.1.at_ 1).trans rfl
  have a3_2 := (hs3.1.at_ 2).trans rfl
  have b3_2 := (hs3.2.1.at_ 2).trans rfl
  have a3_3 := (hs3.1.at_ 3).trans rfl
  have b3_3 := (hs3.2.1.at_ 3).trans rfl
  have a3_4 := (hs3.1.at_ 4).trans rfl
  have b3_4 := (hs3.2.1.at_ 4).trans rfl
  clear hs2 hz2 hy2 a2_0 b2_0 a2_1 b2_1 a2_2 b2_2 a2_3 b2_3 a2_4 b2_4
  go_wp2_with fail
  refine (reads_any _ _ 3 3 1 1 [21, 2, 65] ([⟨4, 1, 0, 0, [65, 0]⟩] : List OpV) _ (by exact ((BReads.lit _ 5 [21, 2, 65] _ _ (by unfold IsBytes; decide) rfl rfl).alloc _).alloc _) (by decide) (by decide) (fun h => by cases h) (by decide) (oreads_one _ ⟨4, 1, 0, 0, [65, 0]⟩ _ (w3.heap.size + 1) (by exact Blk.mk_ _ 33 _ _ (by simp)) (by exact (BReads.lit _ 5 [65, 0] _ _ (by unfold IsBytes; decide) (by simp) rfl).alloc _)) (by decide)).mono ?_
  rintro e w4 ⟨rfl, hb4⟩
  rw [fr3]
  have hs4 : Blk w4 w.heap.size 33 #[.int .i64 6, .int .i64 1, .int .i64 5, .int .i64 0, .slice none 0 0] ∧ Blk w4 (w.heap.size + 1) 33 #[.int .i64 6, .int .i64 1, .int .i64 5, .int .i64 1, .slice none 0 0] ∧ Below w.heap.size w w4 := by
    have hb : Below w3.heap.size w3 w4 := Below.trans (by (focus (repeat' (first | (with_reducible exact Below.refl _ _) | (with_reducible assumption) | (with_reducible refine Below.alloc ?_ ?_ _) | (with_reducible refine below_drewN ?_ _) | (with_reducible refine Below.drew ?_) | (with_reducible refine Below.setCell ?_ ?_ _) | omega | (simp; done) | (simp; omega))))) (hb4.mono (by (focus (first | omega | (simp only [World.size_alloc]; done) | (simp only [World.size_alloc]; omega) | (simp; done) | (simp; omega)))))
    exact ⟨hs3.1.call hb, hs3.2.1.call hb, hs3.2.2.trans (hb.mono (by omega))⟩
  clear hb4
  have hz4 : w.heap.size + 1 < w4.heap.size := by have := hs4.2.1.lt; omega
  have hy4 : w.heap.size < w4.heap.size := by omega
  have a4_0 := (hs4.1.at_ 0).trans rfl
  have b4_0 := (hs4.2.1.at_ 0).trans rfl
  have a4_1 := (hs4.1.at_ 1).trans rfl
  have b4_1 := (hs4.2.1.at_ 1).trans rfl
  have a4_2 := (hs4.1.at_ 2).trans rfl
  have b4_2 := (hs4.2.1.at_ 2).trans rfl
  have a4_3 := (hs4.1.at_ 3).trans rfl
  have b4_3 := (hs4.2.1.at_ 3).trans rfl
  have a4_4 := (hs4.1.at_ 4).trans rfl
  have b4_4 := (hs4.2.1.at_ 4).trans rfl
  clear hs3 hz3 hy3 a3_0 b3_0 a3_1 b3_1 a3_2 b3_2 a3_3 b3_3 a3_4 b3_4
  go_wp2_with fail
  refine (reads_any _ _ 1 1 1 1 [8] ([⟨7, 0, 0, 0, []⟩] : List OpV) _ (by exact (BReads.lit _ 5 [8] _ _ (by unfold IsBytes; decide) (by simp) rfl).alloc _) (by decide) (by decide) (fun h => by cases h) (by decide) (oreads_lit w _ ([⟨7, 0, 0, 0, []⟩] : List OpV) _ _ (by exact Blk.mk_ _ 33 _ _ (by simp)) rfl (by decide)) (by decide)).mono ?_
  rintro e w5 ⟨rfl, hb5⟩
  rw [fr4]
  have hs5 : Blk w5 w.heap.size 33 #[.int .i64 6, .int .i64 1, .int .i64 5, .int .i64 0, .slice none 0 0] ∧ Blk w5 (w.heap.size + 1) 33 #[.int .i64 6, .int .i64 1, .int .i64 5, .int .i64 1, .slice none 0 0] ∧ Below w.heap.size w w5 := by
    have hb : Below w4.heap.size w4 w5 := Below.trans (by (focus (repeat' (first | (with_reducible exact Below.refl _ _) | (with_reducible assumption) | (with_reducible refine Below.alloc ?_ ?_ _) | (with_reducible refine below_drewN ?_ _) | (with_reducible refine Below.drew ?_) | (with_reducible refine Below.setCell ?_ ?_ _) | omega | (simp; done) | (simp; omega))))) (hb5.mono (by (focus (first | omega | (simp only [World.size_alloc]; done) | (simp only [World.size_alloc]; omega) | (simp; done) | (simp; omega)))))
    exact ⟨hs4.1.call hb, hs4.2.1.call hb, hs4.2.2.trans (hb.mono (by omega))⟩
  clear hb5
  have hz5 : w.heap.size + 1 < w5.heap.size := by have := hs5.2.1.lt; omega
  have hy5 : w.heap.size < w5.heap.size := by omega
  have a5_0 := (hs5.1.at_ 0).trans rfl
  have b5_0 := (hs5.2.1.at_ 0).trans rfl
  have a5_1 := (hs5.1.at_ 1).trans rfl
  have b5_1 := (hs5.2.1.at_ 1).trans rfl
  have a5_2 := (hs5.1.at_ 2).trans rfl
  have b5_2 := (hs5.2.1.at_ 2).trans rfl
  have a5_3 := (hs5.1.at_ 3).trans rfl
  have b5_3 := (hs5.2.1.at_ 3).trans rfl
  have a5_4 := (hs5.1.at_ 4).trans rfl
  have b5_4 := (hs5.2.1.at_ 4).trans rfl
  clear hs4 hz4 hy4 a4_0 b4_0 a4_1 b4_1 a4_2 b4_2 a4_3 b4_3 a4_4 b4_4
  have HB5 := Lib.hid hs5.2.2
  have HS5 : Hid (w5.drew.cell? ⟨w.heap.size, 0, none⟩ = some (.int .i64 6) ∧ w5.drew.cell? ⟨w.heap.size, 1, none⟩ = some (.int .i64 1) ∧ w5.drew.cell? ⟨w.heap.size, 2, none⟩ = some (.int .i64 5) ∧ w5.drew.cell? ⟨w.heap.size, 3, none⟩ = some (.int .i64 0) ∧ w5.drew.cell? ⟨w.heap.size, 4, none⟩ = some (.slice none 0 0) ∧ w5.drew.cell? ⟨w.heap.size + 1, 0, none⟩ = some (.int .i64 6) ∧ w5.drew.cell? ⟨w.heap.size + 1, 1, none⟩ = some (.int .i64 1) ∧ w5.drew.cell? ⟨w.heap.size + 1, 2, none⟩ = some (.int .i64 5) ∧ w5.drew.cell? ⟨w.heap.size + 1, 3, none⟩ = some (.int .i64 1) ∧ w5.drew.cell? ⟨w.heap.size + 1, 4, none⟩ = some (.slice none 0 0) ∧ w.heap.size + 1 < w5.drew.heap.size ∧ Below w.heap.size w w5.drew) := Lib.hid ⟨a5_0, a5_1, a5_2, a5_3, a5_4, b5_0, b5_1, b5_2, b5_3, b5_4, hz5, hs5.2.2.drew⟩
  have HS6 : Hid (w5.cell? ⟨w.heap.size, 0, none⟩ = some (.int .i64 6) ∧ w5.cell? ⟨w.heap.size, 1, none⟩ = some (.int .i64 1) ∧ w5.cell? ⟨w.heap.size, 2, none⟩ = some (.int .i64 5) ∧ w5.cell? ⟨w.heap.size, 3, none⟩ = some (.int .i64 0) ∧ w5.cell? ⟨w.heap.size, 4, none⟩ = some (.slice none 0 0) ∧ w5.cell? ⟨w.heap.size + 1, 0, none⟩ = some (.int .i64 6) ∧ w5.cell? ⟨w.heap.size + 1, 1, none⟩ = some (.int .i64 1) ∧ w5.cell? ⟨w.heap.size + 1, 2, none⟩ = some (.int .i64 5) ∧ w5.cell? ⟨w.heap.size + 1, 3, none⟩ = some (.int .i64 1) ∧ w5.cell? ⟨w.heap.size + 1, 4, none⟩ = some (.slice none 0 0) ∧ w.heap.size + 1 < w5.heap.size ∧ Below w.heap.size w w5) := Lib.hid ⟨a5_0, a5_1, a5_2, a5_3, a5_4, b5_0, b5_1, b5_2, b5_3, b5_4, hz5, hs5.2.2⟩
  have HK : Hid (∀ W W' : World, (W.cell? ⟨w.heap.size, 0, none⟩ = some (.int .i64 6) ∧ W.cell? ⟨w.heap.size, 1, none⟩ = some (.int .i64 1) ∧ W.cell? ⟨w.heap.size, 2, none⟩ = some (.int .i64 5) ∧ W.cell? ⟨w.heap.size, 3, none⟩ = some (.int .i64 0) ∧ W.cell? ⟨w.heap.size, 4, none⟩ = some (.slice none 0 0) ∧ W.cell? ⟨w.heap.size + 1, 0, none⟩ = some (.int .i64 6) ∧ W.cell? ⟨w.heap.size + 1, 1, none⟩ = some (.int .i64 1) ∧ W.cell? ⟨w.heap.size + 1, 2, none⟩ = some (.int .i64 5) ∧ W.cell? ⟨w.heap.size + 1, 3, none⟩ = some (.int .i64 1) ∧ W.cell? ⟨w.heap.size + 1, 4, none⟩ = some (.slice none 0 0) ∧ w.heap.size + 1 < W.heap.size ∧ Below w.heap.size w W) → Below W.heap.size W W' → (W'.cell? ⟨w.heap.size, 0, none⟩ = some (.int .i64 6) ∧ W'.cell? ⟨w.heap.size, 1, none⟩ = some (.int .i64 1) ∧ W'.cell? ⟨w.heap.size, 2, none⟩ = some (.int .i64 5) ∧ W'.cell? ⟨w.heap.size, 3, none⟩ = some (.int .i64 0) ∧ W'.cell? ⟨w.heap.size, 4, none⟩ = some (.slice none 0 0) ∧ W'.cell? ⟨w.heap.size + 1, 0, none⟩ = some (.int .i64 6) ∧ W'.cell? ⟨w.heap.size + 1, 1, none⟩ = some (.int .i64 1) ∧ W'.cell? ⟨w.heap.size + 1, 2, none⟩ = some (.int .i64 5) ∧ W'.cell? ⟨w.heap.size + 1, 3, none⟩ = some (.int .i64 1) ∧ W'.cell? ⟨w.heap.size + 1, 4, none⟩ = some (.slice none 0 0) ∧ w.heap.size + 1 < W'.heap.size ∧ Below w.heap.size w W')) := Lib.hid (by
    intro W W' ⟨h0, h1, h2, h3, h4, h5, h6, h7, h8, h9, hz, hB⟩ hb
    have k0 := keep_at hb w.heap.size (by omega)
    have k1 := keep_at hb (w.heap.size + 1) hz
    have hs := hb.size
    exact ⟨(k0 _).trans h0, (k0 _).trans h1, (k0 _).trans h2, (k0 _).trans h3, (k0 _).trans h4, (k1 _).trans h5, (k1 _).trans h6, (k1 _).trans h7, (k1 _).trans h8, (k1 _).trans h9, by omega, below_call hB hb (by omega)⟩)
  clear hs5 hz5 hy5 a5_0 b5_0 a5_1 b5_1 a5_2 b5_2 a5_3 b5_3 a5_4 b5_4
  go_wp2
  go_region_held3 (fun W => W.cell? ⟨w.heap.size, 0, none⟩ = some (.int .i64 6) ∧ W.cell? ⟨w.heap.size, 1, none⟩ = some (.int .i64 1) ∧ W.cell? ⟨w.heap.size, 2, none⟩ = some (.int .i64 5) ∧ W.cell? ⟨w.heap.size, 3, none⟩ = some (.int .i64 0) ∧ W.cell? ⟨w.heap.size, 4, none⟩ = some (.slice none 0 0) ∧ W.cell? ⟨w.heap.size + 1, 0, none⟩ = some (.int .i64 6) ∧ W.cell? ⟨w.heap.size + 1, 1, none⟩ = some (.int .i64 1) ∧ W.cell? ⟨w.heap.size + 1, 2, none⟩ = some (.int .i64 5) ∧ W.cell? ⟨w.heap.size + 1, 3, none⟩ = some (.int .i64 1) ∧ W.cell? ⟨w.heap.size + 1, 4, none⟩ = some (.slice none 0 0) ∧ w.heap.size + 1 < W.heap.size ∧ Below w.heap.size w W)
    (first | assumption | exact HS5.out | exact HS6.out | exact HK.out _ _ (by assumption) hb | exact HK.out _ _ (by assumption) (Below.alloc (Below.refl _ _) (Nat.le_refl _) _))
    (first
      | (go_at_call 19; refine (tick_any _ _).mono ?_; rintro e w' ⟨rfl, hb⟩)
      | (go_at_call 12; (with_reducible refine (writes_any _ _ 4 4 10 10 [4, 255, 10, 1, 0, 16, 5, 23, 5, 1] 0 ([⟨3, 0, 255, 0, []⟩, ⟨3, 0, 256, 0, []⟩, ⟨6, 1, 5, 0, []⟩, ⟨6, 1, 5, 1, []⟩] : List OpV) _ ?_ (by decide) (by decide) ?_).mono ?_); (first | exact oreads_lit w _ ([⟨3, 0, 255, 0, []⟩, ⟨3, 0, 256, 0, []⟩, ⟨6, 1, 5, 0, []⟩, ⟨6, 1, 5, 1, []⟩] : List OpV) _ _ (Blk.mk_ _ 33 _ _ (by simp)) rfl (by decide) | exact oreads_lit w _ ([⟨3, 0, 255, 0, []⟩, ⟨3, 0, 256, 0, []⟩, ⟨6, 1, 5, 0, []⟩, ⟨6, 1, 5, 1, []⟩] : List OpV) _ _ ((Blk.mk_ _ 33 _ _ (by simp)).alloc _) rfl (by decide)); (first | exact (BReads.lit _ 5 [4, 255, 10, 1, 0, 16, 5, 23, 5, 1] _ _ (by unfold IsBytes; decide) (by simp) rfl) | exact (BReads.lit _ 5 [4, 255, 10, 1, 0, 16, 5, 23, 5, 1] _ _ (by unfold IsBytes; decide) (by simp) rfl).alloc _ | (refine BReads.alloc (BReads.below ?_ hb) _; exact (BReads.lit _ 5 [4, 255, 10, 1, 0, 16, 5, 23, 5, 1] _ _ (by unfold IsBytes; decide) (by simp) rfl)) | (refine BReads.alloc (BReads.below ?_ hb) _; refine BReads.below ?_ (by assumption); exact (BReads.lit _ 5 [4, 255, 10, 1, 0, 16, 5, 23, 5, 1] _ _ (by unfold IsBytes; decide) (by simp) rfl))); rintro e w' ⟨rfl, hb⟩; rw [fw0])
      | (go_at_call 12; (with_reducible refine (writes_any _ _ 1 1 0 0 [] 2 ([⟨5, 0, 3, 0, []⟩] : List OpV) _ ?_ (by decide) (by decide) ?_).mono ?_); (first | exact oreads_lit w _ ([⟨5, 0, 3, 0, []⟩] : List OpV) _ _ (Blk.mk_ _ 33 _ _ (by simp)) rfl (by decide) | exact oreads_lit w _ ([⟨5, 0, 3, 0, []⟩] : List OpV) _ _ ((Blk.mk_ _ 33 _ _ (by simp)).alloc _) rfl (by decide)); exact breads_zero _ _; rintro e w' ⟨rfl, hb⟩; rw [fw1])
      | (go_at_call 12; (with_reducible refine (writes_any _ _ 1 1 0 0 [] 2 ([⟨3, 0, 65536, 0, []⟩] : List OpV) _ ?_ (by decide) (by decide) ?_).mono ?_); (first | exact oreads_lit w _ ([⟨3, 0, 65536, 0, []⟩] : List OpV) _ _ (Blk.mk_ _ 33 _ _ (by simp)) rfl (by decide) | exact oreads_lit w _ ([⟨3, 0, 65536, 0, []⟩] : List OpV) _ _ ((Blk.mk_ _ 33 _ _ (by simp)).alloc _) rfl (by decide)); exact breads_zero _ _; rintro e w' ⟨rfl, hb⟩; rw [fw2])
      | fail)
  all_goals go_wp2
  all_goals go_ret
  all_goals exact ⟨rfl, by go_split_ands; assumption⟩

end Go.Proofs.Ytpmlipcpohajgaa
