/-
  The examples of the chapter.
-/
import Derived.Test.YtbcleifhadkecaaHelp
import Derived.Lib.SlBytesConst
set_option linter.unusedSimpArgs false
set_option linter.unusedVariables false
namespace Go.Proofs.Ytbcleifhadkecaa
open Go.RowKit

theorem eqB_self (r : Rd) : eqB r.k r.s r.m r.d r.k r.s r.m r.d = true := by simp [eqB]
theorem readsB_self (r : Rd) : readsB r r.k r.s r.m r.d r.er = true := by simp [readsB, eqB]
theorem nil_reads (w : World) : BReads w none 0 [] := ⟨Reads.none_, fun _ h => by cases h⟩

/-- A row that an append has just laid, with room behind: it reads as what was laid. -/
theorem BReads.lit_pre (w : World) (e : TypeId) (xs : List Int) (zs : Array Value) (g n : Nat) (hx : IsBytes xs) (hg : w.heap.size = g) (hn : xs.length = n) : BReads (w.alloc (.cells ((bys xs).toArray ++ zs) e)) (some ⟨g, 0, none⟩) n xs := by
  subst hg hn
  refine ⟨⟨by simp [bys], fun _ => ⟨_, rfl, by simp, fun j u hj => ?_⟩⟩, hx⟩
  have hb : (w.alloc (.cells ((bys xs).toArray ++ zs) e)).heap[w.heap.size]? = some (.cells ((bys xs).toArray ++ zs) e (0, 0)) := by
    show (w.heap.push _)[w.heap.size]? = _
    simp
  refine World.news_of_block hb j u ?_
  have hl : j < (bys xs).length := by
    rcases Nat.lt_or_ge j (bys xs).length with h | h
    · exact h
    · rw [List.getElem?_eq_none h] at hj; cases hj
  simp only [Array.toList_append]
  rw [List.getElem?_append_left hl]
  exact hj

theorem own_cap {w : World} {base : Nat} {e : TypeId} {A : Option Addr} {n cap : Nat} {xs : List Int} (h : BOwns w base e A n cap xs) : n ≤ cap := by
  rcases h.1.2 with ⟨hv, hn⟩ | ⟨g, c, cur, hv, _, _, hle, _⟩
  · omega
  · injection hv with _ _ hc
    omega

/-- A row with a mark: it reads as it was laid. -/
theorem BReads.lit_fr (w : World) (e : TypeId) (xs : List Int) (fr : Nat × Nat) (g n : Nat) (hx : IsBytes xs) (hg : w.heap.size = g) (hn : xs.length = n) : BReads (w.alloc (.cells (bys xs).toArray e fr)) (some ⟨g, 0, none⟩) n xs := by
  subst hg hn
  refine ⟨⟨by simp [bys], fun _ => ⟨_, rfl, by simp, fun j u hj => ?_⟩⟩, hx⟩
  have hb : (w.alloc (.cells (bys xs).toArray e fr)).heap[w.heap.size]? = some (.cells (bys xs).toArray e fr) := by
    show (w.heap.push _)[w.heap.size]? = _
    simp
  exact World.news_of_block hb j u hj

set_option maxRecDepth 100000 in
set_option maxHeartbeats 1600000 in
theorem known_any (w : World) : Calls Try.prog 9 #[] w fun e w' => e = .returned (.bool true) ∧ Below w.heap.size w w' := by
  have HT : Hid (∀ W, Below (w.heap.size + 3) (((w.alloc (.cells #[.int .i64 0, .int .u16 0, .int .u32 0, .slice none 0 0] 27)).alloc (.cells #[.int .i64 3, .int .u16 258, .int .u32 0, .slice none 0 0] 27)).alloc (.cells #[.int .u8 3, .int .u8 1, .int .u8 2, .int .u8 23] 5)) W → BReads W (some ⟨w.heap.size + 1 + 1, 0, none⟩) 4 [3, 1, 2, 23]) := fun W h => (BReads.lit _ _ [3, 1, 2, 23] _ _ (by unfold IsBytes; decide) (by (focus (first | omega | (simp only [World.size_alloc]; done) | (simp only [World.size_alloc]; omega) | (simp; done) | (simp; omega)))) rfl).below (h.mono (by (focus (first | omega | (simp only [World.size_alloc]; done) | (simp only [World.size_alloc]; omega) | (simp; done) | (simp; omega)))))
  have f1 : chk [] = 85 := by decide
  have f2 : chk [3] = 2 := by decide
  have f3 : chk [3, 1] = 7 := by decide
  have f4 : chk [3, 1, 2] = 23 := by decide
  have f5 : writesB 3 258 0 0 [] [3, 1, 2, 23] 0 = true := by decide
  have f6 : chk [4, 0, 0, 0, 1] = 244 := by decide
  have f7 : writesB 4 0 1 0 [] [4, 0, 0, 0, 1, 244] 0 = true := by decide
  have f8 : readsB (rd [3, 1, 2, 23]) 3 258 0 [] 0 = true := by decide
  have f9 : readsB (rd [3, 1, 2, 24]) 0 0 0 [] 10 = true := by decide
  have f10 : readsB (rd [3, 1, 2]) 0 0 0 [] 10 = true := by decide
  have f11 : readsB (rd [3]) 0 0 0 [] 4 = true := by decide
  have f12 : writesB 1 0 0 3 [97, 98, 99] [] 2 = true := by decide
  have f13 : writesB 4 1 0 0 [] [] 2 = true := by decide
  have f14 : writesB 5 0 0 0 [] [] 2 = true := by decide
  have f15 : readsB (fromR 100 (wr 14 0 0 [])) 0 0 0 [] 6 = true := by decide
  have f16 : readsB (fromR 3 [3, 1, 2, 23]) 0 0 0 [] 5 = true := by decide
  have f17 : readsB (fromR (-1) [3, 1, 2, 23]) 0 0 0 [] 2 = true := by decide
  have hconv := fun (w : World) (C : Array Value) (n c : Nat) => Lib.run_convert_bytes_const (P := Try.prog) w 25 5 C n c Try.underlying25 Try.underlying5
  go_enter Try.func9, Try.ntmps9
  go_wp2_with fail
  refine (rcheck_any _ _ _ [] _ (nil_reads _) (by decide)).mono ?_
  rintro e w' ⟨rfl, rfl⟩
  go_wp2_with fail
  refine (rcheck_any _ _ _ [3] _ (BReads.lit _ _ [3] _ _ (by unfold IsBytes; decide) (by (focus (first | omega | (simp only [World.size_alloc]; done) | (simp only [World.size_alloc]; omega) | (simp; done) | (simp; omega)))) rfl) (by decide)).mono ?_
  rintro e w' ⟨rfl, rfl⟩
  go_wp2_with fail
  refine (rcheck_any _ _ _ [3, 1] _ (BReads.lit _ _ [3, 1] _ _ (by unfold IsBytes; decide) (by (focus (first | omega | (simp only [World.size_alloc]; done) | (simp only [World.size_alloc]; omega) | (simp; done) | (simp; omega)))) rfl) (by decide)).mono ?_
  rintro e w' ⟨rfl, rfl⟩
  go_wp2_with fail
  refine (rcheck_any _ _ _ [3, 1, 2] _ (BReads.lit _ _ [3, 1, 2] _ _ (by unfold IsBytes; decide) (by (focus (first | omega | (simp only [World.size_alloc]; done) | (simp only [World.size_alloc]; omega) | (simp; done) | (simp; omega)))) rfl) (by decide)).mono ?_
  rintro e w' ⟨rfl, rfl⟩
  go_wp2_with fail
  refine (writes_any 3 258 0 none 0 0 [] _ _ _ [3, 1, 2, 23] 0 _ (nil_reads _) (fun _ => rfl) (.inl (by decide)) (by decide) (by decide) (HT.out _ (by (focus (repeat' (first | (with_reducible exact Below.refl _ _) | (with_reducible assumption) | (with_reducible refine Below.alloc ?_ ?_ _) | (with_reducible refine below_drewN ?_ _) | (with_reducible refine Below.drew ?_) | (with_reducible refine Below.setCell ?_ ?_ _) | omega | (simp; done) | (simp; omega))))))).mono ?_
  rintro e w1 ⟨rfl, hb1⟩
  have hV1 : Below (w.heap.size + 3) (((w.alloc (.cells #[.int .i64 0, .int .u16 0, .int .u32 0, .slice none 0 0] 27)).alloc (.cells #[.int .i64 3, .int .u16 258, .int .u32 0, .slice none 0 0] 27)).alloc (.cells #[.int .u8 3, .int .u8 1, .int .u8 2, .int .u8 23] 5)) w1 := Below.trans (by (focus (repeat' (first | (with_reducible exact Below.refl _ _) | (with_reducible assumption) | (with_reducible refine Below.alloc ?_ ?_ _) | (with_reducible refine below_drewN ?_ _) | (with_reducible refine Below.drew ?_) | (with_reducible refine Below.setCell ?_ ?_ _) | omega | (simp; done) | (simp; omega))))) (hb1.mono (by (focus (first | omega | (simp only [World.size_alloc]; done) | (simp only [World.size_alloc]; omega) | (simp; done) | (simp; omega)))))
  have hS1 : w.heap.size + 3 ≤ w1.heap.size := by have := hV1.size; simp only [World.size_alloc] at this; omega
  have hn1 := keep_at hV1 w.heap.size (by omega)
  have hc1 := keep_at hV1 (w.heap.size + 1) (by omega)
  have hy1 : w.heap.size < w1.heap.size := by omega
  have hz1 : w.heap.size + 1 < w1.heap.size := by omega
  clear hb1
  go_wp2_with fail
  refine (rcheck_any _ _ _ [4, 0, 0, 0, 1] _ (BReads.lit _ _ [4, 0, 0, 0, 1] _ _ (by unfold IsBytes; decide) (by (focus (first | omega | (simp only [World.size_alloc]; done) | (simp only [World.size_alloc]; omega) | (simp; done) | (simp; omega)))) rfl) (by decide)).mono ?_
  rintro e w' ⟨rfl, rfl⟩
  go_wp2_with fail
  refine (writes_any 4 0 1 none 0 0 [] _ _ _ [4, 0, 0, 0, 1, 244] 0 _ (nil_reads _) (fun _ => rfl) (.inl (by decide)) (by decide) (by decide) (BReads.drew (BReads.lit_pre _ _ [4, 0, 0, 0, 1, 244] _ _ _ (by unfold IsBytes; decide) (by (focus (first | omega | (simp only [World.size_alloc]; done) | (simp only [World.size_alloc]; omega) | (simp; done) | (simp; omega)))) rfl))).mono ?_
  rintro e w2 ⟨rfl, hb2⟩
  have hV2 : Below (w.heap.size + 3) (((w.alloc (.cells #[.int .i64 0, .int .u16 0, .int .u32 0, .slice none 0 0] 27)).alloc (.cells #[.int .i64 3, .int .u16 258, .int .u32 0, .slice none 0 0] 27)).alloc (.cells #[.int .u8 3, .int .u8 1, .int .u8 2, .int .u8 23] 5)) w2 := Below.trans (by (focus (repeat' (first | (with_reducible exact Below.refl _ _) | (with_reducible assumption) | (with_reducible refine Below.alloc ?_ ?_ _) | (with_reducible refine below_drewN ?_ _) | (with_reducible refine Below.drew ?_) | (with_reducible refine Below.setCell ?_ ?_ _) | omega | (simp; done) | (simp; omega))))) (hb2.mono (by (focus (first | omega | (simp only [World.size_alloc]; done) | (simp only [World.size_alloc]; omega) | (simp; done) | (simp; omega)))))
  have hS2 : w.heap.size + 3 ≤ w2.heap.size := by have := hV2.size; simp only [World.size_alloc] at this; omega
  have hn2 := keep_at hV2 w.heap.size (by omega)
  have hc2 := keep_at hV2 (w.heap.size + 1) (by omega)
  have hy2 : w.heap.size < w2.heap.size := by omega
  have hz2 : w.heap.size + 1 < w2.heap.size := by omega
  clear hV1 hS1 hn1 hc1 hy1 hz1
  clear hb2
  go_wp2_with fail
  refine (reads_any _ _ _ [3, 1, 2, 23] 3 258 0 none 0 0 [] 0 _ (HT.out _ (by (focus (repeat' (first | (with_reducible exact Below.refl _ _) | (with_reducible assumption) | (with_reducible refine Below.alloc ?_ ?_ _) | (with_reducible refine below_drewN ?_ _) | (with_reducible refine Below.drew ?_) | (with_reducible refine Below.setCell ?_ ?_ _) | omega | (simp; done) | (simp; omega)))))) (by decide) (nil_reads _)).mono ?_
  rintro e w3 ⟨rfl, hb3⟩
  have hV3 : Below (w.heap.size + 3) (((w.alloc (.cells #[.int .i64 0, .int .u16 0, .int .u32 0, .slice none 0 0] 27)).alloc (.cells #[.int .i64 3, .int .u16 258, .int .u32 0, .slice none 0 0] 27)).alloc (.cells #[.int .u8 3, .int .u8 1, .int .u8 2, .int .u8 23] 5)) w3 := Below.trans (by (focus (repeat' (first | (with_reducible exact Below.refl _ _) | (with_reducible assumption) | (with_reducible refine Below.alloc ?_ ?_ _) | (with_reducible refine below_drewN ?_ _) | (with_reducible refine Below.drew ?_) | (with_reducible refine Below.setCell ?_ ?_ _) | omega | (simp; done) | (simp; omega))))) (hb3.mono (by (focus (first | omega | (simp only [World.size_alloc]; done) | (simp only [World.size_alloc]; omega) | (simp; done) | (simp; omega)))))
  have hS3 : w.heap.size + 3 ≤ w3.heap.size := by have := hV3.size; simp only [World.size_alloc] at this; omega
  have hn3 := keep_at hV3 w.heap.size (by omega)
  have hc3 := keep_at hV3 (w.heap.size + 1) (by omega)
  have hy3 : w.heap.size < w3.heap.size := by omega
  have hz3 : w.heap.size + 1 < w3.heap.size := by omega
  clear hV2 hS2 hn2 hc2 hy2 hz2
  clear hb3
  go_wp2_with fail
  refine (reads_any _ _ _ [3, 1, 2, 24] 0 0 0 none 0 0 [] 10 _ (BReads.lit _ _ [3, 1, 2, 24] _ _ (by unfold IsBytes; decide) (by (focus (first | omega | (simp only [World.size_alloc]; done) | (simp only [World.size_alloc]; omega) | (simp; done) | (simp; omega)))) rfl) (by decide) (nil_reads _)).mono ?_
  rintro e w4 ⟨rfl, hb4⟩
  have hV4 : Below (w.heap.size + 3) (((w.alloc (.cells #[.int .i64 0, .int .u16 0, .int .u32 0, .slice none 0 0] 27)).alloc (.cells #[.int .i64 3, .int .u16 258, .int .u32 0, .slice none 0 0] 27)).alloc (.cells #[.int .u8 3, .int .u8 1, .int .u8 2, .int .u8 23] 5)) w4 := Below.trans (by (focus (repeat' (first | (with_reducible exact Below.refl _ _) | (with_reducible assumption) | (with_reducible refine Below.alloc ?_ ?_ _) | (with_reducible refine below_drewN ?_ _) | (with_reducible refine Below.drew ?_) | (with_reducible refine Below.setCell ?_ ?_ _) | omega | (simp; done) | (simp; omega))))) (hb4.mono (by (focus (first | omega | (simp only [World.size_alloc]; done) | (simp only [World.size_alloc]; omega) | (simp; done) | (simp; omega)))))
  have hS4 : w.heap.size + 3 ≤ w4.heap.size := by have := hV4.size; simp only [World.size_alloc] at this; omega
  have hn4 := keep_at hV4 w.heap.size (by omega)
  have hc4 := keep_at hV4 (w.heap.size + 1) (by omega)
  have hy4 : w.heap.size < w4.heap.size := by omega
  have hz4 : w.heap.size + 1 < w4.heap.size := by omega
  clear hV3 hS3 hn3 hc3 hy3 hz3
  clear hb4
  go_wp2_with fail
  refine (reads_any _ _ _ [3, 1, 2] 0 0 0 none 0 0 [] 10 _ (BReads.lit _ _ [3, 1, 2] _ _ (by unfold IsBytes; decide) (by (focus (first | omega | (simp only [World.size_alloc]; done) | (simp only [World.size_alloc]; omega) | (simp; done) | (simp; omega)))) rfl) (by decide) (nil_reads _)).mono ?_
  rintro e w5 ⟨rfl, hb5⟩
  have hV5 : Below (w.heap.size + 3) (((w.alloc (.cells #[.int .i64 0, .int .u16 0, .int .u32 0, .slice none 0 0] 27)).alloc (.cells #[.int .i64 3, .int .u16 258, .int .u32 0, .slice none 0 0] 27)).alloc (.cells #[.int .u8 3, .int .u8 1, .int .u8 2, .int .u8 23] 5)) w5 := Below.trans (by (focus (repeat' (first | (with_reducible exact Below.refl _ _) | (with_reducible assumption) | (with_reducible refine Below.alloc ?_ ?_ _) | (with_reducible refine below_drewN ?_ _) | (with_reducible refine Below.drew ?_) | (with_reducible refine Below.setCell ?_ ?_ _) | omega | (simp; done) | (simp; omega))))) (hb5.mono (by (focus (first | omega | (simp only [World.size_alloc]; done) | (simp only [World.size_alloc]; omega) | (simp; done) | (simp; omega)))))
  have hS5 : w.heap.size + 3 ≤ w5.heap.size := by have := hV5.size; simp only [World.size_alloc] at this; omega
  have hn5 := keep_at hV5 w.heap.size (by omega)
  have hc5 := keep_at hV5 (w.heap.size + 1) (by omega)
  have hy5 : w.heap.size < w5.heap.size := by omega
  have hz5 : w.heap.size + 1 < w5.heap.size := by omega
  clear hV4 hS4 hn4 hc4 hy4 hz4
  clear hb5
  go_wp2_with fail
  refine (reads_any _ _ _ [3] 0 0 0 none 0 0 [] 4 _ (BReads.lit _ _ [3] _ _ (by unfold IsBytes; decide) (by (focus (first | omega | (simp only [World.size_alloc]; done) | (simp only [World.size_alloc]; omega) | (simp; done) | (simp; omega)))) rfl) (by decide) (nil_reads _)).mono ?_
  rintro e w6 ⟨rfl, hb6⟩
  have hV6 : Below (w.heap.size + 3) (((w.alloc (.cells #[.int .i64 0, .int .u16 0, .int .u32 0, .slice none 0 0] 27)).alloc (.cells #[.int .i64 3, .int .u16 258, .int .u32 0, .slice none 0 0] 27)).alloc (.cells #[.int .u8 3, .int .u8 1, .int .u8 2, .int .u8 23] 5)) w6 := Below.trans (by (focus (repeat' (first | (with_reducible exact Below.refl _ _) | (with_reducible assumption) | (with_reducible refine Below.alloc ?_ ?_ _) | (with_reducible refine below_drewN ?_ _) | (with_reducible refine Below.drew ?_) | (with_reducible refine Below.setCell ?_ ?_ _) | omega | (simp; done) | (simp; omega))))) (hb6.mono (by (focus (first | omega | (simp only [World.size_alloc]; done) | (simp only [World.size_alloc]; omega) | (simp; done) | (simp; omega)))))
  have hS6 : w.heap.size + 3 ≤ w6.heap.size := by have := hV6.size; simp only [World.size_alloc] at this; omega
  have hn6 := keep_at hV6 w.heap.size (by omega)
  have hc6 := keep_at hV6 (w.heap.size + 1) (by omega)
  have hy6 : w.heap.size < w6.heap.size := by omega
  have hz6 : w.heap.size + 1 < w6.heap.size := by omega
  clear hV5 hS5 hn5 hc5 hy5 hz5
  clear hb6
  go_wp2_with fail
  refine (writes_any 1 0 0 _ _ _ [97, 98, 99] none 0 0 [] 2 _ (BReads.lit_fr _ _ [97, 98, 99] _ _ _ (by unfold IsBytes; decide) (by (focus (first | omega | (simp only [World.size_alloc]; done) | (simp only [World.size_alloc]; omega) | (simp; done) | (simp; omega)))) rfl) (fun h => by cases h) (.inl (by decide)) (by decide) (by decide) (nil_reads _)).mono ?_
  rintro e w7 ⟨rfl, hb7⟩
  have hV7 : Below (w.heap.size + 3) (((w.alloc (.cells #[.int .i64 0, .int .u16 0, .int .u32 0, .slice none 0 0] 27)).alloc (.cells #[.int .i64 3, .int .u16 258, .int .u32 0, .slice none 0 0] 27)).alloc (.cells #[.int .u8 3, .int .u8 1, .int .u8 2, .int .u8 23] 5)) w7 := Below.trans (by (focus (repeat' (first | (with_reducible exact Below.refl _ _) | (with_reducible assumption) | (with_reducible refine Below.alloc ?_ ?_ _) | (with_reducible refine below_drewN ?_ _) | (with_reducible refine Below.drew ?_) | (with_reducible refine Below.setCell ?_ ?_ _) | omega | (simp; done) | (simp; omega))))) (hb7.mono (by (focus (first | omega | (simp only [World.size_alloc]; done) | (simp only [World.size_alloc]; omega) | (simp; done) | (simp; omega)))))
  have hS7 : w.heap.size + 3 ≤ w7.heap.size := by have := hV7.size; simp only [World.size_alloc] at this; omega
  have hn7 := keep_at hV7 w.heap.size (by omega)
  have hc7 := keep_at hV7 (w.heap.size + 1) (by omega)
  have hy7 : w.heap.size < w7.heap.size := by omega
  have hz7 : w.heap.size + 1 < w7.heap.size := by omega
  clear hV6 hS6 hn6 hc6 hy6 hz6
  clear hb7
  go_wp2_with fail
  refine (writes_any 4 1 0 none 0 0 [] none 0 0 [] 2 _ (nil_reads _) (fun _ => rfl) (.inl (by decide)) (by decide) (by decide) (nil_reads _)).mono ?_
  rintro e w8 ⟨rfl, hb8⟩
  have hV8 : Below (w.heap.size + 3) (((w.alloc (.cells #[.int .i64 0, .int .u16 0, .int .u32 0, .slice none 0 0] 27)).alloc (.cells #[.int .i64 3, .int .u16 258, .int .u32 0, .slice none 0 0] 27)).alloc (.cells #[.int .u8 3, .int .u8 1, .int .u8 2, .int .u8 23] 5)) w8 := Below.trans (by (focus (repeat' (first | (with_reducible exact Below.refl _ _) | (with_reducible assumption) | (with_reducible refine Below.alloc ?_ ?_ _) | (with_reducible refine below_drewN ?_ _) | (with_reducible refine Below.drew ?_) | (with_reducible refine Below.setCell ?_ ?_ _) | omega | (simp; done) | (simp; omega))))) (hb8.mono (by (focus (first | omega | (simp only [World.size_alloc]; done) | (simp only [World.size_alloc]; omega) | (simp; done) | (simp; omega)))))
  have hS8 : w.heap.size + 3 ≤ w8.heap.size := by have := hV8.size; simp only [World.size_alloc] at this; omega
  have hn8 := keep_at hV8 w.heap.size (by omega)
  have hc8 := keep_at hV8 (w.heap.size + 1) (by omega)
  have hy8 : w.heap.size < w8.heap.size := by omega
  have hz8 : w.heap.size + 1 < w8.heap.size := by omega
  clear hV7 hS7 hn7 hc7 hy7 hz7
  clear hb8
  go_wp2_with fail
  refine (writes_any 5 0 0 none 0 0 [] none 0 0 [] 2 _ (nil_reads _) (fun _ => rfl) (.inl (by decide)) (by decide) (by decide) (nil_reads _)).mono ?_
  rintro e w9 ⟨rfl, hb9⟩
  have hV9 : Below (w.heap.size + 3) (((w.alloc (.cells #[.int .i64 0, .int .u16 0, .int .u32 0, .slice none 0 0] 27)).alloc (.cells #[.int .i64 3, .int .u16 258, .int .u32 0, .slice none 0 0] 27)).alloc (.cells #[.int .u8 3, .int .u8 1, .int .u8 2, .int .u8 23] 5)) w9 := Below.trans (by (focus (repeat' (first | (with_reducible exact Below.refl _ _) | (with_reducible assumption) | (with_reducible refine Below.alloc ?_ ?_ _) | (with_reducible refine below_drewN ?_ _) | (with_reducible refine Below.drew ?_) | (with_reducible refine Below.setCell ?_ ?_ _) | omega | (simp; done) | (simp; omega))))) (hb9.mono (by (focus (first | omega | (simp only [World.size_alloc]; done) | (simp only [World.size_alloc]; omega) | (simp; done) | (simp; omega)))))
  have hS9 : w.heap.size + 3 ≤ w9.heap.size := by have := hV9.size; simp only [World.size_alloc] at this; omega
  have hn9 := keep_at hV9 w.heap.size (by omega)
  have hc9 := keep_at hV9 (w.heap.size + 1) (by omega)
  have hy9 : w.heap.size < w9.heap.size := by omega
  have hz9 : w.heap.size + 1 < w9.heap.size := by omega
  clear hV8 hS8 hn8 hc8 hy8 hz8
  clear hb9
  go_wp2_with fail
  refine (rwrite_any 14 0 0 none 0 0 [] _ (nil_reads _) (fun _ => rfl) (by decide) (by decide) (by decide)).mono ?_
  rintro e w10 ⟨AO, nO, cO, rfl, hoO, hb10⟩
  have hV10 : Below (w.heap.size + 3) (((w.alloc (.cells #[.int .i64 0, .int .u16 0, .int .u32 0, .slice none 0 0] 27)).alloc (.cells #[.int .i64 3, .int .u16 258, .int .u32 0, .slice none 0 0] 27)).alloc (.cells #[.int .u8 3, .int .u8 1, .int .u8 2, .int .u8 23] 5)) w10 := Below.trans (by (focus (repeat' (first | (with_reducible exact Below.refl _ _) | (with_reducible assumption) | (with_reducible refine Below.alloc ?_ ?_ _) | (with_reducible refine below_drewN ?_ _) | (with_reducible refine Below.drew ?_) | (with_reducible refine Below.setCell ?_ ?_ _) | omega | (simp; done) | (simp; omega))))) (hb10.mono (by (focus (first | omega | (simp only [World.size_alloc]; done) | (simp only [World.size_alloc]; omega) | (simp; done) | (simp; omega)))))
  have hS10 : w.heap.size + 3 ≤ w10.heap.size := by have := hV10.size; simp only [World.size_alloc] at this; omega
  have hn10 := keep_at hV10 w.heap.size (by omega)
  have hc10 := keep_at hV10 (w.heap.size + 1) (by omega)
  have hy10 : w.heap.size < w10.heap.size := by omega
  have hz10 : w.heap.size + 1 < w10.heap.size := by omega
  clear hV9 hS9 hn9 hc9 hy9 hz9
  clear hb10
  have HO : Hid (BReads w10 AO nO (wr 14 0 0 []) ∧ nO ≤ cO) := ⟨hoO.reads, own_cap hoO⟩
  clear hoO
  go_wp2_with fail
  refine (fromb_any _ _ _ (wr 14 0 0 []) 100 0 0 0 none 0 0 [] 6 _ HO.out.1 HO.out.2 (nil_reads _)).mono ?_
  rintro e w11 ⟨rfl, hb11⟩
  have hV11 : Below (w.heap.size + 3) (((w.alloc (.cells #[.int .i64 0, .int .u16 0, .int .u32 0, .slice none 0 0] 27)).alloc (.cells #[.int .i64 3, .int .u16 258, .int .u32 0, .slice none 0 0] 27)).alloc (.cells #[.int .u8 3, .int .u8 1, .int .u8 2, .int .u8 23] 5)) w11 := Below.trans (by (focus (repeat' (first | (with_reducible exact Below.refl _ _) | (with_reducible assumption) | (with_reducible refine Below.alloc ?_ ?_ _) | (with_reducible refine below_drewN ?_ _) | (with_reducible refine Below.drew ?_) | (with_reducible refine Below.setCell ?_ ?_ _) | omega | (simp; done) | (simp; omega))))) (hb11.mono (by (focus (first | omega | (simp only [World.size_alloc]; done) | (simp only [World.size_alloc]; omega) | (simp; done) | (simp; omega)))))
  have hS11 : w.heap.size + 3 ≤ w11.heap.size := by have := hV11.size; simp only [World.size_alloc] at this; omega
  have hn11 := keep_at hV11 w.heap.size (by omega)
  have hc11 := keep_at hV11 (w.heap.size + 1) (by omega)
  have hy11 : w.heap.size < w11.heap.size := by omega
  have hz11 : w.heap.size + 1 < w11.heap.size := by omega
  clear hV10 hS10 hn10 hc10 hy10 hz10
  clear hb11
  go_wp2_with fail
  refine (fromb_any _ _ _ [3, 1, 2, 23] 3 0 0 0 none 0 0 [] 5 _ (HT.out _ (by (focus (repeat' (first | (with_reducible exact Below.refl _ _) | (with_reducible assumption) | (with_reducible refine Below.alloc ?_ ?_ _) | (with_reducible refine below_drewN ?_ _) | (with_reducible refine Below.drew ?_) | (with_reducible refine Below.setCell ?_ ?_ _) | omega | (simp; done) | (simp; omega)))))) (by decide) (nil_reads _)).mono ?_
  rintro e w12 ⟨rfl, hb12⟩
  have hV12 : Below (w.heap.size + 3) (((w.alloc (.cells #[.int .i64 0, .int .u16 0, .int .u32 0, .slice none 0 0] 27)).alloc (.cells #[.int .i64 3, .int .u16 258, .int .u32 0, .slice none 0 0] 27)).alloc (.cells #[.int .u8 3, .int .u8 1, .int .u8 2, .int .u8 23] 5)) w12 := Below.trans (by (focus (repeat' (first | (with_reducible exact Below.refl _ _) | (with_reducible assumption) | (with_reducible refine Below.alloc ?_ ?_ _) | (with_reducible refine below_drewN ?_ _) | (with_reducible refine Below.drew ?_) | (with_reducible refine Below.setCell ?_ ?_ _) | omega | (simp; done) | (simp; omega))))) (hb12.mono (by (focus (first | omega | (simp only [World.size_alloc]; done) | (simp only [World.size_alloc]; omega) | (simp; done) | (simp; omega)))))
  have hS12 : w.heap.size + 3 ≤ w12.heap.size := by have := hV12.size; simp only [World.size_alloc] at this; omega
  have hn12 := keep_at hV12 w.heap.size (by omega)
  have hc12 := keep_at hV12 (w.heap.size + 1) (by omega)
  have hy12 : w.heap.size < w12.heap.size := by omega
  have hz12 : w.heap.size + 1 < w12.heap.size := by omega
  clear hV11 hS11 hn11 hc11 hy11 hz11
  clear hb12
  go_wp2_with fail
  refine (fromb_any _ _ _ [3, 1, 2, 23] (-1) 0 0 0 none 0 0 [] 2 _ (HT.out _ (by (focus (repeat' (first | (with_reducible exact Below.refl _ _) | (with_reducible assumption) | (with_reducible refine Below.alloc ?_ ?_ _) | (with_reducible refine below_drewN ?_ _) | (with_reducible refine Below.drew ?_) | (with_reducible refine Below.setCell ?_ ?_ _) | omega | (simp; done) | (simp; omega)))))) (by decide) (nil_reads _)).mono ?_
  rintro e w13 ⟨rfl, hb13⟩
  have hV13 : Below (w.heap.size + 3) (((w.alloc (.cells #[.int .i64 0, .int .u16 0, .int .u32 0, .slice none 0 0] 27)).alloc (.cells #[.int .i64 3, .int .u16 258, .int .u32 0, .slice none 0 0] 27)).alloc (.cells #[.int .u8 3, .int .u8 1, .int .u8 2, .int .u8 23] 5)) w13 := Below.trans (by (focus (repeat' (first | (with_reducible exact Below.refl _ _) | (with_reducible assumption) | (with_reducible refine Below.alloc ?_ ?_ _) | (with_reducible refine below_drewN ?_ _) | (with_reducible refine Below.drew ?_) | (with_reducible refine Below.setCell ?_ ?_ _) | omega | (simp; done) | (simp; omega))))) (hb13.mono (by (focus (first | omega | (simp only [World.size_alloc]; done) | (simp only [World.size_alloc]; omega) | (simp; done) | (simp; omega)))))
  have hS13 : w.heap.size + 3 ≤ w13.heap.size := by have := hV13.size; simp only [World.size_alloc] at this; omega
  have hn13 := keep_at hV13 w.heap.size (by omega)
  have hc13 := keep_at hV13 (w.heap.size + 1) (by omega)
  have hy13 : w.heap.size < w13.heap.size := by omega
  have hz13 : w.heap.size + 1 < w13.heap.size := by omega
  clear hV12 hS12 hn12 hc12 hy12 hz12
  clear hb13
  go_wp2
  go_ret
  exact ⟨rfl, Below.trans (by (focus (repeat' (first | (with_reducible exact Below.refl _ _) | (with_reducible assumption) | (with_reducible refine Below.alloc ?_ ?_ _) | (with_reducible refine below_drewN ?_ _) | (with_reducible refine Below.drew ?_) | (with_reducible refine Below.setCell ?_ ?_ _) | omega | (simp; done) | (simp; omega))))) (hV13.mono (by omega))⟩
end Go.Proofs.Ytbcleifhadkecaa
