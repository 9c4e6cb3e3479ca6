/-
  Texts: Cat, Hid.
-/
import Derived.Test.YtagpphelgghbpaaGreatHk12
import Derived.Lib.AppendZerosOnto
import Derived.Lib.SliceRun
import Derived.Lib.Walk
import Derived.Test.YtagpphelgghbpaaGreatHk30
import Derived.Test.YtagpphelgghbpaaGreatHk22
/-
  slices.Grow of nil, slices.Concat of three.
-/
set_option linter.unusedSimpArgs false
set_option linter.unusedVariables false
namespace Go.Proofs.YtagpphelgghbpaaGreat
open Go.RowKit

set_option maxHeartbeats 1600000 in
theorem grow_any (n : Nat) (w : World) (hn : n ≤ 100000) : Calls Tryz.prog 93 #[.slice none 0 0, .int .i64 n] w fun e w' => ∃ A c, e = .returned (.slice A 0 c) ∧ XOwns w' w.heap.size 3 1 A 0 c [] ∧ Below w.heap.size w w' := by
  rcases Nat.eq_zero_or_pos n with h0 | h0
  · subst h0
    go_enter Tryz.func93, Tryz.ntmps93
    go_wp2
    go_ret
    exact ⟨none, 0, rfl, XOwns.nil_ _ _ _ _, Below.refl _ _⟩
  · obtain ⟨i0, hi, hz0, hz1, hz2⟩ := info_parts tinfo_ints
    have hold : (Builtin.firstCells i0.size 0 (.slice none 0 0)).run Tryz.prog w.drew = .ok ([] : List Value).toArray w.drew := run_firstCells_none w.drew i0.size 0 0 0
    have hrz : ∀ ty, (Builtin.append_ #[25, 3] ty #[.slice none 0 0, .int .i64 n]).run Tryz.prog w = _ := fun ty =>
      Lib.run_append_grow_zeros w 25 3 ty 3 i0 (.int .i64 0) .i64 .i64 Tryz.underlying25 Tryz.underlying3 hi hz0 none 0 0 [] hold n h0 (by omega) (by omega) (by omega) (by rw [hz2]; omega) (growslice_fits (by omega) (by rw [hz2]; omega))
    rw [Nat.zero_add] at hrz
    have hG1 : n ≤ grownCap w n 0 3 := grownCap_ge w _ _ _
    have hG2 : grownCap w n 0 3 ≤ maxLen := grownCap_le_maxLen w n 0 3 (by unfold maxLen; omega)
    generalize grownCap w n 0 3 = G at *
    have HG2 := Lib.hid hG2
    have hG3 : G ≤ 9223372036854775807 := by unfold maxLen at hG2; omega
    have hn0 : (0 : Int) < n := by omega
    clear hi hz0 hz1 hz2 hold hG2
    go_enter Tryz.func93, Tryz.ntmps93
    go_wp2_with (at_builtin; refine Lib.wpList_append_run _ rfl _ _ _ _ rfl _ _ rfl rfl _ _ (hrz _) ?_)
    all_goals go_ret
    all_goals refine ⟨some ⟨w.heap.size, 0, none⟩, G, rfl, ⟨⟨rfl, .inr ⟨w.heap.size, G, (Builtin.zeroCells (Value.int .i64 0).cells n ++ Builtin.zeroCells (Value.int .i64 0).cells (G - n)), rfl, Nat.le_refl _, ?_, Nat.zero_le _, HG2.out, ?_, rfl⟩⟩, fun h => by cases h⟩, (Below.refl _ _).drew.alloc (by simp) _⟩
    · exact Blk.mk_ w.drew 3 _ _ rfl
    · simp [Builtin.zeroCells, Value.cells]
      omega

set_option maxRecDepth 100000 in
set_option maxHeartbeats 1600000 in
theorem concat3_any (g : Nat) (t : TypeId) (A B C : Option Addr) (n m q c d e : Nat) (xs ys zs : List Int) (w : World) (hb : Blk w g t #[.slice A n c, .slice B m d, .slice C q e]) (hx : Reads w 1 A n (ics xs)) (hy : Reads w 1 B m (ics ys)) (hz : Reads w 1 C q (ics zs)) (hA : A = none → c = 0) (hB : B = none → d = 0) (hC : C = none → e = 0) (hn : n ≤ 1000) (hm : m ≤ 1000) (hq : q ≤ 1000) :
    Calls Tryz.prog 57 #[.slice (some ⟨g, 0, none⟩) 3 3] w fun e w' => ∃ A' c', e = .returned (.slice A' (n + m + q) c') ∧ XOwns w' w.heap.size 3 1 A' (n + m + q) c' (ics (xs ++ ys ++ zs)) ∧ Below w.heap.size w w' := by
  have HB := Lib.hid hb
  have HX := Lib.hid hx
  have HY := Lib.hid hy
  have HZ := Lib.hid hz
  have HA := Lib.hid hA
  have HBB := Lib.hid hB
  have HCC := Lib.hid hC
  have c0 := (hb.at_ 0).trans rfl
  have c1 := (hb.at_ 1).trans rfl
  have c2 := (hb.at_ 2).trans rfl
  have hbl := hb.lt
  have hw1 : IntKind.i64.wrap ((n : Int) + m) = (n : Int) + m := IntWalk.i64_in _ (by omega)
  have hw3 : IntKind.i64.wrap ((n : Int) + m + q) = (n : Int) + m + q := IntWalk.i64_in _ (by omega)
  clear hx hy hz hA hB hC hb
  go_enter Tryz.func57, Tryz.ntmps57
  go_wp2
  go_loop [3, 11] (fun s i => (i = .int .i64 0 ∧ s = .int .i64 0) ∨ (i = .int .i64 1 ∧ s = .int .i64 n) ∨ (i = .int .i64 2 ∧ s = .int .i64 ((n : Int) + m)) ∨ (i = .int .i64 3 ∧ s = .int .i64 ((n : Int) + m + q))) (fun _ i => 3 - (intOf i).toNat)
  case atStart => exact .inl ⟨rfl, rfl⟩
  case round =>
    have hn0 : (0 : Int) ≤ n := by omega
    have hw2 : IntKind.i64.wrap (n : Int) = n := IntWalk.i64_in _ (by omega)
    rcases hrel with ⟨rfl, rfl⟩ | ⟨rfl, rfl⟩ | ⟨rfl, rfl⟩ | ⟨rfl, rfl⟩
    · go_wp2
      go_round
      case rel => exact .inr (.inl ⟨rfl, rfl⟩)
      case measure => simp [intOf]
    · have hnm : ((n : Int) + m < 0) = False := eq_false (by omega)
      go_wp2
      go_round
      case rel => exact .inr (.inr (.inl ⟨rfl, rfl⟩))
      case measure => simp [intOf]
    · have hnm : ((n : Int) + m + q < 0) = False := eq_false (by omega)
      go_wp2
      go_round
      case rel => exact .inr (.inr (.inr ⟨rfl, rfl⟩))
      case measure => simp [intOf]
    · go_wp2_with fail
      refine (grow_any (n + m + q) _ (by omega)).mono ?_
      rintro e w2 ⟨A2, c2', rfl, hO2, hB2⟩
      have HO2 := Lib.hid hO2
      have HBK : Hid (∀ W, Below w.heap.size w W → Blk W g t #[.slice A n c, .slice B m d, .slice C q _]) := Lib.hid fun W hb => HB.out.below hb hbl
      have HXX : Hid (∀ W, Below w.heap.size w W → Reads W 1 A n (ics xs)) := Lib.hid fun W hb => HX.out.below hb
      have HYY : Hid (∀ W, Below w.heap.size w W → Reads W 1 B m (ics ys)) := Lib.hid fun W hb => HY.out.below hb
      have HZZ : Hid (∀ W, Below w.heap.size w W → Reads W 1 C q (ics zs)) := Lib.hid fun W hb => HZ.out.below hb
      clear hO2 hw1 hw2 hw3 hn0 c0 c1 c2
      go_wp2
      go_loopw [6, 27] (fun v i W => ∃ (A2 : Option Addr) (c2 : Nat), ((i = .int .i64 0 ∧ v = .slice A2 0 c2 ∧ XOwns W w.heap.size 3 1 A2 0 c2 []) ∨ (i = .int .i64 1 ∧ v = .slice A2 n c2 ∧ XOwns W w.heap.size 3 1 A2 n c2 (ics xs)) ∨ (i = .int .i64 2 ∧ v = .slice A2 (n + m) c2 ∧ XOwns W w.heap.size 3 1 A2 (n + m) c2 (ics (xs ++ ys))) ∨ (i = .int .i64 3 ∧ v = .slice A2 (n + m + q) c2 ∧ XOwns W w.heap.size 3 1 A2 (n + m + q) c2 (ics (xs ++ ys ++ zs)))) ∧ Below w.heap.size w W) (fun _ i _ => 3 - (intOf i).toNat)
      case atStart => exact ⟨A2, c2', .inl ⟨rfl, rfl, HO2.out⟩, hB2⟩
      case round =>
        obtain ⟨A3, c3, ⟨rfl, rfl, hO⟩ | ⟨rfl, rfl, hO⟩ | ⟨rfl, rfl, hO⟩ | ⟨rfl, rfl, hO⟩, hB⟩ := hrel
        · have HO := Lib.hid hO
          have hz := hB.size
          have c0 := ((HBK.out _ hB).at_ 0).trans rfl
          clear hO
          go_wp2_with (at_builtin; refine append_xr ?_ (.tmp 31) (.tmp 32) 25 ?_ w.heap.size 3 (.int .i64 0) 1 8 tinfo_ints Tryz.underlying25 rfl (by decide) A3 0 c3 [] ?_ HO.out A n c (ics xs) ?_ HA.out (HXX.out _ hB) (ics_one _) ?_ ?_ ?_ ?_; rfl; rfl; rfl; rfl; omega; omega; omega; intro A4 c4 w4 ho4 hb4; rw [Nat.zero_add] at ho4 ⊢)
          go_roundw
          case rel => exact ⟨A4, c4, .inr (.inl ⟨rfl, rfl, ho4⟩), hB.trans hb4⟩
          case measure => simp [intOf]
        · have HO := Lib.hid hO
          have hz := hB.size
          have c1 := ((HBK.out _ hB).at_ 1).trans rfl
          clear hO
          go_wp2_with (at_builtin; refine append_xr ?_ (.tmp 31) (.tmp 32) 25 ?_ w.heap.size 3 (.int .i64 0) 1 8 tinfo_ints Tryz.underlying25 rfl (by decide) A3 n c3 (ics xs) ?_ HO.out B m d (ics ys) ?_ HBB.out (HYY.out _ hB) (ics_one _) ?_ ?_ ?_ ?_; rfl; rfl; rfl; rfl; omega; omega; omega; intro A4 c4 w4 ho4 hb4)
          go_roundw
          case rel => exact ⟨A4, c4, .inr (.inr (.inl ⟨rfl, rfl, by rw [show ics (xs ++ ys) = ics xs ++ ics ys by simp [ics]]; exact ho4⟩)), hB.trans hb4⟩
          case measure => simp [intOf]
        · have HO := Lib.hid hO
          have hz := hB.size
          have c2 := ((HBK.out _ hB).at_ 2).trans rfl
          clear hO
          go_wp2_with (at_builtin; refine append_xr ?_ (.tmp 31) (.tmp 32) 25 ?_ w.heap.size 3 (.int .i64 0) 1 8 tinfo_ints Tryz.underlying25 rfl (by decide) A3 (n + m) c3 (ics (xs ++ ys)) ?_ HO.out C q _ (ics zs) ?_ HCC.out (HZZ.out _ hB) (ics_one _) ?_ ?_ ?_ ?_; rfl; rfl; rfl; rfl; omega; omega; omega; intro A4 c4 w4 ho4 hb4)
          go_roundw
          case rel => exact ⟨A4, c4, .inr (.inr (.inr ⟨rfl, rfl, by rw [show ics (xs ++ ys ++ zs) = ics (xs ++ ys) ++ ics zs by simp [ics]]; exact ho4⟩)), hB.trans hb4⟩
          case measure => simp [intOf]
        · go_wp2
          go_ret
          exact ⟨A3, c3, rfl, hO, hB⟩
end Go.Proofs.YtagpphelgghbpaaGreat

/-
  slices.Sort of ints that are one's own; view.Hidden.
-/
set_option linter.unusedSimpArgs false
set_option linter.unusedVariables false
namespace Go.Proofs.YtagpphelgghbpaaGreat
open Go.RowKit Go.Sort

theorem holds_ics {w : World} {B g n c : Nat} {e : TypeId} {l : List Int} (h : XOwns w B e 1 (some ⟨g, 0, none⟩) n c (ics l)) : Holds (Value.int .i64) w g 0 l.toArray := by
  intro j hj
  have hj' : j < l.length := by simpa using hj
  have hg : (ics l)[j]? = some (.int .i64 l[j]) := by rw [ics, List.getElem?_map, List.getElem?_eq_getElem hj']; rfl
  obtain ⟨g', hg', _, _, h1, h2⟩ := h.cell hg
  injection hg' with hg'
  injection hg' with hg'
  subst hg'
  rw [Nat.zero_add]
  refine ⟨?_, h2⟩
  rw [h1, getElem!_pos _ j hj]
  simp
def srtI (l : List Int) : List Int := l.mergeSort fun x y => decide (x ≤ y)
theorem srtI_perm (l : List Int) : (srtI l).Perm l := List.mergeSort_perm _ _
theorem own_srt {w : World} {B g n c m : Nat} {e : TypeId} {os : Array Obj} {l l' : List Int} (h : XOwns w B e 1 (some ⟨g, 0, none⟩) n c (ics l)) (hl : l'.length = n) : XOwns (grow (putRow (Value.int .i64) (Sort.ahead w m) g 0 l'.toArray) os) B e 1 (some ⟨g, 0, none⟩) n c (ics l') := by
  refine ⟨⟨by simp [ics, hl], ?_⟩, h.2⟩
  rcases h.1.2 with ⟨h0, _⟩ | ⟨g', c', cur, h1, h2, h3, h4, h5, h6, h7⟩
  · cases h0
  · injection h1 with h1 h1a h1b
    injection h1 with h1
    injection h1 with h1
    subst h1 h1b
    refine .inr ⟨g, c, putCells (Value.int .i64) 0 l'.toArray cur, rfl, h2, ?_, h4, h5, by simp [putCells, h6], ?_⟩
    · have hg : g < w.heap.size := (Array.getElem?_eq_some_iff.1 h3).1
      rw [heap_grow_old _ _ (by simpa [putRow, mapBlock, Sort.ahead] using hg)]
      simp [putRow, mapBlock, Sort.ahead, Array.getElem?_modify, h3, onCells]
    · have hnc : n * 1 ≤ cur.size := by rw [h6]; exact Nat.mul_le_mul_right 1 h4
      refine List.ext_getElem? fun j => ?_
      rcases Nat.lt_or_ge j (n * 1) with hj | hj
      · have hj2 : j < l'.length := by omega
        rw [List.getElem?_take_of_lt hj, Array.getElem?_toList]
        simp only [putCells, Array.getElem?_mapIdx, Array.getElem?_eq_getElem (show j < cur.size by omega), Option.map_some, Nat.sub_zero, Nat.zero_le, true_and, Nat.zero_add]
        rw [if_pos (by simpa using hj2), ics, List.getElem?_map, List.getElem?_eq_getElem hj2, getElem!_pos _ j (by simpa using hj2)]
        simp
      · rw [List.getElem?_take_eq_none (by omega), List.getElem?_eq_none (by simp [ics]; omega)]
theorem grownBy_srt {w : World} {g m : Nat} {os : Array Obj} (d : Array Int) : w.grownBy (grow (putRow (Value.int .i64) (Sort.ahead w m) g 0 d) os) (some g) := by
  refine ⟨rfl, rfl, rfl, by simp [putRow, mapBlock, Sort.ahead, grow], fun j hj hne => ?_⟩
  rw [heap_grow_old _ _ (by simpa [putRow, mapBlock, Sort.ahead] using hj)]
  have : g ≠ j := fun e => hne (by rw [e])
  simp [putRow, mapBlock, Sort.ahead, Array.getElem?_modify, this]
/-- slices.Sort. -/
theorem sort_any (w : World) (B n c : Nat) (A : Option Addr) (l : List Int) (h : XOwns w B 3 1 A n c (ics l)) (hB : B ≤ w.heap.size) (hn : n ≤ 100000) :
    Calls Tryz.prog 58 #[.slice A n c] w fun e w' => e = .returned (.tuple #[]) ∧ XOwns w' B 3 1 A n c (ics (srtI l)) ∧ Below B w w' := by
  have hl : l.length = n := by have := h.len; simpa [ics] using this
  rcases Nat.eq_zero_or_pos n with h0 | h0
  · subst h0
    have hl0 : l = [] := List.eq_nil_of_length_eq_zero hl
    subst hl0
    refine (calls_of_every_depth fun D => AnySM.slices_Sort_int_none_in laysSort D A c w).mono ?_
    rintro e w' ⟨rfl, rfl⟩
    exact ⟨rfl, by rw [show srtI [] = [] from by unfold srtI; simp]; exact h, Below.refl _ _⟩
  · obtain ⟨g, rfl⟩ : ∃ g, A = some ⟨g, 0, none⟩ := by
      obtain ⟨g, cap, hv, _⟩ := h.1.form h0
      injection hv
      exact ⟨g, by assumption⟩
    have hlt := h.lt g rfl
    have hc := AnyM.slices_Sort_int laysSort g 0 c l w (holds_ics h) hlt.2 (by omega)
    rw [hl] at hc
    refine hc.mono ?_
    rintro e w' ⟨rfl, m, os, rfl⟩
    refine ⟨rfl, own_srt h (by rw [List.length_mergeSort]; exact hl), (Below.refl _ _).grown (grownBy_srt _) hB (fun k hk => by injection hk with hk; omega)⟩
def hidS (b : Bd) (k : Nat) : List Int := b.s0.lib ++ b.s1.lib ++ (seN b (1 - k)).hand
def HidEnd (b : Bd) (k : Nat) (w : World) (e : Ending) (w' : World) : Prop := ∃ A c, e = .returned (.tuple #[.slice A (hidS b k).length c, .int .i64 0]) ∧ XOwns w' w.heap.size 3 1 A (hidS b k).length c (ics (srtI (hidS b k))) ∧ Below w.heap.size w w'
set_option maxRecDepth 100000 in
set_option maxHeartbeats 1600000 in
theorem hidden0 (b : Bd) (m : BdM) (w : World) (hR : BdR w b m) (hz : b.plc.length < 9223372036854775807) (hv : b.Valid) :
    Calls Tryz.prog 23 #[.agg (b.cells m).toArray, .int .i64 0] w (HidEnd b 0 w) := by
  have HSM := Lib.hid (bd_sm hv)
  have HV := Lib.hid hv
  have HR := Lib.hid hR
  obtain ⟨⟨LA, Lc⟩, hmL⟩ : ∃ x, m.m0.L = x := ⟨_, rfl⟩
  obtain ⟨⟨KA, Kc⟩, hmK⟩ : ∃ x, m.m1.L = x := ⟨_, rfl⟩
  obtain ⟨⟨HA, Hc⟩, hmH⟩ : ∃ x, m.m1.H = x := ⟨_, rfl⟩
  obtain ⟨nl, hnl⟩ : ∃ x, b.s0.lib.length = x := ⟨_, rfl⟩
  obtain ⟨nk, hnk⟩ : ∃ x, b.s1.lib.length = x := ⟨_, rfl⟩
  obtain ⟨nh, hnh⟩ : ∃ x, b.s1.hand.length = x := ⟨_, rfl⟩
  obtain ⟨cs, hcs⟩ : ∃ cs, (b.cells m).toArray = cs := ⟨_, rfl⟩
  have E6 : Hid (cs[6]? = some (.slice LA nl Lc)) := Lib.hid (by rw [← hcs]; show some (m.m0.L.v b.s0.lib.length) = _; rw [hmL, hnl]; rfl)
  have E20 : Hid (cs[20]? = some (.slice KA nk Kc)) := Lib.hid (by rw [← hcs]; show some (m.m1.L.v b.s1.lib.length) = _; rw [hmK, hnk]; rfl)
  have EH : Hid (cs[21]? = some (.slice HA nh Hc)) := Lib.hid (by rw [← hcs]; show some (m.m1.H.v b.s1.hand.length) = _; rw [hmH, hnh]; rfl)
  have HNN := Lib.hid (And.intro hnl (And.intro hnk hnh))
  have HMM := Lib.hid (And.intro hmL (And.intro hmK hmH))
  have HCS := Lib.hid hcs
  rw [hcs]
  obtain ⟨w1, hw1⟩ : ∃ w1, w.alloc (.cells cs 33) = w1 := ⟨_, rfl⟩
  have HB1 : Hid (Below w.heap.size w w1) := Lib.hid (by rw [← hw1]; exact (Below.refl _ _).alloc (Nat.le_refl _) _)
  have hbx : Blk w1 w.heap.size 33 cs := by rw [← hw1]; exact Blk.mk_ w _ _ _ rfl
  have HBX1 := Lib.hid hbx
  have HLB : Hid ((Instr.loadAt 33 (.pointer (some ⟨w.heap.size, 0, none⟩))).run Tryz.prog w1 = .ok (.agg cs) w1) := Lib.hid (by
    rw [← hcs] at hbx ⊢
    exact hbx.mid (b.cells m) _ (fun j v hj => by rw [Nat.zero_add]; simpa using hj) Tryz.underlying33 rfl size_board)
  have HVC := Lib.hid (valid_any b m w1 (hR.below HB1.out) hz)
  rw [hcs] at HVC
  clear hR hz hv hmL hmK hmH hnl hnk hnh hcs hbx
  go_enter Tryz.func23, Tryz.ntmps23
  go_wp2_with (first
    | (go_at_call 56; refine (player0 w1).mono ?_; rintro e w_ ⟨rfl, rfl⟩)
    | (refine wpList_load_by HLB.out rfl rfl rfl ?_; simp only [Act.put, List.setIfInBounds_toArray, List.set_cons_succ, List.set_cons_zero])
    | fail)
  refine HVC.out.mono ?_
  rintro e w3 ⟨v, rfl, hvv, hb3⟩
  obtain rfl : v = true := hvv.2 HV.out
  have HB3 := Lib.hid (below_call HB1.out hb3 HB1.out.size)
  have HBX3 := Lib.hid (HBX1.out.call hb3)
  clear hvv hb3 hw1 HLB HVC
  go_wp2_with fail
  have x6 : ∀ s : Later w3.heap.size w3, s.W.cell? ⟨w.heap.size, 6, none⟩ = some (.slice LA nl Lc) := fun s => ((HBX3.out.call s.h).at_ 6).trans E6.out
  have x20 : ∀ s : Later w3.heap.size w3, s.W.cell? ⟨w.heap.size, 20, none⟩ = some (.slice KA nk Kc) := fun s => ((HBX3.out.call s.h).at_ 20).trans E20.out
  have xh : ∀ s : Later w3.heap.size w3, s.W.cell? ⟨w.heap.size, 21, none⟩ = some (.slice HA nh Hc) := fun s => ((HBX3.out.call s.h).at_ 21).trans EH.out
  have hbxl := HBX3.out.lt
  refine wp_region_sched (fun w' => ∃ s : Later w3.heap.size w3, w' = s.W) [0,1,2,3,4,5,6,7,8,9,10,11,12,13] (.one 14 [] (.one 15 [16] .done)) (by kernel_rfl) (by kernel_rfl) (fun d _ _ _ _ h => by cases d <;> exact h) ⟨⟨_, (Below.refl _ _).drew⟩, rfl⟩ ?_
  refine quiet_as (C' := (fun w' => ∃ s : Later w3.heap.size w3, w' = s.W)) rfl ?_
  simp only [opsAt, List.getElem?_toArray, List.getElem?_cons_succ, List.getElem?_cons_zero]
  repeat (go_big_quiet_step (fail))
  refine wpQuiet_nil ?_
  obtain ⟨w3_d, hwd⟩ : ∃ v, w3.drew = v := ⟨_, rfl⟩
  have HBW_1 : Hid (Below w.heap.size w w3_d) := Lib.hid (by rw [← hwd]; exact (HB3.out).drew)
  have HBR_1 : Hid (Below w3.heap.size w3 w3_d) := Lib.hid (by rw [← hwd]; exact (Below.refl _ _).drew)
  rw [hwd]
  clear hwd
  refine eff_as (C' := (fun w' => ∃ s : Later w3.heap.size w3, w' = s.W)) rfl ?_
  (refine eff_lit rfl rfl (fun K hK => ?_))
  go_big_op
  obtain ⟨w3_2, hvw3_2⟩ : ∃ v, (w3_d.alloc (.cells #[.slice LA nl Lc, .slice KA nk Kc, .slice HA nh Hc] 25)) = v := ⟨_, rfl⟩
  have hbw3_2 : Below w3_d.heap.size w3_d w3_2 := by rw [← hvw3_2]; exact (Below.refl _ _).alloc (Nat.le_refl _) _
  obtain ⟨gL, hggL⟩ : ∃ v, w3_d.heap.size = v := ⟨_, rfl⟩
  have hkw3_2 : Blk w3_2 gL 25 #[.slice LA nl Lc, .slice KA nk Kc, .slice HA nh Hc] := by rw [← hvw3_2]; exact Blk.mk_ _ _ _ _ hggL
  have HNgL : Hid (w3.heap.size ≤ gL ∧ w.heap.size ≤ gL) := Lib.hid ⟨by rw [← hggL]; exact HBR_1.out.size, by rw [← hggL]; exact HBW_1.out.size⟩
  rw [hvw3_2, hggL]
  have LB_3 := Lib.hid (hkw3_2)
  have HBW_3 := Lib.hid (below_call HBW_1.out hbw3_2 HBW_1.out.size)
  clear HBW_1
  have HBR_3 := Lib.hid (below_call HBR_1.out hbw3_2 HBR_1.out.size)
  clear HBR_1
  clear hkw3_2 hvw3_2 hggL hbw3_2
  refine hK _ _ ⟨⟨_, HBR_3.out⟩, rfl⟩ ?_
  clear hK K
  try simp only [opsAt, List.getElem?_toArray, List.getElem?_cons_succ, List.getElem?_cons_zero]
  refine wpQuiet_nil ?_
  refine eff_as (C' := (fun w' => ∃ s : Later w3.heap.size w3, w' = s.W)) rfl ?_
  (refine eff_lit rfl rfl (fun K hK => ?_))
  go_big_op
  refine (concat3_any gL 25 LA KA HA nl nk nh Lc Kc Hc b.s0.lib b.s1.lib b.s1.hand w3_2 LB_3.out (by have h := (HR.out.below HBW_3.out).s0.L.row; rw [HMM.out.1, HNN.out.1] at h; exact h) (by have h := (HR.out.below HBW_3.out).s1.L.row; rw [HMM.out.2.1, HNN.out.2.1] at h; exact h) (by have h := (HR.out.below HBW_3.out).s1.H.row; rw [HMM.out.2.2, HNN.out.2.2] at h; exact h) (by have h := HR.out.s0.L.ok.2.1; rw [HMM.out.1] at h; exact h) (by have h := HR.out.s1.L.ok.2.1; rw [HMM.out.2.1] at h; exact h) (by have h := HR.out.s1.H.ok.2.1; rw [HMM.out.2.2] at h; exact h) (by have h1 := HSM.out.s0.L; have h2 := HNN.out.1; omega) (by have h1 := HSM.out.s1.L; have h2 := HNN.out.2.1; omega) (by have h1 := HSM.out.s1.H; have h2 := HNN.out.2.2; omega)).mono ?_
  rintro e w3_4 ⟨A5, c5, rfl, hx, hbw3_4⟩
  have FX_5 := Lib.hid (hx.more HBW_3.out.size)
  have HBW_5 := Lib.hid (below_call HBW_3.out hbw3_4 HBW_3.out.size)
  clear HBW_3
  have HBR_5 := Lib.hid (below_call HBR_3.out hbw3_4 HBR_3.out.size)
  clear HBR_3
  have LB_5 := Lib.hid (LB_3.out.call hbw3_4)
  clear LB_3
  clear hbw3_4
  clear hx
  refine hK _ _ ⟨⟨_, HBR_5.out⟩, rfl⟩ ?_
  clear hK K
  try simp only [opsAt, List.getElem?_toArray, List.getElem?_cons_succ, List.getElem?_cons_zero]
  repeat (go_big_quiet_step (fail))
  refine wpQuiet_nil ?_
  refine effs_done ?_
  go_wp2_with fail
  refine (sort_any w3_4 w.heap.size (nl + nk + nh) c5 A5 (b.s0.lib ++ b.s1.lib ++ b.s1.hand) FX_5.out HBW_5.out.size (by have h1 := HSM.out.s0.L; have h2 := HNN.out.1; have h3 := HSM.out.s1.L; have h4 := HNN.out.2.1; have h5 := HSM.out.s1.H; have h6 := HNN.out.2.2; omega)).mono ?_
  rintro e w9 ⟨rfl, hx9, hb9⟩
  have HX9 := Lib.hid hx9
  have HB9 := Lib.hid (HBW_5.out.trans hb9)
  clear hx9 hb9
  go_wp2_with fail
  go_ret2
  have hle : (hidS b 0).length = nl + nk + nh := by unfold hidS; simp only [List.length_append]; rw [HNN.out.1, HNN.out.2.1]; show _ + b.s1.hand.length = _; rw [HNN.out.2.2]
  exact ⟨A5, c5, by rw [hle]; rfl, by rw [hle]; exact HX9.out, HB9.out⟩
set_option maxRecDepth 100000 in
set_option maxHeartbeats 1600000 in
theorem hidden1 (b : Bd) (m : BdM) (w : World) (hR : BdR w b m) (hz : b.plc.length < 9223372036854775807) (hv : b.Valid) :
    Calls Tryz.prog 23 #[.agg (b.cells m).toArray, .int .i64 1] w (HidEnd b 1 w) := by
  have HSM := Lib.hid (bd_sm hv)
  have HV := Lib.hid hv
  have HR := Lib.hid hR
  obtain ⟨⟨LA, Lc⟩, hmL⟩ : ∃ x, m.m0.L = x := ⟨_, rfl⟩
  obtain ⟨⟨KA, Kc⟩, hmK⟩ : ∃ x, m.m1.L = x := ⟨_, rfl⟩
  obtain ⟨⟨HA, Hc⟩, hmH⟩ : ∃ x, m.m0.H = x := ⟨_, rfl⟩
  obtain ⟨nl, hnl⟩ : ∃ x, b.s0.lib.length = x := ⟨_, rfl⟩
  obtain ⟨nk, hnk⟩ : ∃ x, b.s1.lib.length = x := ⟨_, rfl⟩
  obtain ⟨nh, hnh⟩ : ∃ x, b.s0.hand.length = x := ⟨_, rfl⟩
  obtain ⟨cs, hcs⟩ : ∃ cs, (b.cells m).toArray = cs := ⟨_, rfl⟩
  have E6 : Hid (cs[6]? = some (.slice LA nl Lc)) := Lib.hid (by rw [← hcs]; show some (m.m0.L.v b.s0.lib.length) = _; rw [hmL, hnl]; rfl)
  have E20 : Hid (cs[20]? = some (.slice KA nk Kc)) := Lib.hid (by rw [← hcs]; show some (m.m1.L.v b.s1.lib.length) = _; rw [hmK, hnk]; rfl)
  have EH : Hid (cs[7]? = some (.slice HA nh Hc)) := Lib.hid (by rw [← hcs]; show some (m.m0.H.v b.s0.hand.length) = _; rw [hmH, hnh]; rfl)
  have HNN := Lib.hid (And.intro hnl (And.intro hnk hnh))
  have HMM := Lib.hid (And.intro hmL (And.intro hmK hmH))
  have HCS := Lib.hid hcs
  rw [hcs]
  obtain ⟨w1, hw1⟩ : ∃ w1, w.alloc (.cells cs 33) = w1 := ⟨_, rfl⟩
  have HB1 : Hid (Below w.heap.size w w1) := Lib.hid (by rw [← hw1]; exact (Below.refl _ _).alloc (Nat.le_refl _) _)
  have hbx : Blk w1 w.heap.size 33 cs := by rw [← hw1]; exact Blk.mk_ w _ _ _ rfl
  have HBX1 := Lib.hid hbx
  have HLB : Hid ((Instr.loadAt 33 (.pointer (some ⟨w.heap.size, 0, none⟩))).run Tryz.prog w1 = .ok (.agg cs) w1) := Lib.hid (by
    rw [← hcs] at hbx ⊢
    exact hbx.mid (b.cells m) _ (fun j v hj => by rw [Nat.zero_add]; simpa using hj) Tryz.underlying33 rfl size_board)
  have HVC := Lib.hid (valid_any b m w1 (hR.below HB1.out) hz)
  rw [hcs] at HVC
  clear hR hz hv hmL hmK hmH hnl hnk hnh hcs hbx
  go_enter Tryz.func23, Tryz.ntmps23
  go_wp2_with (first
    | (go_at_call 56; refine (player1 w1).mono ?_; rintro e w_ ⟨rfl, rfl⟩)
    | (refine wpList_load_by HLB.out rfl rfl rfl ?_; simp only [Act.put, List.setIfInBounds_toArray, List.set_cons_succ, List.set_cons_zero])
    | fail)
  refine HVC.out.mono ?_
  rintro e w3 ⟨v, rfl, hvv, hb3⟩
  obtain rfl : v = true := hvv.2 HV.out
  have HB3 := Lib.hid (below_call HB1.out hb3 HB1.out.size)
  have HBX3 := Lib.hid (HBX1.out.call hb3)
  clear hvv hb3 hw1 HLB HVC
  go_wp2_with fail
  have x6 : ∀ s : Later w3.heap.size w3, s.W.cell? ⟨w.heap.size, 6, none⟩ = some (.slice LA nl Lc) := fun s => ((HBX3.out.call s.h).at_ 6).trans E6.out
  have x20 : ∀ s : Later w3.heap.size w3, s.W.cell? ⟨w.heap.size, 20, none⟩ = some (.slice KA nk Kc) := fun s => ((HBX3.out.call s.h).at_ 20).trans E20.out
  have xh : ∀ s : Later w3.heap.size w3, s.W.cell? ⟨w.heap.size, 7, none⟩ = some (.slice HA nh Hc) := fun s => ((HBX3.out.call s.h).at_ 7).trans EH.out
  have hbxl := HBX3.out.lt
  refine wp_region_sched (fun w' => ∃ s : Later w3.heap.size w3, w' = s.W) [0,1,2,3,4,5,6,7,8,9,10,11,12,13] (.one 14 [] (.one 15 [16] .done)) (by kernel_rfl) (by kernel_rfl) (fun d _ _ _ _ h => by cases d <;> exact h) ⟨⟨_, (Below.refl _ _).drew⟩, rfl⟩ ?_
  refine quiet_as (C' := (fun w' => ∃ s : Later w3.heap.size w3, w' = s.W)) rfl ?_
  simp only [opsAt, List.getElem?_toArray, List.getElem?_cons_succ, List.getElem?_cons_zero]
  repeat (go_big_quiet_step (fail))
  refine wpQuiet_nil ?_
  obtain ⟨w3_d, hwd⟩ : ∃ v, w3.drew = v := ⟨_, rfl⟩
  have HBW_1 : Hid (Below w.heap.size w w3_d) := Lib.hid (by rw [← hwd]; exact (HB3.out).drew)
  have HBR_1 : Hid (Below w3.heap.size w3 w3_d) := Lib.hid (by rw [← hwd]; exact (Below.refl _ _).drew)
  rw [hwd]
  clear hwd
  refine eff_as (C' := (fun w' => ∃ s : Later w3.heap.size w3, w' = s.W)) rfl ?_
  (refine eff_lit rfl rfl (fun K hK => ?_))
  go_big_op
  obtain ⟨w3_2, hvw3_2⟩ : ∃ v, (w3_d.alloc (.cells #[.slice LA nl Lc, .slice KA nk Kc, .slice HA nh Hc] 25)) = v := ⟨_, rfl⟩
  have hbw3_2 : Below w3_d.heap.size w3_d w3_2 := by rw [← hvw3_2]; exact (Below.refl _ _).alloc (Nat.le_refl _) _
  obtain ⟨gL, hggL⟩ : ∃ v, w3_d.heap.size = v := ⟨_, rfl⟩
  have hkw3_2 : Blk w3_2 gL 25 #[.slice LA nl Lc, .slice KA nk Kc, .slice HA nh Hc] := by rw [← hvw3_2]; exact Blk.mk_ _ _ _ _ hggL
  have HNgL : Hid (w3.heap.size ≤ gL ∧ w.heap.size ≤ gL) := Lib.hid ⟨by rw [← hggL]; exact HBR_1.out.size, by rw [← hggL]; exact HBW_1.out.size⟩
  rw [hvw3_2, hggL]
  have LB_3 := Lib.hid (hkw3_2)
  have HBW_3 := Lib.hid (below_call HBW_1.out hbw3_2 HBW_1.out.size)
  clear HBW_1
  have HBR_3 := Lib.hid (below_call HBR_1.out hbw3_2 HBR_1.out.size)
  clear HBR_1
  clear hkw3_2 hvw3_2 hggL hbw3_2
  refine hK _ _ ⟨⟨_, HBR_3.out⟩, rfl⟩ ?_
  clear hK K
  try simp only [opsAt, List.getElem?_toArray, List.getElem?_cons_succ, List.getElem?_cons_zero]
  refine wpQuiet_nil ?_
  refine eff_as (C' := (fun w' => ∃ s : Later w3.heap.size w3, w' = s.W)) rfl ?_
  (refine eff_lit rfl rfl (fun K hK => ?_))
  go_big_op
  refine (concat3_any gL 25 LA KA HA nl nk nh Lc Kc Hc b.s0.lib b.s1.lib b.s0.hand w3_2 LB_3.out (by have h := (HR.out.below HBW_3.out).s0.L.row; rw [HMM.out.1, HNN.out.1] at h; exact h) (by have h := (HR.out.below HBW_3.out).s1.L.row; rw [HMM.out.2.1, HNN.out.2.1] at h; exact h) (by have h := (HR.out.below HBW_3.out).s0.H.row; rw [HMM.out.2.2, HNN.out.2.2] at h; exact h) (by have h := HR.out.s0.L.ok.2.1; rw [HMM.out.1] at h; exact h) (by have h := HR.out.s1.L.ok.2.1; rw [HMM.out.2.1] at h; exact h) (by have h := HR.out.s0.H.ok.2.1; rw [HMM.out.2.2] at h; exact h) (by have h1 := HSM.out.s0.L; have h2 := HNN.out.1; omega) (by have h1 := HSM.out.s1.L; have h2 := HNN.out.2.1; omega) (by have h1 := HSM.out.s0.H; have h2 := HNN.out.2.2; omega)).mono ?_
  rintro e w3_4 ⟨A5, c5, rfl, hx, hbw3_4⟩
  have FX_5 := Lib.hid (hx.more HBW_3.out.size)
  have HBW_5 := Lib.hid (below_call HBW_3.out hbw3_4 HBW_3.out.size)
  clear HBW_3
  have HBR_5 := Lib.hid (below_call HBR_3.out hbw3_4 HBR_3.out.size)
  clear HBR_3
  have LB_5 := Lib.hid (LB_3.out.call hbw3_4)
  clear LB_3
  clear hbw3_4
  clear hx
  refine hK _ _ ⟨⟨_, HBR_5.out⟩, rfl⟩ ?_
  clear hK K
  try simp only [opsAt, List.getElem?_toArray, List.getElem?_cons_succ, List.getElem?_cons_zero]
  repeat (go_big_quiet_step (fail))
  refine wpQuiet_nil ?_
  refine effs_done ?_
  go_wp2_with fail
  refine (sort_any w3_4 w.heap.size (nl + nk + nh) c5 A5 (b.s0.lib ++ b.s1.lib ++ b.s0.hand) FX_5.out HBW_5.out.size (by have h1 := HSM.out.s0.L; have h2 := HNN.out.1; have h3 := HSM.out.s1.L; have h4 := HNN.out.2.1; have h5 := HSM.out.s0.H; have h6 := HNN.out.2.2; omega)).mono ?_
  rintro e w9 ⟨rfl, hx9, hb9⟩
  have HX9 := Lib.hid hx9
  have HB9 := Lib.hid (HBW_5.out.trans hb9)
  clear hx9 hb9
  go_wp2_with fail
  go_ret2
  have hle : (hidS b 1).length = nl + nk + nh := by unfold hidS; simp only [List.length_append]; rw [HNN.out.1, HNN.out.2.1]; show _ + b.s0.hand.length = _; rw [HNN.out.2.2]
  exact ⟨A5, c5, by rw [hle]; rfl, by rw [hle]; exact HX9.out, HB9.out⟩
theorem hidden_any (b : Bd) (m : BdM) (w : World) (k : Nat) (hk : k < 2) (hR : BdR w b m) (hz : b.plc.length < 9223372036854775807) (hv : b.Valid) : Calls Tryz.prog 23 #[.agg (b.cells m).toArray, .int .i64 k] w (HidEnd b k w) := by
  rcases (show k = 0 ∨ k = 1 by omega) with rfl | rfl
  · exact hidden0 b m w hR hz hv
  · exact hidden1 b m w hR hz hv
end Go.Proofs.YtagpphelgghbpaaGreat
