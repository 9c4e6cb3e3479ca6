/-
  Texts: Roc.
-/
import Derived.Test.YtagpphelgghbpaaGreatAk26
set_option linter.unusedSimpArgs false
set_option linter.unusedVariables false
namespace Go.Proofs.YtagpphelgghbpaaGreat
open Go.RowKit

set_option maxRecDepth 100000 in
set_option maxHeartbeats 3200000 in
theorem rfi_r10 (w W : World) (g5 g n c nt Tc j : Nat) (ad : Addr) (x : It) (t : Tg) (l : List Int) (h5 : Blk W g5 55 #[.int .i64 x.pl, .int .i64 x.id, .int .i64 x.card, .int .i64 x.trg, .slice (some ad) nt Tc]) (hadl : ad.block < w.heap.size) (hc0 : w.cell? (ad.add (j * 2)) = some (.int .i64 t.id)) (hc1 : w.cell? ⟨(ad.add (j * 2)).block, (ad.add (j * 2)).off + 1, none⟩ = some (.int .i64 t.pl)) (hjn : (j : Int) < nt) (hX : XOwns W w.heap.size 3 1 (some ⟨g, 0, none⟩) n c (ics l)) (hB : Below w.heap.size w W) (hn : n ≤ 900000) (Q : Exit → Act → World → Prop) (t0 t1 t2 t4 t7 t8 t9 t10 t11 t12 t13 t14 t15 t16 t17 t18 t19 t20 t21 t22 t23 t24 t25 t26 t27 t28 t29 t30 t31 t32 t33 t34 t35 t36 t37 t38 t39 t40 t41 t42 t43 t44 t45 t46 t47 t48 t49 t50 t51 t52 t53 t54 t55 t56 : Value)
    (hQ : ∀ d v c a w, Q (.panic c) (Act.put a d v) w → Q (.panic c) a w)
    (hK : ∀ (u41 u42 u43 u44 u45 u46 u47 u48 u49 u50 u51 u52 u53 u54 u55 : Value) (g9 c9 : Nat) (W9 : World), XOwns W9 w.heap.size 3 1 (some ⟨g9, 0, none⟩) (n + 2) c9 (ics (l ++ tgN t)) ∧ Below w.heap.size w W9 ∧ Blk W9 g5 55 #[.int .i64 x.pl, .int .i64 x.id, .int .i64 x.card, .int .i64 x.trg, .slice (some ad) nt Tc] → Q .normal ⟨#[t0, t1, t2, .slice (some ⟨g9, 0, none⟩) (n + 2) c9, t4, .pointer (some ⟨g5, 0, none⟩), .int .i64 j, t7, t8, t9, t10, t11, t12, t13, t14, t15, t16, t17, t18, t19, t20, t21, t22, t23, t24, t25, t26, t27, t28, t29, t30, t31, t32, t33, t34, t35, t36, t37, t38, t39, t40, u41, u42, u43, u44, u45, u46, u47, u48, u49, u50, u51, u52, u53, u54, u55, t56], []⟩ W9) :
    Code.wp Tryz.prog (regOf Tryz.f108 10) Q ⟨#[t0, t1, t2, .slice (some ⟨g, 0, none⟩) n c, t4, .pointer (some ⟨g5, 0, none⟩), .int .i64 j, t7, t8, t9, t10, t11, t12, t13, t14, t15, t16, t17, t18, t19, t20, t21, t22, t23, t24, t25, t26, t27, t28, t29, t30, t31, t32, t33, t34, t35, t36, t37, t38, t39, t40, t41, t42, t43, t44, t45, t46, t47, t48, t49, t50, t51, t52, t53, t54, t55, t56], []⟩ W := by
  have HKK := Lib.hid hK
  clear hK
  conv => arg 2; whnf
  have HP := Lib.hid h5
  have HQ := Lib.hid hQ
  have HXO := Lib.hid hX
  have HB := Lib.hid hB
  have HT : Hid (∀ W', Below w.heap.size w W' → W'.cell? (ad.add (j * 2)) = some (.int .i64 t.id) ∧ W'.cell? ⟨(ad.add (j * 2)).block, (ad.add (j * 2)).off + 1, none⟩ = some (.int .i64 t.pl)) := Lib.hid (fun W' hb => ⟨(hb.cell (p := ad.add (j * 2)) (by rw [ablk]; exact hadl)).trans hc0, (hb.cell (p := ⟨(ad.add (j * 2)).block, (ad.add (j * 2)).off + 1, none⟩) (by show (ad.add (j * 2)).block < _; rw [ablk]; exact hadl)).trans hc1⟩)
  have hne_ : Nonempty (In (fun W' => Blk W' g5 55 #[.int .i64 x.pl, .int .i64 x.id, .int .i64 x.card, .int .i64 x.trg, .slice (some ad) nt Tc] ∧ W'.cell? (ad.add (j * 2)) = some (.int .i64 t.id) ∧ W'.cell? ⟨(ad.add (j * 2)).block, (ad.add (j * 2)).off + 1, none⟩ = some (.int .i64 t.pl))) := ⟨⟨W, h5, HT.out W hB⟩⟩
  have x4 : ∀ s : In (fun W' => Blk W' g5 55 #[.int .i64 x.pl, .int .i64 x.id, .int .i64 x.card, .int .i64 x.trg, .slice (some ad) nt Tc] ∧ W'.cell? (ad.add (j * 2)) = some (.int .i64 t.id) ∧ W'.cell? ⟨(ad.add (j * 2)).block, (ad.add (j * 2)).off + 1, none⟩ = some (.int .i64 t.pl)), s.W.cell? ⟨g5, 4, none⟩ = some (.slice (some ad) nt Tc) := fun s => (s.h.1.at_ 4).trans rfl
  have y0 : ∀ s : In (fun W' => Blk W' g5 55 #[.int .i64 x.pl, .int .i64 x.id, .int .i64 x.card, .int .i64 x.trg, .slice (some ad) nt Tc] ∧ W'.cell? (ad.add (j * 2)) = some (.int .i64 t.id) ∧ W'.cell? ⟨(ad.add (j * 2)).block, (ad.add (j * 2)).off + 1, none⟩ = some (.int .i64 t.pl)), s.W.cell? (ad.add (j * 2)) = some (.int .i64 t.id) := fun s => s.h.2.1
  have y1 : ∀ s : In (fun W' => Blk W' g5 55 #[.int .i64 x.pl, .int .i64 x.id, .int .i64 x.card, .int .i64 x.trg, .slice (some ad) nt Tc] ∧ W'.cell? (ad.add (j * 2)) = some (.int .i64 t.id) ∧ W'.cell? ⟨(ad.add (j * 2)).block, (ad.add (j * 2)).off + 1, none⟩ = some (.int .i64 t.pl)), s.W.cell? ⟨(ad.add (j * 2)).block, (ad.add (j * 2)).off + 1, none⟩ = some (.int .i64 t.pl) := fun s => s.h.2.2
  clear h5 hX hB hQ hc0 hc1 hadl
  refine wp_region_sched (fun w' => ∃ s : In (fun W' => Blk W' g5 55 #[.int .i64 x.pl, .int .i64 x.id, .int .i64 x.card, .int .i64 x.trg, .slice (some ad) nt Tc] ∧ W'.cell? (ad.add (j * 2)) = some (.int .i64 t.id) ∧ W'.cell? ⟨(ad.add (j * 2)).block, (ad.add (j * 2)).off + 1, none⟩ = some (.int .i64 t.pl)), w' = s.W) [0,1,2,3,4,5,6,7,8,9,10,11,12] (.one 13 [] (.one 14 [15] .done)) (by kernel_rfl) (by kernel_rfl) HQ.out ⟨⟨_, ⟨HP.out.drew, HT.out _ HB.out.drew⟩⟩, rfl⟩ ?_
  refine quiet_as (C' := (fun w' => ∃ s : In (fun W' => Blk W' g5 55 #[.int .i64 x.pl, .int .i64 x.id, .int .i64 x.card, .int .i64 x.trg, .slice (some ad) nt Tc] ∧ W'.cell? (ad.add (j * 2)) = some (.int .i64 t.id) ∧ W'.cell? ⟨(ad.add (j * 2)).block, (ad.add (j * 2)).off + 1, none⟩ = some (.int .i64 t.pl)), w' = s.W)) rfl ?_
  simp only [opsAt, List.getElem?_toArray, List.getElem?_cons_succ, List.getElem?_cons_zero]
  repeat (go_big_quiet_step (fail))
  refine wpQuiet_nil ?_
  obtain ⟨W_d, hwd⟩ : ∃ v, W.drew = v := ⟨_, rfl⟩
  have HBW_1 : Hid (Below W.heap.size W W_d) := Lib.hid (by rw [← hwd]; exact (Below.refl _ _).drew)
  have HBR_1 : Hid (Below W.heap.size W W_d) := Lib.hid (by rw [← hwd]; exact (Below.refl _ _).drew)
  have P5_1 := Lib.hid ((HP.out).call (show Below W.heap.size W W_d by rw [← hwd]; exact (Below.refl _ _).drew))
  have OUT_1 := Lib.hid ((HXO.out).below (show Below W.heap.size W W_d by rw [← hwd]; exact (Below.refl _ _).drew))
  have FB_1 := Lib.hid (below_call (HB.out) (show Below W.heap.size W W_d by rw [← hwd]; exact (Below.refl _ _).drew) (HB.out).size)
  rw [hwd]
  clear hwd
  refine eff_as (C' := (fun w' => ∃ s : In (fun W' => Blk W' g5 55 #[.int .i64 x.pl, .int .i64 x.id, .int .i64 x.card, .int .i64 x.trg, .slice (some ad) nt Tc] ∧ W'.cell? (ad.add (j * 2)) = some (.int .i64 t.id) ∧ W'.cell? ⟨(ad.add (j * 2)).block, (ad.add (j * 2)).off + 1, none⟩ = some (.int .i64 t.pl)), w' = s.W)) rfl ?_
  (refine eff_lit rfl rfl (fun K hK => ?_))
  go_big_op
  obtain ⟨W_2, hvW_2⟩ : ∃ v, (W_d.alloc (.cells #[.int .i64 t.id, .int .i64 t.pl] 3)) = v := ⟨_, rfl⟩
  have hbW_2 : Below W_d.heap.size W_d W_2 := by rw [← hvW_2]; exact (Below.refl _ _).alloc (Nat.le_refl _) _
  obtain ⟨gL, hggL⟩ : ∃ v, W_d.heap.size = v := ⟨_, rfl⟩
  have hkW_2 : Blk W_2 gL 3 #[.int .i64 t.id, .int .i64 t.pl] := by rw [← hvW_2]; exact Blk.mk_ _ _ _ _ hggL
  have HNgL : Hid (W.heap.size ≤ gL ∧ W.heap.size ≤ gL) := Lib.hid ⟨by rw [← hggL]; exact HBR_1.out.size, by rw [← hggL]; exact HBW_1.out.size⟩
  rw [hvW_2, hggL]
  have LI_3 := Lib.hid (hkW_2)
  have HBW_3 := Lib.hid (below_call HBW_1.out hbW_2 HBW_1.out.size)
  clear HBW_1
  have HBR_3 := Lib.hid (below_call HBR_1.out hbW_2 HBR_1.out.size)
  clear HBR_1
  have P5_3 := Lib.hid (P5_1.out.call hbW_2)
  clear P5_1
  have OUT_3 := Lib.hid (OUT_1.out.below hbW_2)
  clear OUT_1
  have FB_3 := Lib.hid (below_call FB_1.out hbW_2 FB_1.out.size)
  clear FB_1
  clear hkW_2 hvW_2 hggL hbW_2
  refine hK _ _ ⟨⟨_, ⟨P5_3.out, HT.out _ FB_3.out⟩⟩, rfl⟩ ?_
  clear hK K
  try simp only [opsAt, List.getElem?_toArray, List.getElem?_cons_succ, List.getElem?_cons_zero]
  refine wpQuiet_nil ?_
  refine eff_as (C' := (fun w' => ∃ s : In (fun W' => Blk W' g5 55 #[.int .i64 x.pl, .int .i64 x.id, .int .i64 x.card, .int .i64 x.trg, .slice (some ad) nt Tc] ∧ W'.cell? (ad.add (j * 2)) = some (.int .i64 t.id) ∧ W'.cell? ⟨(ad.add (j * 2)).block, (ad.add (j * 2)).off + 1, none⟩ = some (.int .i64 t.pl)), w' = s.W)) rfl ?_
  (refine eff_lit rfl rfl (fun K hK => ?_))
  refine append_i_op (w := W_2) (.tmp 41) (.tmp 54) rfl w.heap.size (some ⟨g, 0, none⟩) (n) c l rfl OUT_3.out (some ⟨gL, 0, none⟩) (2) 2 (tgN t) rfl (reads_block LI_3.out 1 2 rfl) (by decide) (by omega) (FB_3.out.size) ?_
  intro gqW_4 cqW_4 W_4 hoqW_4 hgqW_4 hbqW_4
  simp only [Act.put, List.setIfInBounds_toArray, List.set_cons_succ, List.set_cons_zero]
  have OUT_5 := Lib.hid (hoqW_4)
  have P5_5 := Lib.hid (P5_3.out.over OUT_3.out hgqW_4 (by decide))
  clear P5_3
  have FB_5 := Lib.hid (FB_3.out.trans hbqW_4)
  clear FB_3
  clear hoqW_4 hgqW_4 hbqW_4
  refine hK _ _ ⟨⟨_, ⟨P5_5.out, HT.out _ FB_5.out⟩⟩, rfl⟩ ?_
  clear hK K
  try simp only [opsAt, List.getElem?_toArray, List.getElem?_cons_succ, List.getElem?_cons_zero]
  repeat (go_big_quiet_step (fail))
  refine wpQuiet_nil ?_
  refine effs_done ?_
  exact HKK.out _ _ _ _ _ _ _ _ _ _ _ _ _ _ _ gqW_4 cqW_4 _ ⟨OUT_5.out, FB_5.out, P5_5.out⟩

set_option maxRecDepth 100000 in
set_option maxHeartbeats 3200000 in
theorem rfitems_any (w : World) (s : Sl) (l : List It) (ts : List Sl) (n : Nat) (hS : IsR w s l ts) (hl : l.length = n) (hn : n ≤ 200) (h4 : ∀ x ∈ l, x.tgs.length ≤ 4) :
    Calls Tryz.prog 108 #[.slice s.A n s.c] w (NumEnd (itsN l) w) := by
  obtain ⟨⟨SA, Sc⟩, hs⟩ : ∃ z, s = z := ⟨_, rfl⟩
  subst hs
  simp only
  obtain ⟨w1, hw1⟩ : ∃ z, w.alloc (.cells #[.int .i64 n] 3) = z := ⟨_, rfl⟩
  have HB1 : Hid (Below w.heap.size w w1) := Lib.hid (by rw [← hw1]; exact (Below.refl _ _).alloc (Nat.le_refl _) _)
  have HO1 : Hid (XOwns w1 w.heap.size 3 1 (some ⟨w.heap.size, 0, none⟩) 1 1 (ics ((n : Int) :: (l.take 0).flatMap itN))) := Lib.hid (by rw [← hw1]; exact own_lit w [(n : Int)] (Nat.le_refl _) (by simp))
  have HS := Lib.hid hS
  have HLL := Lib.hid hl
  have H4 := Lib.hid h4
  have HN2 := Lib.hid hn
  clear hS hl h4
  go_enter Tryz.func108, Tryz.ntmps108
  go_wp2_with fail
  clear hw1
  go_loopw [3, 4] (fun a i W => ∃ (k q g c : Nat), k ≤ n ∧ i = .int .i64 k ∧ a = .slice (some ⟨g, 0, none⟩) q c ∧ Hid (q ≤ 1 + 13 * k ∧ XOwns W w.heap.size 3 1 (some ⟨g, 0, none⟩) q c (ics ((n : Int) :: (l.take k).flatMap itN)) ∧ Below w.heap.size w W)) (fun _ i _ => n - (intOf i).toNat)
  case atStart => exact ⟨0, 1, _, 1, Nat.zero_le _, rfl, rfl, Lib.hid ⟨by omega, HO1.out, HB1.out⟩⟩
  case round =>
    obtain ⟨k, q, g, c, hk, rfl, rfl, HI⟩ := hrel
    clear HO1 HB1
    by_cases hkn : k < n
    · have hkn' : (k : Int) < n := by omega
      have HKN := Lib.hid hkn
      obtain ⟨x, hx⟩ := get_of (l := l) (k := k) (by rw [HLL.out]; exact hkn)
      obtain ⟨⟨TA, Tc⟩, hzp, -, htr, hto⟩ := HS.out.at_ hx
      have hrow := HS.out.row.below HI.out.2.2
      obtain ⟨ad, hA, hadl, c0, c1, c2, c3, c4⟩ := item_at hrow hzp (by rw [HLL.out]; exact hkn)
      (try simp only at hA)
      subst hA
      have HTR := Lib.hid htr
      have HX := Lib.hid hx
      have HT4 := Lib.hid (H4.out x (List.mem_of_getElem? hx))
      have HSP := Lib.hid (show ((n : Int) :: (l.take (k + 1)).flatMap itN) = (((n : Int) :: (l.take k).flatMap itN) ++ [x.pl, x.id, x.card, x.trg, (x.tgs.length : Int)]) ++ x.tgs.flatMap tgN by rw [flatMap_snoc hx, itN]; simp only [List.append_assoc, List.cons_append])
      obtain ⟨nt, hnt⟩ : ∃ z, x.tgs.length = z := ⟨_, rfl⟩
      have HNT := Lib.hid hnt
      simp only [hnt] at c4
      rw [hnt] at HTR HSP HT4
      have hnt4 := HT4.out
      obtain ⟨l0, hl0⟩ : ∃ z, (n : Int) :: (l.take k).flatMap itN = z := ⟨_, rfl⟩
      rw [hl0] at HSP HI
      obtain ⟨w5, hw5⟩ : ∃ z, wr.alloc (.cells #[.int .i64 x.pl, .int .i64 x.id, .int .i64 x.card, .int .i64 x.trg, .slice TA nt Tc] 55) = z := ⟨_, rfl⟩
      have hb5 : Below wr.heap.size wr w5 := by rw [← hw5]; exact (Below.refl _ _).alloc (Nat.le_refl _) _
      have hk5 : Blk w5 wr.heap.size 55 #[.int .i64 x.pl, .int .i64 x.id, .int .i64 x.card, .int .i64 x.trg, .slice TA nt Tc] := by rw [← hw5]; exact Blk.mk_ _ _ _ _ rfl
      obtain ⟨w6, hw6⟩ : ∃ z, w5.alloc (.cells #[.int .i64 x.pl, .int .i64 x.id, .int .i64 x.card, .int .i64 x.trg, .int .i64 nt] 3) = z := ⟨_, rfl⟩
      have hb6 : Below w5.heap.size w5 w6 := by rw [← hw6]; exact (Below.refl _ _).alloc (Nat.le_refl _) _
      have HL6 : Hid (Blk w6 w5.heap.size 3 #[.int .i64 x.pl, .int .i64 x.id, .int .i64 x.card, .int .i64 x.trg, .int .i64 nt]) := Lib.hid (by rw [← hw6]; exact Blk.mk_ _ _ _ _ rfl)
      obtain ⟨g5, hg5⟩ : ∃ z, wr.heap.size = z := ⟨_, rfl⟩
      rw [hg5] at hk5
      have HK6 := Lib.hid (hk5.call hb6)
      have hx5 := hk5
      have d0 := (hx5.at_ 0).trans rfl
      have d1 := (hx5.at_ 1).trans rfl
      have d2 := (hx5.at_ 2).trans rfl
      have d3 := (hx5.at_ 3).trans rfl
      have d4 := (hx5.at_ 4).trans rfl
      have HX6 := Lib.hid ((HI.out.2.1.below hb5).below hb6)
      have HB5 := below_call HI.out.2.2 hb5 HI.out.2.2.size
      have HB6 := Lib.hid (below_call HB5 hb6 HB5.size)
      have HQ6 : Hid (q + 5 ≤ 6 + 13 * k) := Lib.hid (by have := HI.out.1; omega)
      have hq6 : q + 5 ≤ 900000 := by have := HQ6.out; have := HN2.out; omega
      clear hrow hx hzp hto hadl hb5 hb6 HB5 HI htr hnt hl0 hkn hk hx5 hk5
      go_wp2_with (at_builtin; refine append_i (w := w6) rfl (.tmp 20) (.tmp 32) rfl w.heap.size (some ⟨g, 0, none⟩) q c l0 rfl HX6.out (some ⟨w5.heap.size, 0, none⟩) 5 5 [x.pl, x.id, x.card, x.trg, (nt : Int)] rfl (reads_block HL6.out 1 5 rfl) (by decide) (by omega) HB6.out.size ?_; intro g7 c7 w7 ho7 hg7 hb7)
      have HF7 : Hid (q + 5 ≤ 6 + 13 * k + 2 * 0 ∧ XOwns w7 w.heap.size 3 1 (some ⟨g7, 0, none⟩) (q + 5) c7 (ics ((l0 ++ [x.pl, x.id, x.card, x.trg, (nt : Int)]) ++ (x.tgs.take 0).flatMap tgN)) ∧ Below w.heap.size w w7 ∧ Blk w7 g5 55 #[.int .i64 x.pl, .int .i64 x.id, .int .i64 x.card, .int .i64 x.trg, .slice TA nt Tc]) := Lib.hid ⟨by have := HQ6.out; omega, by rw [List.take_zero, List.flatMap_nil, List.append_nil]; exact ho7, HB6.out.trans hb7, HK6.out.over HX6.out hg7 (by decide)⟩
      clear ho7 hg7 hb7 hw5 hw6 d0 d1 d2 d3 d4 HK6 HX6 HB6 HL6 hq6
      go_wp2_with fail
      go_loopw [3, 6] (fun a i W => ∃ (j q g c : Nat), j ≤ nt ∧ i = .int .i64 j ∧ a = .slice (some ⟨g, 0, none⟩) q c ∧ Hid (q ≤ 6 + 13 * k + 2 * j ∧ XOwns W w.heap.size 3 1 (some ⟨g, 0, none⟩) q c (ics ((l0 ++ [x.pl, x.id, x.card, x.trg, (nt : Int)]) ++ (x.tgs.take j).flatMap tgN)) ∧ Below w.heap.size w W ∧ Blk W g5 55 #[.int .i64 x.pl, .int .i64 x.id, .int .i64 x.card, .int .i64 x.trg, .slice TA nt Tc])) (fun _ i _ => nt - (intOf i).toNat)
      case atStart => exact ⟨0, q + 5, g7, c7, Nat.zero_le _, rfl, rfl, HF7⟩
      case round =>
        obtain ⟨j, q, g, c, hj, rfl, rfl, HJ⟩ := hrel
        have d4 := (HJ.out.2.2.2.at_ 4).trans rfl
        clear HF7
        by_cases hjn : j < nt
        · have hjn' : (j : Int) < nt := by omega
          have HJN := Lib.hid hjn
          obtain ⟨t, ht⟩ := get_of (l := x.tgs) (k := j) (by rw [HNT.out]; exact hjn)
          obtain ⟨ad, hA, hadl, c0, c1⟩ := tgt_at HTR.out ht hjn
          (try simp only at hA)
          subst hA
          have HSJ := Lib.hid (show (l0 ++ [x.pl, x.id, x.card, x.trg, (nt : Int)]) ++ (x.tgs.take (j + 1)).flatMap tgN = ((l0 ++ [x.pl, x.id, x.card, x.trg, (nt : Int)]) ++ (x.tgs.take j).flatMap tgN) ++ tgN t by rw [flatMap_snoc ht]; simp only [List.append_assoc])
          have HC := Lib.hid (And.intro hadl (And.intro c0 c1))
          clear ht hadl c0 c1 hjn hj
          go_wp2_with fail
          refine rfi_r10 w wr g5 g q c nt Tc j ad x t _ HJ.out.2.2.2 HC.out.1 HC.out.2.1 HC.out.2.2 hjn' HJ.out.2.1 HJ.out.2.2.1 (by have := HJ.out.1; have := HT4.out; have := HN2.out; have := HKN.out; have := HJN.out; omega) _ _ _ _ _ _ _ _ _ _ _ _ _ _ _ _ _ _ _ _ _ _ _ _ _ _ _ _ _ _ _ _ _ _ _ _ _ _ _ _ _ _ _ _ _ _ _ _ _ _ _ _ _ _ _ ?_ ?_
          · exact fun d _ _ _ _ h => by cases d <;> exact h
          intro v41 v42 v43 v44 v45 v46 v47 v48 v49 v50 v51 v52 v53 v54 v55 g9 c9 w9 h9
          have HI9 := Lib.hid (show q + 2 ≤ 6 + 13 * k + 2 * (j + 1) ∧ XOwns w9 w.heap.size 3 1 (some ⟨g9, 0, none⟩) (q + 2) c9 (ics ((l0 ++ [x.pl, x.id, x.card, x.trg, (nt : Int)]) ++ (x.tgs.take (j + 1)).flatMap tgN)) ∧ Below w.heap.size w w9 ∧ Blk w9 g5 55 #[.int .i64 x.pl, .int .i64 x.id, .int .i64 x.card, .int .i64 x.trg, .slice (some ad) nt Tc] from ⟨by have := HJ.out.1; omega, by rw [HSJ.out]; exact h9.1, h9.2⟩)
          clear h9 HJ d4
          go_wp2_with fail
          go_roundw
          case rel => exact ⟨j + 1, q + 2, g9, c9, HJN.out, by go_num, rfl, HI9⟩
          case measure => simp [intOf]; have := HJN.out; omega
        · have HJE : Hid (j = nt) := Lib.hid (by omega)
          have hjd : decide ((j : Int) < nt) = false := decide_eq_false (by omega)
          have HI9 : Hid (q ≤ 1 + 13 * (k + 1) ∧ XOwns wr w.heap.size 3 1 (some ⟨g, 0, none⟩) q c (ics ((n : Int) :: (l.take (k + 1)).flatMap itN)) ∧ Below w.heap.size w wr) := Lib.hid ⟨by have := HJ.out.1; have := HT4.out; have := HJE.out; omega, by
            have h := HJ.out.2.1
            rw [List.take_of_length_le (by rw [HNT.out, HJE.out]; exact Nat.le_refl _)] at h
            rw [HSP.out]
            exact h, HJ.out.2.2.1⟩
          clear hj
          go_wp2_with fail
          go_roundw
          case rel => exact ⟨k + 1, q, g, c, HKN.out, by go_num, rfl, HI9⟩
          case measure => simp [intOf]; have := HKN.out; omega
    · have HKE : Hid (k = n) := Lib.hid (by omega)
      have HN : Hid ((itsN l).length = q) := Lib.hid (by
        have h := HI.out.2.1.len
        rw [List.take_of_length_le (by rw [HLL.out, HKE.out]; exact Nat.le_refl _)] at h
        rw [itsN, HLL.out]
        simpa [ics] using h)
      clear hk
      go_wp2_with fail
      go_ret
      unfold NumEnd
      rw [HN.out]
      refine ⟨g, c, rfl, ?_, HI.out.2.2⟩
      have h := HI.out.2.1
      rw [List.take_of_length_le (by rw [HLL.out, HKE.out]; exact Nat.le_refl _)] at h
      rw [itsN, HLL.out]
      exact h
end Go.Proofs.YtagpphelgghbpaaGreat
