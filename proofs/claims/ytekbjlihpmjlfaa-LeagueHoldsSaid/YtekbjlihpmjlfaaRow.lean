/-
  row: the row of a player, as the law counts it.
-/
import Derived.Test.YtekbjlihpmjlfaaBad
set_option linter.unusedSimpArgs false
set_option linter.unusedVariables false
namespace Go.Proofs.Ytekbjlihpmjlfaa
open Go.RowKit

/-- The row as far as it has been counted. -/
def rowP (l : List Gm) (p : Int) (t : List Gm) : Rw := ⟨p, sumS l p, amT l t p, cntS 3 t p, cntS 1 t p, cntS 0 t p⟩
theorem rowP_not {l t : List Gm} {g : Gm} {p : Int} (h : ¬ Inv g p) : rowP l p (t ++ [g]) = rowP l p t := by
  have hs : scS g p = 0 := by unfold scS; rw [if_pos h]
  unfold rowP
  rw [amT_snoc, cntS_snoc, cntS_snoc, cntS_snoc, hs]
  simp [h]
theorem rowP_in {l t : List Gm} {g : Gm} {p : Int} (h : Inv g p) : rowP l p (t ++ [g]) = ⟨p, sumS l p, amT l t p + (if sumS l g.a = sumS l g.b then scS g p else 0), cntS 3 t p + (if scS g p = 3 then 1 else 0), cntS 1 t p + (if scS g p = 1 then 1 else 0), cntS 0 t p + (if scS g p = 0 then 1 else 0)⟩ := by
  unfold rowP
  rw [amT_snoc, cntS_snoc, cntS_snoc, cntS_snoc]
  simp [h]
theorem scS_val (g : Gm) (p : Int) : scS g p = 3 ∨ scS g p = 1 ∨ scS g p = 0 := by unfold scS; split <;> (try split) <;> (try split) <;> simp

set_option maxRecDepth 100000 in
set_option maxHeartbeats 3200000 in
theorem row_any (A : Option Addr) (len c : Nat) (l : List Gm) (p : Int) (w : World) (hx : Reads w 3 A len (gcells l)) (hlen : len ≤ 2000) :
    Calls Try.prog 11 #[.slice A len c, .int .i64 p] w fun e w' => e = .returned (.agg (rowS l p).cells.toArray) ∧ Below w.heap.size w w' := by
  have HX := Lib.hid hx
  have HL := Lib.hid (glen hx)
  clear hx
  obtain ⟨S0, hS0⟩ : ∃ S, sumS l p = S := ⟨_, rfl⟩
  have HS0 := Lib.hid hS0
  have hB0 : Below w.heap.size w (w.alloc (.cells #[.int .i64 0, .int .i64 0, .int .i64 0, .int .i64 0, .int .i64 0, .int .i64 0] 33)) := (Below.refl _ _).alloc (Nat.le_refl _) _
  have hR0 : Blk (w.alloc (.cells #[.int .i64 0, .int .i64 0, .int .i64 0, .int .i64 0, .int .i64 0, .int .i64 0] 33)) w.heap.size 33 #[.int .i64 0, .int .i64 0, .int .i64 0, .int .i64 0, .int .i64 0, .int .i64 0] := Blk.mk_ w 33 _ _ rfl
  go_enter Try.func11, Try.ntmps11
  go_wp2_with fail
  refine (sum_any A len c l p _ (HX.out.below hB0) (by omega)).mono ?_
  rw [hS0]
  rintro e w1 ⟨rfl, hb1⟩
  have hB1 := below_call hB0 hb1 hB0.size
  have hR1 := hR0.call hb1
  have hz1 := hB1.size
  have hgw1 := hR1.lt
  obtain ⟨gX, hgX⟩ : ∃ g, w1.heap.size = g := ⟨_, rfl⟩
  have HB2 : Hid (Below w.heap.size w (w1.alloc (.cells #[.int .i64 p, .int .i64 S0, .int .i64 0, .int .i64 0, .int .i64 0, .int .i64 0] 33))) := Lib.hid (hB1.alloc hz1 _)
  have HR2 := Lib.hid (hR1.alloc (.cells #[.int .i64 p, .int .i64 S0, .int .i64 0, .int .i64 0, .int .i64 0, .int .i64 0] 33))
  have HX2 : Hid (Blk (w1.alloc (.cells #[.int .i64 p, .int .i64 S0, .int .i64 0, .int .i64 0, .int .i64 0, .int .i64 0] 33)) gX 33 (rowP l p (l.take 0)).cells.toArray) := Lib.hid (by
    have h := Blk.mk_ w1 33 #[.int .i64 p, .int .i64 S0, .int .i64 0, .int .i64 0, .int .i64 0, .int .i64 0] _ hgX
    rw [← hS0] at h ⊢
    exact h)
  have hwg : w.heap.size < gX := by omega
  clear hB0 hR0 hS0 hb1 hB1 hR1
  go_wp2
  clear hgX
  go_loopw [6] (fun i W => ∃ k : Nat, k ≤ len ∧ i = .int .i64 k ∧ Hid (Blk W gX 33 (rowP l p (l.take k)).cells.toArray) ∧ Hid (Blk W w.heap.size 33 #[.int .i64 0, .int .i64 0, .int .i64 0, .int .i64 0, .int .i64 0, .int .i64 0]) ∧ Hid (Below w.heap.size w W)) (fun i _ => len - (intOf i).toNat)
  case atStart => exact ⟨0, Nat.zero_le _, rfl, HX2, HR2, HB2⟩
  case round =>
    obtain ⟨k, hk, rfl, HBX, HBR, HB⟩ := hrel
    clear HX2 HR2 HB2
    by_cases hlt : k < len
    · have hlt' : (k : Int) < len := by omega
      obtain ⟨ad, rfl, had, c0, c1, c2⟩ := game_at (HX.out.below HB.out) hlt
      have HTK := Lib.hid (gtake_snoc (l := l) (k := k) (by rw [HL.out]; exact hlt))
      have hktl : (l.take k).length ≤ 2000 := by rw [List.length_take]; omega
      obtain ⟨am, ham⟩ : ∃ s, amT l (l.take k) p = s := ⟨_, rfl⟩
      obtain ⟨n3, hn3⟩ : ∃ s, cntS 3 (l.take k) p = s := ⟨_, rfl⟩
      obtain ⟨n1, hn1⟩ : ∃ s, cntS 1 (l.take k) p = s := ⟨_, rfl⟩
      obtain ⟨n0, hn0⟩ : ∃ s, cntS 0 (l.take k) p = s := ⟨_, rfl⟩
      have b1 := amT_bd l (l.take k) p
      have b2 := cntS_bd 3 (l.take k) p
      have b3 := cntS_bd 1 (l.take k) p
      have b4 := cntS_bd 0 (l.take k) p
      rw [ham] at b1
      rw [hn3] at b2
      rw [hn1] at b3
      rw [hn0] at b4
      have HROW : Hid (rowP l p (l.take k) = ⟨p, S0, am, n3, n1, n0⟩) := Lib.hid (by unfold rowP; rw [HS0.out, ham, hn3, hn1, hn0])
      have HBX' : Hid (Blk wr gX 33 #[.int .i64 p, .int .i64 S0, .int .i64 am, .int .i64 n3, .int .i64 n1, .int .i64 n0]) := Lib.hid (by have h := HBX.out; rw [HROW.out] at h; exact h)
      have HIN := Lib.hid (fun h => rowP_in (l := l) (t := l.take k) (g := gth l k) (p := p) h)
      have HNO := Lib.hid (fun h => rowP_not (l := l) (t := l.take k) (g := gth l k) (p := p) h)
      rw [ham, hn3, hn1, hn0, HS0.out] at HIN
      rw [HROW.out] at HNO
      rw [← HTK.out] at HIN HNO
      clear ham hn3 hn1 hn0 HBX HROW
      generalize gth l k = g at *
      have HB' := Lib.hid (HB.out.alloc HB.out.size (.cells #[.int .i64 g.a, .int .i64 g.b, .int .i64 g.o] 30))
      have HBX2 := Lib.hid (HBX'.out.alloc (.cells #[.int .i64 g.a, .int .i64 g.b, .int .i64 g.o] 30))
      have HBR2 := Lib.hid (HBR.out.alloc (.cells #[.int .i64 g.a, .int .i64 g.b, .int .i64 g.o] 30))
      by_cases hinv : Inv g p
      · have HIE : Hid _ := Lib.hid (HIN.out hinv)
        clear HNO HIN
        have hcs : (g.a != p) = false ∨ ((g.a != p) = true ∧ (g.b != p) = false) := by
          unfold Inv at hinv
          by_cases h : g.a = p
          · exact .inl (by simp [h])
          · exact .inr ⟨by simp [h], by simp [hinv.resolve_left h]⟩
        clear hinv
        have hsv := scS_val g p
        have HSC := Lib.hid (fun W => score_any g p W)
        have HG2 := Lib.hid (Blk.mk_ wr 30 #[.int .i64 g.a, .int .i64 g.b, .int .i64 g.o] _ rfl)
        obtain ⟨sc, hsc⟩ : ∃ s, scS g p = s := ⟨_, rfl⟩
        obtain ⟨sa, hsa⟩ : ∃ s, sumS l g.a = s := ⟨_, rfl⟩
        obtain ⟨sb, hsb⟩ : ∃ s, sumS l g.b = s := ⟨_, rfl⟩
        rw [hsc] at hsv HSC HIE
        rw [hsa, hsb] at HIE
        have HSA := Lib.hid hsa
        have HSB := Lib.hid hsb
        clear hsc hsa hsb
        rcases hcs with hc1 | ⟨hc1, hc2⟩
        all_goals
          go_wp2_with fail
          refine (HSC.out _).mono ?_
          rintro e w5 ⟨rfl, hb5⟩
          have HB5 := Lib.hid (below_call HB'.out hb5 HB'.out.size)
          have HBX5 := Lib.hid (HBX2.out.call hb5)
          have HBR5 := Lib.hid (HBR2.out.call hb5)
          have HG5 := Lib.hid (HG2.out.call hb5)
          have hg5 := HG5.out.lt
          have hgX := HBX'.out.lt
          generalize hgG : wr.heap.size = gG at *
          clear c0 c1 c2 hb5
          have hne : gG ≠ gX := by omega
          rcases hsv with rfl | rfl | rfl
          · have x3 : w5.cell? ⟨gX, 3, none⟩ = some (.int .i64 n3) := (HBX5.out.at_ 3).trans rfl
            have x3f := HBX5.out.free 3
            have HB6 := Lib.hid (HB5.out.setCell (p := ⟨gX, 3, none⟩) (Nat.le_of_lt hwg) (.int .i64 (n3 + 1)))
            have HBX6 : Hid (Blk (w5.setCell ⟨gX, 3, none⟩ (.int .i64 (n3 + 1))) gX 33 #[.int .i64 p, .int .i64 S0, .int .i64 am, .int .i64 (n3 + 1), .int .i64 (n1), .int .i64 (n0)]) := Lib.hid (HBX5.out.put 3 (.int .i64 (n3 + 1)))
            have HG6 := Lib.hid (HG5.out.far (p := ⟨gX, 3, none⟩) hne (.int .i64 (n3 + 1)))
            have HBR6 := Lib.hid (HBR5.out.far (p := ⟨gX, 3, none⟩) (Nat.ne_of_lt hwg) (.int .i64 (n3 + 1)))
            have HROW2 : Hid (rowP l p (l.take (k + 1)) = ⟨p, S0, am + (if sa = sb then 3 else 0), n3 + 1, n1, n0⟩) := Lib.hid (by rw [HIE.out]; simp)
            go_wp2
            clear x3 x3f
            generalize w5.setCell ⟨gX, 3, none⟩ (.int .i64 (n3 + 1)) = w6 at *
            have y0 : ∀ s : Later w6.heap.size w6, s.W.cell? ⟨gG, 0, none⟩ = some (.int .i64 g.a) := fun s => ((HG6.out.below s.h HG6.out.lt).at_ 0).trans rfl
            have y1 : ∀ s : Later w6.heap.size w6, s.W.cell? ⟨gG, 1, none⟩ = some (.int .i64 g.b) := fun s => ((HG6.out.below s.h HG6.out.lt).at_ 1).trans rfl
            have HA6 : Hid (∀ s : Later w6.heap.size w6, Calls Try.prog 29 #[.slice (some ad) len c, .int .i64 g.a] s.W fun e w' => e = .returned (.int .i64 sa) ∧ Below s.W.heap.size s.W w') := Lib.hid fun s => by
              have h := sum_any (some ad) len c l g.a s.W (HX.out.below (below_call HB6.out s.h HB6.out.size)) (by omega)
              rwa [HSA.out] at h
            have HC6 : Hid (∀ s : Later w6.heap.size w6, Calls Try.prog 29 #[.slice (some ad) len c, .int .i64 g.b] s.W fun e w' => e = .returned (.int .i64 sb) ∧ Below s.W.heap.size s.W w') := Lib.hid fun s => by
              have h := sum_any (some ad) len c l g.b s.W (HX.out.below (below_call HB6.out s.h HB6.out.size)) (by omega)
              rwa [HSB.out] at h
            refine wp_region_later (B := w6.heap.size) (w0 := w6) (Below.refl _ _) (by kernel_rfl) (by kernel_rfl) ?_
            repeat (go_big_quiet_step ((first | (go_at_call 29; with_reducible exact Calls.later (Nat.le_refl _) (HA6.out _)) | (go_at_call 29; with_reducible exact Calls.later (Nat.le_refl _) (HC6.out _)))))
            refine wpQuiet_nil ?_
            intro _ hw'
            obtain ⟨s, hw2⟩ := hw'
            subst hw2
            obtain ⟨w7, hb7⟩ := s
            have HB7 := Lib.hid (below_call HB6.out hb7 HB6.out.size)
            have HBX7 := Lib.hid (HBX6.out.call hb7)
            have HBR7 := Lib.hid (HBR6.out.call hb7)
            have HG7 := Lib.hid (HG6.out.call hb7)
            clear y0 y1 HA6 HC6
            by_cases hq : sa = sb
            · have hEQ : (sa == sb) = true := by rw [beq_iff_eq]; exact hq
              have HROW3 : Hid (rowP l p (l.take (k + 1)) = ⟨p, S0, am + 3, n3 + 1, n1, n0⟩) := Lib.hid (by rw [HROW2.out, if_pos hq])
              clear hq
              have z0 : ∀ s : Later w7.heap.size w7, s.W.cell? ⟨gX, 2, none⟩ = some (.int .i64 am) := fun s => ((HBX7.out.below s.h HBX7.out.lt).at_ 2).trans rfl
              have z1 : ∀ s : Later w7.heap.size w7, s.W.cell? ⟨gG, 0, none⟩ = some (.int .i64 g.a) := fun s => ((HG7.out.below s.h HG7.out.lt).at_ 0).trans rfl
              have z2 : ∀ s : Later w7.heap.size w7, s.W.cell? ⟨gG, 1, none⟩ = some (.int .i64 g.b) := fun s => ((HG7.out.below s.h HG7.out.lt).at_ 1).trans rfl
              have z3 : ∀ s : Later w7.heap.size w7, s.W.cell? ⟨gG, 2, none⟩ = some (.int .i64 g.o) := fun s => ((HG7.out.below s.h HG7.out.lt).at_ 2).trans rfl
              go_wp2
              refine wp_region_late (Ph (fun w' => ∃ s : Later w7.heap.size w7, w' = s.W) (fun _ => True)) [7] [0,1,2,3] (.one 4 [5,6] (.one 7 [] .done)) (by kernel_rfl) (by kernel_rfl) (fun d _ _ _ _ h => by cases d <;> exact h) ⟨⟨_, (Below.refl _ _).drew⟩, rfl⟩ ?_
              refine quiet_as (C' := (fun w' => ∃ s : Later w7.heap.size w7, w' = s.W)) rfl ?_
              simp only [opsAt, List.getElem?_toArray, List.getElem?_cons_succ, List.getElem?_cons_zero]
              repeat (go_big_quiet_step (fail))
              refine wpQuiet_nil ?_
              refine eff_as (C' := (fun w' => ∃ s : Later w7.heap.size w7, w' = s.W)) rfl ?_
              (refine eff_lit rfl rfl (fun K hK => ?_))
              go_big_op
              refine (HSC.out _).mono ?_
              rintro e w8 ⟨rfl, hb8⟩
              have hb8' : Below w7.heap.size w7 w8 := (Below.refl _ _).drew.trans hb8
              refine hK _ _ ⟨⟨_, hb8'⟩, rfl⟩ ?_
              clear hK K z0 z1 z2 z3
              have HB8 := Lib.hid (below_call HB7.out hb8' HB7.out.size)
              have HBX8 := Lib.hid (HBX7.out.call hb8')
              have HBR8 := Lib.hid (HBR7.out.call hb8')
              have v2 : w8.cell? ⟨gX, 2, none⟩ = some (.int .i64 am) := (HBX8.out.at_ 2).trans rfl
              have v2f := HBX8.out.free 2
              clear hb8 hb8'
              simp only [opsAt, List.getElem?_toArray, List.getElem?_cons_succ, List.getElem?_cons_zero]
              repeat (go_big_quiet_step (fail))
              refine wpQuiet_nil ?_
              refine eff_as (C' := fun _ => True) rfl ?_
              (refine eff_lit rfl rfl (fun K hK => ?_))
              go_big_op
              refine hK _ _ trivial ?_
              clear hK K
              simp only [opsAt, List.getElem?_toArray, List.getElem?_cons_succ, List.getElem?_cons_zero]
              refine wpQuiet_nil ?_
              refine effs_done ?_
              go_wp2
              go_roundw
              case rel => exact ⟨k + 1, hlt, by go_num, Lib.hid (by rw [HROW3.out]; exact HBX8.out.put 2 _), Lib.hid (HBR8.out.far (p := ⟨gX, 2, none⟩) (Nat.ne_of_lt hwg) _), Lib.hid (HB8.out.setCell (p := ⟨gX, 2, none⟩) (Nat.le_of_lt hwg) _)⟩
              case measure => simp [intOf]; omega
            · have hEQ : (sa == sb) = false := by rw [beq_eq_false_iff_ne]; exact hq
              have HROW3 : Hid (rowP l p (l.take (k + 1)) = ⟨p, S0, am, n3 + 1, n1, n0⟩) := Lib.hid (by rw [HROW2.out, if_neg hq, Int.add_zero])
              clear hq
              go_wp2
              go_roundw
              case rel => exact ⟨k + 1, hlt, by go_num, Lib.hid (by rw [HROW3.out]; exact HBX7.out), HBR7, HB7⟩
              case measure => simp [intOf]; omega
          · have x3 : w5.cell? ⟨gX, 4, none⟩ = some (.int .i64 n1) := (HBX5.out.at_ 4).trans rfl
            have x3f := HBX5.out.free 4
            have HB6 := Lib.hid (HB5.out.setCell (p := ⟨gX, 4, none⟩) (Nat.le_of_lt hwg) (.int .i64 (n1 + 1)))
            have HBX6 : Hid (Blk (w5.setCell ⟨gX, 4, none⟩ (.int .i64 (n1 + 1))) gX 33 #[.int .i64 p, .int .i64 S0, .int .i64 am, .int .i64 (n3), .int .i64 (n1 + 1), .int .i64 (n0)]) := Lib.hid (HBX5.out.put 4 (.int .i64 (n1 + 1)))
            have HG6 := Lib.hid (HG5.out.far (p := ⟨gX, 4, none⟩) hne (.int .i64 (n1 + 1)))
            have HBR6 := Lib.hid (HBR5.out.far (p := ⟨gX, 4, none⟩) (Nat.ne_of_lt hwg) (.int .i64 (n1 + 1)))
            have HROW2 : Hid (rowP l p (l.take (k + 1)) = ⟨p, S0, am + (if sa = sb then 1 else 0), n3, n1 + 1, n0⟩) := Lib.hid (by rw [HIE.out]; simp)
            go_wp2
            clear x3 x3f
            generalize w5.setCell ⟨gX, 4, none⟩ (.int .i64 (n1 + 1)) = w6 at *
            have y0 : ∀ s : Later w6.heap.size w6, s.W.cell? ⟨gG, 0, none⟩ = some (.int .i64 g.a) := fun s => ((HG6.out.below s.h HG6.out.lt).at_ 0).trans rfl
            have y1 : ∀ s : Later w6.heap.size w6, s.W.cell? ⟨gG, 1, none⟩ = some (.int .i64 g.b) := fun s => ((HG6.out.below s.h HG6.out.lt).at_ 1).trans rfl
            have HA6 : Hid (∀ s : Later w6.heap.size w6, Calls Try.prog 29 #[.slice (some ad) len c, .int .i64 g.a] s.W fun e w' => e = .returned (.int .i64 sa) ∧ Below s.W.heap.size s.W w') := Lib.hid fun s => by
              have h := sum_any (some ad) len c l g.a s.W (HX.out.below (below_call HB6.out s.h HB6.out.size)) (by omega)
              rwa [HSA.out] at h
            have HC6 : Hid (∀ s : Later w6.heap.size w6, Calls Try.prog 29 #[.slice (some ad) len c, .int .i64 g.b] s.W fun e w' => e = .returned (.int .i64 sb) ∧ Below s.W.heap.size s.W w') := Lib.hid fun s => by
              have h := sum_any (some ad) len c l g.b s.W (HX.out.below (below_call HB6.out s.h HB6.out.size)) (by omega)
              rwa [HSB.out] at h
            refine wp_region_later (B := w6.heap.size) (w0 := w6) (Below.refl _ _) (by kernel_rfl) (by kernel_rfl) ?_
            repeat (go_big_quiet_step ((first | (go_at_call 29; with_reducible exact Calls.later (Nat.le_refl _) (HA6.out _)) | (go_at_call 29; with_reducible exact Calls.later (Nat.le_refl _) (HC6.out _)))))
            refine wpQuiet_nil ?_
            intro _ hw'
            obtain ⟨s, hw2⟩ := hw'
            subst hw2
            obtain ⟨w7, hb7⟩ := s
            have HB7 := Lib.hid (below_call HB6.out hb7 HB6.out.size)
            have HBX7 := Lib.hid (HBX6.out.call hb7)
            have HBR7 := Lib.hid (HBR6.out.call hb7)
            have HG7 := Lib.hid (HG6.out.call hb7)
            clear y0 y1 HA6 HC6
            by_cases hq : sa = sb
            · have hEQ : (sa == sb) = true := by rw [beq_iff_eq]; exact hq
              have HROW3 : Hid (rowP l p (l.take (k + 1)) = ⟨p, S0, am + 1, n3, n1 + 1, n0⟩) := Lib.hid (by rw [HROW2.out, if_pos hq])
              clear hq
              have z0 : ∀ s : Later w7.heap.size w7, s.W.cell? ⟨gX, 2, none⟩ = some (.int .i64 am) := fun s => ((HBX7.out.below s.h HBX7.out.lt).at_ 2).trans rfl
              have z1 : ∀ s : Later w7.heap.size w7, s.W.cell? ⟨gG, 0, none⟩ = some (.int .i64 g.a) := fun s => ((HG7.out.below s.h HG7.out.lt).at_ 0).trans rfl
              have z2 : ∀ s : Later w7.heap.size w7, s.W.cell? ⟨gG, 1, none⟩ = some (.int .i64 g.b) := fun s => ((HG7.out.below s.h HG7.out.lt).at_ 1).trans rfl
              have z3 : ∀ s : Later w7.heap.size w7, s.W.cell? ⟨gG, 2, none⟩ = some (.int .i64 g.o) := fun s => ((HG7.out.below s.h HG7.out.lt).at_ 2).trans rfl
              go_wp2
              refine wp_region_late (Ph (fun w' => ∃ s : Later w7.heap.size w7, w' = s.W) (fun _ => True)) [7] [0,1,2,3] (.one 4 [5,6] (.one 7 [] .done)) (by kernel_rfl) (by kernel_rfl) (fun d _ _ _ _ h => by cases d <;> exact h) ⟨⟨_, (Below.refl _ _).drew⟩, rfl⟩ ?_
              refine quiet_as (C' := (fun w' => ∃ s : Later w7.heap.size w7, w' = s.W)) rfl ?_
              simp only [opsAt, List.getElem?_toArray, List.getElem?_cons_succ, List.getElem?_cons_zero]
              repeat (go_big_quiet_step (fail))
              refine wpQuiet_nil ?_
              refine eff_as (C' := (fun w' => ∃ s : Later w7.heap.size w7, w' = s.W)) rfl ?_
              (refine eff_lit rfl rfl (fun K hK => ?_))
              go_big_op
              refine (HSC.out _).mono ?_
              rintro e w8 ⟨rfl, hb8⟩
              have hb8' : Below w7.heap.size w7 w8 := (Below.refl _ _).drew.trans hb8
              refine hK _ _ ⟨⟨_, hb8'⟩, rfl⟩ ?_
              clear hK K z0 z1 z2 z3
              have HB8 := Lib.hid (below_call HB7.out hb8' HB7.out.size)
              have HBX8 := Lib.hid (HBX7.out.call hb8')
              have HBR8 := Lib.hid (HBR7.out.call hb8')
              have v2 : w8.cell? ⟨gX, 2, none⟩ = some (.int .i64 am) := (HBX8.out.at_ 2).trans rfl
              have v2f := HBX8.out.free 2
              clear hb8 hb8'
              simp only [opsAt, List.getElem?_toArray, List.getElem?_cons_succ, List.getElem?_cons_zero]
              repeat (go_big_quiet_step (fail))
              refine wpQuiet_nil ?_
              refine eff_as (C' := fun _ => True) rfl ?_
              (refine eff_lit rfl rfl (fun K hK => ?_))
              go_big_op
              refine hK _ _ trivial ?_
              clear hK K
              simp only [opsAt, List.getElem?_toArray, List.getElem?_cons_succ, List.getElem?_cons_zero]
              refine wpQuiet_nil ?_
              refine effs_done ?_
              go_wp2
              go_roundw
              case rel => exact ⟨k + 1, hlt, by go_num, Lib.hid (by rw [HROW3.out]; exact HBX8.out.put 2 _), Lib.hid (HBR8.out.far (p := ⟨gX, 2, none⟩) (Nat.ne_of_lt hwg) _), Lib.hid (HB8.out.setCell (p := ⟨gX, 2, none⟩) (Nat.le_of_lt hwg) _)⟩
              case measure => simp [intOf]; omega
            · have hEQ : (sa == sb) = false := by rw [beq_eq_false_iff_ne]; exact hq
              have HROW3 : Hid (rowP l p (l.take (k + 1)) = ⟨p, S0, am, n3, n1 + 1, n0⟩) := Lib.hid (by rw [HROW2.out, if_neg hq, Int.add_zero])
              clear hq
              go_wp2
              go_roundw
              case rel => exact ⟨k + 1, hlt, by go_num, Lib.hid (by rw [HROW3.out]; exact HBX7.out), HBR7, HB7⟩
              case measure => simp [intOf]; omega
          · have x3 : w5.cell? ⟨gX, 5, none⟩ = some (.int .i64 n0) := (HBX5.out.at_ 5).trans rfl
            have x3f := HBX5.out.free 5
            have HB6 := Lib.hid (HB5.out.setCell (p := ⟨gX, 5, none⟩) (Nat.le_of_lt hwg) (.int .i64 (n0 + 1)))
            have HBX6 : Hid (Blk (w5.setCell ⟨gX, 5, none⟩ (.int .i64 (n0 + 1))) gX 33 #[.int .i64 p, .int .i64 S0, .int .i64 am, .int .i64 (n3), .int .i64 (n1), .int .i64 (n0 + 1)]) := Lib.hid (HBX5.out.put 5 (.int .i64 (n0 + 1)))
            have HG6 := Lib.hid (HG5.out.far (p := ⟨gX, 5, none⟩) hne (.int .i64 (n0 + 1)))
            have HBR6 := Lib.hid (HBR5.out.far (p := ⟨gX, 5, none⟩) (Nat.ne_of_lt hwg) (.int .i64 (n0 + 1)))
            have HROW2 : Hid (rowP l p (l.take (k + 1)) = ⟨p, S0, am + (if sa = sb then 0 else 0), n3, n1, n0 + 1⟩) := Lib.hid (by rw [HIE.out]; simp)
            go_wp2
            clear x3 x3f
            generalize w5.setCell ⟨gX, 5, none⟩ (.int .i64 (n0 + 1)) = w6 at *
            have y0 : ∀ s : Later w6.heap.size w6, s.W.cell? ⟨gG, 0, none⟩ = some (.int .i64 g.a) := fun s => ((HG6.out.below s.h HG6.out.lt).at_ 0).trans rfl
            have y1 : ∀ s : Later w6.heap.size w6, s.W.cell? ⟨gG, 1, none⟩ = some (.int .i64 g.b) := fun s => ((HG6.out.below s.h HG6.out.lt).at_ 1).trans rfl
            have HA6 : Hid (∀ s : Later w6.heap.size w6, Calls Try.prog 29 #[.slice (some ad) len c, .int .i64 g.a] s.W fun e w' => e = .returned (.int .i64 sa) ∧ Below s.W.heap.size s.W w') := Lib.hid fun s => by
              have h := sum_any (some ad) len c l g.a s.W (HX.out.below (below_call HB6.out s.h HB6.out.size)) (by omega)
              rwa [HSA.out] at h
            have HC6 : Hid (∀ s : Later w6.heap.size w6, Calls Try.prog 29 #[.slice (some ad) len c, .int .i64 g.b] s.W fun e w' => e = .returned (.int .i64 sb) ∧ Below s.W.heap.size s.W w') := Lib.hid fun s => by
              have h := sum_any (some ad) len c l g.b s.W (HX.out.below (below_call HB6.out s.h HB6.out.size)) (by omega)
              rwa [HSB.out] at h
            refine wp_region_later (B := w6.heap.size) (w0 := w6) (Below.refl _ _) (by kernel_rfl) (by kernel_rfl) ?_
            repeat (go_big_quiet_step ((first | (go_at_call 29; with_reducible exact Calls.later (Nat.le_refl _) (HA6.out _)) | (go_at_call 29; with_reducible exact Calls.later (Nat.le_refl _) (HC6.out _)))))
            refine wpQuiet_nil ?_
            intro _ hw'
            obtain ⟨s, hw2⟩ := hw'
            subst hw2
            obtain ⟨w7, hb7⟩ := s
            have HB7 := Lib.hid (below_call HB6.out hb7 HB6.out.size)
            have HBX7 := Lib.hid (HBX6.out.call hb7)
            have HBR7 := Lib.hid (HBR6.out.call hb7)
            have HG7 := Lib.hid (HG6.out.call hb7)
            clear y0 y1 HA6 HC6
            by_cases hq : sa = sb
            · have hEQ : (sa == sb) = true := by rw [beq_iff_eq]; exact hq
              have HROW3 : Hid (rowP l p (l.take (k + 1)) = ⟨p, S0, am, n3, n1, n0 + 1⟩) := Lib.hid (by rw [HROW2.out, if_pos hq]; rw [Int.add_zero])
              clear hq
              have z0 : ∀ s : Later w7.heap.size w7, s.W.cell? ⟨gX, 2, none⟩ = some (.int .i64 am) := fun s => ((HBX7.out.below s.h HBX7.out.lt).at_ 2).trans rfl
              have z1 : ∀ s : Later w7.heap.size w7, s.W.cell? ⟨gG, 0, none⟩ = some (.int .i64 g.a) := fun s => ((HG7.out.below s.h HG7.out.lt).at_ 0).trans rfl
              have z2 : ∀ s : Later w7.heap.size w7, s.W.cell? ⟨gG, 1, none⟩ = some (.int .i64 g.b) := fun s => ((HG7.out.below s.h HG7.out.lt).at_ 1).trans rfl
              have z3 : ∀ s : Later w7.heap.size w7, s.W.cell? ⟨gG, 2, none⟩ = some (.int .i64 g.o) := fun s => ((HG7.out.below s.h HG7.out.lt).at_ 2).trans rfl
              go_wp2
              refine wp_region_late (Ph (fun w' => ∃ s : Later w7.heap.size w7, w' = s.W) (fun _ => True)) [7] [0,1,2,3] (.one 4 [5,6] (.one 7 [] .done)) (by kernel_rfl) (by kernel_rfl) (fun d _ _ _ _ h => by cases d <;> exact h) ⟨⟨_, (Below.refl _ _).drew⟩, rfl⟩ ?_
              refine quiet_as (C' := (fun w' => ∃ s : Later w7.heap.size w7, w' = s.W)) rfl ?_
              simp only [opsAt, List.getElem?_toArray, List.getElem?_cons_succ, List.getElem?_cons_zero]
              repeat (go_big_quiet_step (fail))
              refine wpQuiet_nil ?_
              refine eff_as (C' := (fun w' => ∃ s : Later w7.heap.size w7, w' = s.W)) rfl ?_
              (refine eff_lit rfl rfl (fun K hK => ?_))
              go_big_op
              refine (HSC.out _).mono ?_
              rintro e w8 ⟨rfl, hb8⟩
              have hb8' : Below w7.heap.size w7 w8 := (Below.refl _ _).drew.trans hb8
              refine hK _ _ ⟨⟨_, hb8'⟩, rfl⟩ ?_
              clear hK K z0 z1 z2 z3
              have HB8 := Lib.hid (below_call HB7.out hb8' HB7.out.size)
              have HBX8 := Lib.hid (HBX7.out.call hb8')
              have HBR8 := Lib.hid (HBR7.out.call hb8')
              have v2 : w8.cell? ⟨gX, 2, none⟩ = some (.int .i64 am) := (HBX8.out.at_ 2).trans rfl
              have v2f := HBX8.out.free 2
              clear hb8 hb8'
              simp only [opsAt, List.getElem?_toArray, List.getElem?_cons_succ, List.getElem?_cons_zero]
              repeat (go_big_quiet_step (fail))
              refine wpQuiet_nil ?_
              refine eff_as (C' := fun _ => True) rfl ?_
              (refine eff_lit rfl rfl (fun K hK => ?_))
              go_big_op
              refine hK _ _ trivial ?_
              clear hK K
              simp only [opsAt, List.getElem?_toArray, List.getElem?_cons_succ, List.getElem?_cons_zero]
              refine wpQuiet_nil ?_
              refine effs_done ?_
              go_wp2
              go_roundw
              case rel => exact ⟨k + 1, hlt, by go_num, Lib.hid (by rw [HROW3.out]; exact HBX8.out.put 2 _), Lib.hid (HBR8.out.far (p := ⟨gX, 2, none⟩) (Nat.ne_of_lt hwg) _), Lib.hid (HB8.out.setCell (p := ⟨gX, 2, none⟩) (Nat.le_of_lt hwg) _)⟩
              case measure => simp [intOf]; omega
            · have hEQ : (sa == sb) = false := by rw [beq_eq_false_iff_ne]; exact hq
              have HROW3 : Hid (rowP l p (l.take (k + 1)) = ⟨p, S0, am, n3, n1, n0 + 1⟩) := Lib.hid (by rw [HROW2.out, if_neg hq, Int.add_zero])
              clear hq
              go_wp2
              go_roundw
              case rel => exact ⟨k + 1, hlt, by go_num, Lib.hid (by rw [HROW3.out]; exact HBX7.out), HBR7, HB7⟩
              case measure => simp [intOf]; omega
      · have HIE : Hid _ := Lib.hid (HNO.out hinv)
        have e1 : (g.a != p) = true := by rw [bne_iff_ne]; exact fun e => hinv (.inl e)
        have e2 : (g.b != p) = true := by rw [bne_iff_ne]; exact fun e => hinv (.inr e)
        clear hinv HNO HIN
        go_wp2
        go_roundw
        case rel => exact ⟨k + 1, hlt, by go_num, by rw [HIE.out]; exact HBX2, HBR2, HB'⟩
        case measure => simp [intOf]; omega
    · obtain rfl : k = len := by omega
      have HE : Hid (rowP l p (l.take k) = rowS l p) := Lib.hid (by rw [List.take_of_length_le (by rw [HL.out]; exact Nat.le_refl _)]; rfl)
      rw [HE.out] at HBX
      obtain ⟨r, hr⟩ : ∃ r, rowS l p = r := ⟨_, rfl⟩
      rw [hr] at HBX
      have HR := Lib.hid hr
      clear hr
      obtain ⟨r0, r1, r2, r3, r4, r5⟩ := r
      have q0 : wr.cell? ⟨gX, 0, none⟩ = some (.int .i64 r0) := (HBX.out.at_ 0).trans rfl
      have q1 : wr.cell? ⟨gX, 1, none⟩ = some (.int .i64 r1) := (HBX.out.at_ 1).trans rfl
      have q2 : wr.cell? ⟨gX, 2, none⟩ = some (.int .i64 r2) := (HBX.out.at_ 2).trans rfl
      have q3 : wr.cell? ⟨gX, 3, none⟩ = some (.int .i64 r3) := (HBX.out.at_ 3).trans rfl
      have q4 : wr.cell? ⟨gX, 4, none⟩ = some (.int .i64 r4) := (HBX.out.at_ 4).trans rfl
      have q5 : wr.cell? ⟨gX, 5, none⟩ = some (.int .i64 r5) := (HBX.out.at_ 5).trans rfl
      have p0 : wr.cell? ⟨w.heap.size, 0, none⟩ = some (.int .i64 0) := (HBR.out.at_ 0).trans rfl
      have p1 : wr.cell? ⟨w.heap.size, 1, none⟩ = some (.int .i64 0) := (HBR.out.at_ 1).trans rfl
      have p2 : wr.cell? ⟨w.heap.size, 2, none⟩ = some (.int .i64 0) := (HBR.out.at_ 2).trans rfl
      have p3 : wr.cell? ⟨w.heap.size, 3, none⟩ = some (.int .i64 0) := (HBR.out.at_ 3).trans rfl
      have p4 : wr.cell? ⟨w.heap.size, 4, none⟩ = some (.int .i64 0) := (HBR.out.at_ 4).trans rfl
      have p5 : wr.cell? ⟨w.heap.size, 5, none⟩ = some (.int .i64 0) := (HBR.out.at_ 5).trans rfl
      have f0 := HBR.out.free 0
      have f1 := HBR.out.free 1
      have f2 := HBR.out.free 2
      have f3 := HBR.out.free 3
      have f4 := HBR.out.free 4
      have f5 := HBR.out.free 5
      have hRl := HBR.out.lt
      have hXl := HBX.out.lt
      have hne : w.heap.size ≠ gX := Nat.ne_of_lt hwg
      go_wp2
      have hZ : Blk ((((((wr.setCell ⟨w.heap.size, 0, none⟩ (.int .i64 r0)).setCell ⟨w.heap.size, 1, none⟩ (.int .i64 r1)).setCell ⟨w.heap.size, 2, none⟩ (.int .i64 r2)).setCell ⟨w.heap.size, 3, none⟩ (.int .i64 r3)).setCell ⟨w.heap.size, 4, none⟩ (.int .i64 r4)).setCell ⟨w.heap.size, 5, none⟩ (.int .i64 r5)) w.heap.size 33 #[.int .i64 r0, .int .i64 r1, .int .i64 r2, .int .i64 r3, .int .i64 r4, .int .i64 r5] := ((((((HBR.out.put 0 (.int .i64 r0)).put 1 (.int .i64 r1)).put 2 (.int .i64 r2)).put 3 (.int .i64 r3)).put 4 (.int .i64 r4)).put 5 (.int .i64 r5))
      have hBZ : Below w.heap.size w ((((((wr.setCell ⟨w.heap.size, 0, none⟩ (.int .i64 r0)).setCell ⟨w.heap.size, 1, none⟩ (.int .i64 r1)).setCell ⟨w.heap.size, 2, none⟩ (.int .i64 r2)).setCell ⟨w.heap.size, 3, none⟩ (.int .i64 r3)).setCell ⟨w.heap.size, 4, none⟩ (.int .i64 r4)).setCell ⟨w.heap.size, 5, none⟩ (.int .i64 r5)) := ((((((HB.out.setCell (p := ⟨w.heap.size, 0, none⟩) (Nat.le_refl _) (.int .i64 r0)).setCell (p := ⟨w.heap.size, 1, none⟩) (Nat.le_refl _) (.int .i64 r1)).setCell (p := ⟨w.heap.size, 2, none⟩) (Nat.le_refl _) (.int .i64 r2)).setCell (p := ⟨w.heap.size, 3, none⟩) (Nat.le_refl _) (.int .i64 r3)).setCell (p := ⟨w.heap.size, 4, none⟩) (Nat.le_refl _) (.int .i64 r4)).setCell (p := ⟨w.heap.size, 5, none⟩) (Nat.le_refl _) (.int .i64 r5))
      generalize ((((((wr.setCell ⟨w.heap.size, 0, none⟩ (.int .i64 r0)).setCell ⟨w.heap.size, 1, none⟩ (.int .i64 r1)).setCell ⟨w.heap.size, 2, none⟩ (.int .i64 r2)).setCell ⟨w.heap.size, 3, none⟩ (.int .i64 r3)).setCell ⟨w.heap.size, 4, none⟩ (.int .i64 r4)).setCell ⟨w.heap.size, 5, none⟩ (.int .i64 r5)) = wz at *
      have z0 : wz.cell? ⟨w.heap.size, 0, none⟩ = some (.int .i64 r0) := (hZ.at_ 0).trans rfl
      have z1 : wz.cell? ⟨w.heap.size, 1, none⟩ = some (.int .i64 r1) := (hZ.at_ 1).trans rfl
      have z2 : wz.cell? ⟨w.heap.size, 2, none⟩ = some (.int .i64 r2) := (hZ.at_ 2).trans rfl
      have z3 : wz.cell? ⟨w.heap.size, 3, none⟩ = some (.int .i64 r3) := (hZ.at_ 3).trans rfl
      have z4 : wz.cell? ⟨w.heap.size, 4, none⟩ = some (.int .i64 r4) := (hZ.at_ 4).trans rfl
      have z5 : wz.cell? ⟨w.heap.size, 5, none⟩ = some (.int .i64 r5) := (hZ.at_ 5).trans rfl
      clear hZ q0 q1 q2 q3 q4 q5 p0 p1 p2 p3 p4 p5 f0 f1 f2 f3 f4 f5
      refine bodyPost_ret (v := .agg #[.int .i64 r0, .int .i64 r1, .int .i64 r2, .int .i64 r3, .int .i64 r4, .int .i64 r5]) (by simp [results, Try.results11, go_sem, z0, z1, z2, z3, z4, z5]) rfl ⟨by rw [HR.out]; rfl, hBZ⟩
end Go.Proofs.Ytekbjlihpmjlfaa
