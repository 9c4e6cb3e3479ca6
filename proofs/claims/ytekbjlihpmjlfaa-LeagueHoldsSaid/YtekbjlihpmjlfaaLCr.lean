/-
  LeagueCrosses: the points that are wanted, and the last outcomes.
-/
import Derived.Test.YtekbjlihpmjlfaaLTab
set_option linter.unusedSimpArgs false
set_option linter.unusedVariables false
namespace Go.Proofs.Ytekbjlihpmjlfaa
open Go.RowKit

theorem forms_at {n : Nat} {A B : Option Addr} {len c k c' : Nat} {l : List Gm} {p m : Int} {L : List Int} {w : World} (hx : Reads w 3 A len (gcells l)) (he : errS n l = 0) (hp : 0 ≤ p ∧ p < n) (hm : 0 ≤ m ∧ m ≤ 9223372036854775807) (e : lastS (frmS l p) m = L) (hk : k = L.length) (hw : Reads w 1 B k (ics L)) :
    Calls Try.prog 15 #[.int .i64 n, .slice A len c, .int .i64 p, .int .i64 m, .slice B k c', .int .i64 0] w fun e w' => e = .returned (.bool true) ∧ Below w.heap.size w w' := by
  subst e hk
  exact forms_ok n A len c l p m B c' w hx he hp hm hw

theorem frmS_app (l m : List Gm) (p : Int) : frmS (l ++ m) p = frmS l p ++ frmS m p := by simp [frmS]
theorem last_at {l : List Gm} {p m : Int} {q kk : Nat} (h1 : (kk : Int) ≤ m) (h2 : q = 0 ∨ (kk : Int) = m) (hk : kk = (frmS (l.drop q) p).length) : lastS (frmS l p) m = frmS (l.drop q) p := by
  have e : frmS l p = frmS (l.take q) p ++ frmS (l.drop q) p := by rw [← frmS_app, List.take_append_drop]
  unfold lastS
  rcases h2 with rfl | h2
  · rw [List.drop_zero] at hk ⊢
    rw [show (frmS l p).length - m.toNat = 0 by omega, List.drop_zero]
  · rw [e, List.length_append, ← hk, show (frmS (l.take q) p).length + kk - m.toNat = (frmS (l.take q) p).length by omega, List.drop_left]
theorem drop_game {l : List Gm} {j : Nat} (h : j < l.length) : l.drop j = gth l j :: l.drop (j + 1) := by
  rw [List.drop_eq_getElem_cons h]
  have := gth_get h
  rw [List.getElem?_eq_getElem h] at this
  injection this with this
  rw [this]
theorem out_sc {g : Gm} {p : Int} (ho : 1 ≤ g.o ∧ g.o ≤ 3 ∧ g.a ≠ g.b) (h : Inv g p) : outS g p = [if scS g p = 3 then 1 else if scS g p = 1 then 3 else 2] := by
  obtain ⟨h1, h2, h3⟩ := ho
  unfold outS
  rcases h with h | h
  · subst h
    rw [if_pos rfl, sc_a h3]
    rcases (show g.o = 1 ∨ g.o = 2 ∨ g.o = 3 by omega) with e | e | e <;> simp [e]
  · subst h
    rw [if_neg h3, if_pos rfl, sc_b h3]
    rcases (show g.o = 1 ∨ g.o = 2 ∨ g.o = 3 by omega) with e | e | e <;> simp [e]

set_option maxRecDepth 100000 in
set_option maxHeartbeats 3200000 in
theorem lcr_bad (n : Int) (A : Option Addr) (len c : Nat) (l : List Gm) (p m : Int) (w : World) (hx : Reads w 3 A len (gcells l)) (hlen : len ≤ 60) (he : errS n l ≠ 0) :
    Calls Try.prog 4 #[.int .i64 n, .slice A len c, .int .i64 p, .int .i64 m] w fun e w' => e = .returned (.bool true) ∧ Below w.heap.size w w' := by
  have HX := Lib.hid hx
  have HE := Lib.hid he
  have hl60 : decide ((60 : Int) < len) = false := decide_eq_false (by omega)
  obtain ⟨E, hE⟩ : ∃ E, errS n l = E := ⟨_, rfl⟩
  have HEE := Lib.hid hE
  have hE0 : (E == 0) = false := by rw [beq_eq_false_iff_ne, ← hE]; exact he
  have hE1 : (E != 0) = true := by simp [bne, hE0]
  clear hx he hE
  go_enter Try.func4, Try.ntmps4
  go_wp2_with fail
  refine (cross_bad n A len c l _ HX.out HE.out).mono ?_
  rw [HEE.out]
  rintro e w1 ⟨rfl, hb1⟩
  go_wp2_with fail
  refine (lbad_any n A len c l _ (HX.out.below hb1)).mono ?_
  rw [HEE.out]
  rintro e w2 ⟨rfl, hb2⟩
  have hB2 := below_call hb1 hb2 hb1.size
  go_wp2_with fail
  refine (forms_bad n A len c l p m E _ (HX.out.below hB2) (.inl ⟨HE.out, HEE.out⟩)).mono ?_
  rintro e w3 ⟨rfl, hb3⟩
  have hB3 := below_call hB2 hb3 hB2.size
  go_wp2_with fail
  refine (known_any _).mono ?_
  rintro e w4 ⟨rfl, hb4⟩
  go_wp2
  go_ret
  exact ⟨rfl, below_call hB3 hb4 hB3.size⟩

set_option maxRecDepth 100000 in
set_option maxHeartbeats 3200000 in
theorem lcr_ok (n : Nat) (A : Option Addr) (len c : Nat) (l : List Gm) (p m : Int) (w : World) (hx : Reads w 3 A len (gcells l)) (hlen : len ≤ 60) (he : errS n l = 0) (hm : m ≤ 9223372036854775807) :
    Calls Try.prog 4 #[.int .i64 n, .slice A len c, .int .i64 p, .int .i64 m] w fun e w' => e = .returned (.bool true) ∧ Below w.heap.size w w' := by
  have HX := Lib.hid hx
  have HE := Lib.hid he
  have HL := Lib.hid (glen hx)
  have hl60 : decide ((60 : Int) < len) = false := decide_eq_false (by omega)
  have hn := (errS_zero he).2.2.1
  have HOK := Lib.hid (errS_zero he).2.2.2
  have HM := Lib.hid hm
  clear hx he hm
  go_enter Try.func4, Try.ntmps4
  go_wp2_with fail
  refine (cross_ok n A len c l _ HX.out HE.out).mono ?_
  rintro e w1 ⟨gO, G, rfl, hcr, hb1⟩
  go_wp2_with fail
  refine (lbad_any n A len c l _ (HX.out.below hb1)).mono ?_
  rw [HE.out]
  rintro e w2 ⟨rfl, hb2⟩
  have HB2 := Lib.hid (below_call hb1 hb2 hb1.size)
  have HCR := Lib.hid (hcr.below hb2)
  have HX2 := Lib.hid (HX.out.below HB2.out)
  clear hb1 hb2 hcr
  go_wp2
  go_loopw [12] (fun i W => ∃ a : Nat, a ≤ n ∧ i = .int .i64 a ∧ Hid (Below w2.heap.size w2 W)) (fun i _ => n - (intOf i).toNat)
  case atStart => exact ⟨0, Nat.zero_le _, rfl, Lib.hid (Below.refl _ _)⟩
  case round =>
    obtain ⟨a, ha, rfl, HBA⟩ := hrel
    by_cases han : a < n
    · have han' : (a : Int) < n := by omega
      have HBWA := Lib.hid (below_call HB2.out HBA.out HB2.out.size)
      go_wp2_with (at_make; refine make_k _ rfl (.tmp 67) (.tmp 67) 42 rfl wr.heap.size 3 (.int .i64 0) 1 8 Try.info3 Try.underlying42 rfl (by decide) .i64 .i64 _ _ n rfl rfl rfl rfl ?_ ?_ ?_ ?_; omega; omega; exact Nat.le_refl _; intro w3 ho3 hb3)
      have HO3 : Hid (XOwns w3 wr.heap.size 3 1 (some ⟨wr.heap.size, 0, none⟩) n n (ics (rowC n (l.take 0) a))) := Lib.hid (by (have h := ho3; rwa [rep_one n _ rfl, ← rowC_zero n a] at h))
      have HB3 := Lib.hid hb3
      clear ho3 hb3
      generalize hgM : wr.heap.size = gM at *
      go_loopw [14] (fun i W => ∃ k : Nat, k ≤ len ∧ i = .int .i64 k ∧ Hid (XOwns W gM 3 1 (some ⟨gM, 0, none⟩) n n (ics (rowC n (l.take k) a))) ∧ Hid (Below gM w3 W)) (fun i _ => len - (intOf i).toNat)
      case atStart => exact ⟨0, Nat.zero_le _, rfl, HO3, Lib.hid (Below.refl _ _)⟩
      case round =>
        obtain ⟨k, hk, rfl, HO, HBK⟩ := hrel
        have HBG := Lib.hid (HB3.out.trans HBK.out)
        have HBX := Lib.hid (below_call HBA.out (by rw [hgM]; exact HBG.out) HBA.out.size)
        by_cases hlt : k < len
        · have hlt' : (k : Int) < len := by omega
          obtain ⟨ad, rfl, had, c0, c1, c2⟩ := game_at (HX2.out.below HBX.out) hlt
          have hgk := HOK.out _ (List.mem_of_getElem? (gth_get (xs := l) (k := k) (by rw [HL.out]; exact hlt)))
          have HTK := Lib.hid (gtake_snoc (l := l) (k := k) (by rw [HL.out]; exact hlt))
          generalize gth l k = g at *
          obtain ⟨ga, gb, go⟩ := g
          simp only at c0 c1 c2
          obtain ⟨g1, g2, g3, g4, g5, g6, g7⟩ := hgk
          simp only at g1 g2 g3 g4 g5 g6 g7
          have HB5 := Lib.hid (HBK.out.alloc (by have := (HO.out.lt gM rfl).2; omega) (.cells #[.int .i64 ga, .int .i64 gb, .int .i64 go] 30))
          have HO5 := Lib.hid (HO.out.below (al_below (.cells #[.int .i64 ga, .int .i64 gb, .int .i64 go] 30)))
          have HG5 := Lib.hid (Blk.mk_ wr 30 #[.int .i64 ga, .int .i64 gb, .int .i64 go] _ rfl)
          have hgM5 := (HO5.out.lt gM rfl).2
          have hgMG := (HO.out.lt gM rfl).2
          have hktl : (l.take k).length ≤ 60 := by rw [List.length_take]; omega
          by_cases h1 : ga = a
          · subst h1
            obtain ⟨b, rfl⟩ : ∃ b : Nat, gb = b := ⟨gb.toNat, by omega⟩
            have hbn : b < n := by omega
            have hbn' : (b : Int) < n := by omega
            have hb0 : (0 : Int) ≤ b := by omega
            have hne : ((b : Int) == a) = false := by rw [beq_eq_false_iff_ne]; omega
            obtain ⟨v, hv⟩ : ∃ v, crT (l.take k) a b = v := ⟨_, rfl⟩
            have hvb := crT_bd (l.take k) a b
            rw [hv] at hvb
            obtain ⟨cM, cMf⟩ : (wr.alloc (.cells #[.int .i64 a, .int .i64 b, .int .i64 go] 30)).cell? ⟨gM, b, none⟩ = some (.int .i64 v) ∧ (wr.alloc (.cells #[.int .i64 a, .int .i64 b, .int .i64 go] 30)).frozen? ⟨gM, b, none⟩ = false := by
              obtain ⟨g', hg, _, _, hc, hf⟩ := HO5.out.cell (j := b) (u := .int .i64 v) (by rw [ics, List.getElem?_map, ith_get (by rw [rowC_len]; exact hbn), rowC_at hbn, hv]; rfl)
              injection hg with hg
              injection hg with hg
              subst hg
              exact ⟨hc, hf⟩
            obtain ⟨sc, hsc⟩ : ∃ s, scS ⟨a, b, go⟩ a = s := ⟨_, rfl⟩
            have hscb := scS_bd ⟨a, b, go⟩ a
            rw [hsc] at hscb
            have HV := Lib.hid hv
            have HSC := Lib.hid hsc
            clear hv hsc g1 g2 g3 g4
            go_wp2
            generalize hgG : wr.heap.size = gG at *
            generalize wr.alloc (.cells #[.int .i64 a, .int .i64 b, .int .i64 go] 30) = w5 at *
            clear c0 c1 c2
            have HRS : Hid (rowC n (l.take (k + 1)) a = (rowC n (l.take k) a).set b (v + sc)) := Lib.hid (by
              rw [HTK.out]
              exact rowC_set hbn (.inl ⟨rfl, rfl⟩) (by omega) (by rw [← HV.out, ← HSC.out]))
            have HSCC : Hid (∀ W, Calls Try.prog 16 #[.agg #[.int .i64 a, .int .i64 b, .int .i64 go], .int .i64 a] W fun e w' => e = .returned (.int .i64 sc) ∧ Below W.heap.size W w') := Lib.hid fun W => by
              have h := score_any ⟨a, b, go⟩ a W
              rw [HSC.out] at h
              exact h
            have y0 : ∀ s : Later w5.heap.size w5, s.W.cell? ⟨gG, 0, none⟩ = some (.int .i64 a) := fun s => ((HG5.out.below s.h HG5.out.lt).at_ 0).trans rfl
            have y1 : ∀ s : Later w5.heap.size w5, s.W.cell? ⟨gG, 1, none⟩ = some (.int .i64 b) := fun s => ((HG5.out.below s.h HG5.out.lt).at_ 1).trans rfl
            have y2 : ∀ s : Later w5.heap.size w5, s.W.cell? ⟨gG, 2, none⟩ = some (.int .i64 go) := fun s => ((HG5.out.below s.h HG5.out.lt).at_ 2).trans rfl
            have y3 : ∀ s : Later w5.heap.size w5, s.W.cell? ⟨gM, b, none⟩ = some (.int .i64 v) := fun s => (s.h.cell (p := ⟨gM, b, none⟩) hgM5).trans cM
            have hg50 : w5.cell? ⟨gG, 0, none⟩ = some (.int .i64 a) := (HG5.out.at_ 0).trans rfl
            have hg51 : w5.cell? ⟨gG, 1, none⟩ = some (.int .i64 b) := (HG5.out.at_ 1).trans rfl
            go_wp2
            refine wp_region_late (Ph (fun w' => ∃ s : Later w5.heap.size w5, w' = s.W) (fun _ => True)) [13] [0,1,2,3,4,5,6,7,8,9] (.one 10 [11,12] (.one 13 [] .done)) (by kernel_rfl) (by kernel_rfl) (fun d _ _ _ _ h => by cases d <;> exact h) ⟨⟨_, (Below.refl _ _).drew⟩, rfl⟩ ?_
            refine quiet_as (C' := (fun w' => ∃ s : Later w5.heap.size w5, w' = s.W)) rfl ?_
            simp only [opsAt, List.getElem?_toArray, List.getElem?_cons_succ, List.getElem?_cons_zero]
            repeat (go_big_quiet_step (fail))
            refine wpQuiet_nil ?_
            refine eff_as (C' := (fun w' => ∃ s : Later w5.heap.size w5, w' = s.W)) rfl ?_
            (refine eff_lit rfl rfl (fun K hK => ?_))
            go_big_op
            refine (HSCC.out _).mono ?_
            rintro e w8 ⟨rfl, hb8⟩
            have hb8' : Below w5.heap.size w5 w8 := (Below.refl _ _).drew.trans hb8
            refine hK _ _ ⟨⟨_, hb8'⟩, rfl⟩ ?_
            clear hK K y0 y1 y2 y3
            have HB8 := Lib.hid (below_call HB5.out hb8' (Nat.le_of_lt hgM5))
            have HO8 := Lib.hid (HO5.out.below hb8')
            have HG8 := Lib.hid (HG5.out.call hb8')
            have cM8 : w8.cell? ⟨gM, b, none⟩ = some (.int .i64 v) := (hb8'.cell (p := ⟨gM, b, none⟩) hgM5).trans cM
            have cM8f : w8.frozen? ⟨gM, b, none⟩ = false := (hb8'.frozen (p := ⟨gM, b, none⟩) hgM5).trans cMf
            have hgM8 : gM < w8.heap.size := Nat.lt_of_lt_of_le hgM5 hb8'.size
            clear hb8 hb8' cM cMf hg50 hg51
            simp only [opsAt, List.getElem?_toArray, List.getElem?_cons_succ, List.getElem?_cons_zero]
            repeat (go_big_quiet_step (fail))
            refine wpQuiet_nil ?_
            refine eff_as (C' := fun _ => True) rfl ?_
            (refine eff_lit rfl rfl (fun K hK => ?_))
            go_big_op
            refine hK _ _ trivial ?_
            clear hK K
            simp only [opsAt, List.getElem?_toArray, List.getElem?_cons_succ, List.getElem?_cons_zero]
            refine wpQuiet_nil ?_
            refine effs_done ?_
            have hgGf : gM ≠ gG := Nat.ne_of_lt hgMG
            have k0 : (w8.setCell ⟨gM, b, none⟩ (.int .i64 (v + sc))).cell? ⟨gG, 0, none⟩ = some (.int .i64 a) := ((HG8.out.far (p := ⟨gM, b, none⟩) (Ne.symm hgGf) (.int .i64 (v + sc))).at_ 0).trans rfl
            have k1 : (w8.setCell ⟨gM, b, none⟩ (.int .i64 (v + sc))).cell? ⟨gG, 1, none⟩ = some (.int .i64 b) := ((HG8.out.far (p := ⟨gM, b, none⟩) (Ne.symm hgGf) (.int .i64 (v + sc))).at_ 1).trans rfl
            have HO9 := Lib.hid (HO8.out.setX b (.int .i64 (v + sc)))
            have HB9 := Lib.hid (HB8.out.setCell (p := ⟨gM, b, none⟩) (Nat.le_refl gM) (.int .i64 (v + sc)))
            have hgG8 := HG8.out.lt
            have hsz9 : (w8.setCell ⟨gM, b, none⟩ (.int .i64 (v + sc))).heap.size = w8.heap.size := by simp [World.setCell]
            clear cM8 cM8f
            generalize w8.setCell ⟨gM, b, none⟩ (.int .i64 (v + sc)) = w9 at *
            go_wp2
            go_roundw
            case rel => exact ⟨k + 1, hlt, by go_num, Lib.hid (by
              have h := HO9.out
              rw [HRS.out]
              rw [show (ics (rowC n (l.take k) a)).set b (.int .i64 (v + sc)) = ics ((rowC n (l.take k) a).set b (v + sc)) by simp [ics]] at h
              exact h), HB9⟩
            case measure => simp [intOf]; omega
          · by_cases h2 : gb = a
            · subst h2
              obtain ⟨b, rfl⟩ : ∃ b : Nat, ga = b := ⟨ga.toNat, by omega⟩
              have hbn : b < n := by omega
              have hbn' : (b : Int) < n := by omega
              have hb0 : (0 : Int) ≤ b := by omega
              have hne : ((b : Int) == a) = false := by rw [beq_eq_false_iff_ne]; exact h1
              obtain ⟨v, hv⟩ : ∃ v, crT (l.take k) a b = v := ⟨_, rfl⟩
              have hvb := crT_bd (l.take k) a b
              rw [hv] at hvb
              obtain ⟨cM, cMf⟩ : (wr.alloc (.cells #[.int .i64 b, .int .i64 a, .int .i64 go] 30)).cell? ⟨gM, b, none⟩ = some (.int .i64 v) ∧ (wr.alloc (.cells #[.int .i64 b, .int .i64 a, .int .i64 go] 30)).frozen? ⟨gM, b, none⟩ = false := by
                obtain ⟨g', hg, _, _, hc, hf⟩ := HO5.out.cell (j := b) (u := .int .i64 v) (by rw [ics, List.getElem?_map, ith_get (by rw [rowC_len]; exact hbn), rowC_at hbn, hv]; rfl)
                injection hg with hg
                injection hg with hg
                subst hg
                exact ⟨hc, hf⟩
              obtain ⟨sc, hsc⟩ : ∃ s, scS ⟨b, a, go⟩ a = s := ⟨_, rfl⟩
              have hscb := scS_bd ⟨b, a, go⟩ a
              rw [hsc] at hscb
              have HV := Lib.hid hv
              have HSC := Lib.hid hsc
              have h1' : b ≠ a := by omega
              clear hv hsc g1 g2 g3 g4 g5 h1
              go_wp2
              generalize hgG : wr.heap.size = gG at *
              generalize wr.alloc (.cells #[.int .i64 b, .int .i64 a, .int .i64 go] 30) = w5 at *
              clear c0 c1 c2
              have HRS : Hid (rowC n (l.take (k + 1)) a = (rowC n (l.take k) a).set b (v + sc)) := Lib.hid (by
                rw [HTK.out]
                exact rowC_set hbn (.inr ⟨rfl, rfl⟩) (by omega) (by rw [← HV.out, ← HSC.out]))
              have HSCC : Hid (∀ W, Calls Try.prog 16 #[.agg #[.int .i64 b, .int .i64 a, .int .i64 go], .int .i64 a] W fun e w' => e = .returned (.int .i64 sc) ∧ Below W.heap.size W w') := Lib.hid fun W => by
                have h := score_any ⟨b, a, go⟩ a W
                rw [HSC.out] at h
                exact h
              have y0 : ∀ s : Later w5.heap.size w5, s.W.cell? ⟨gG, 0, none⟩ = some (.int .i64 b) := fun s => ((HG5.out.below s.h HG5.out.lt).at_ 0).trans rfl
              have y1 : ∀ s : Later w5.heap.size w5, s.W.cell? ⟨gG, 1, none⟩ = some (.int .i64 a) := fun s => ((HG5.out.below s.h HG5.out.lt).at_ 1).trans rfl
              have y2 : ∀ s : Later w5.heap.size w5, s.W.cell? ⟨gG, 2, none⟩ = some (.int .i64 go) := fun s => ((HG5.out.below s.h HG5.out.lt).at_ 2).trans rfl
              have y3 : ∀ s : Later w5.heap.size w5, s.W.cell? ⟨gM, b, none⟩ = some (.int .i64 v) := fun s => (s.h.cell (p := ⟨gM, b, none⟩) hgM5).trans cM
              have hg50 : w5.cell? ⟨gG, 0, none⟩ = some (.int .i64 b) := (HG5.out.at_ 0).trans rfl
              have hg51 : w5.cell? ⟨gG, 1, none⟩ = some (.int .i64 a) := (HG5.out.at_ 1).trans rfl
              go_wp2
              refine wp_region_late (Ph (fun w' => ∃ s : Later w5.heap.size w5, w' = s.W) (fun _ => True)) [13] [0,1,2,3,4,5,6,7,8,9] (.one 10 [11,12] (.one 13 [] .done)) (by kernel_rfl) (by kernel_rfl) (fun d _ _ _ _ h => by cases d <;> exact h) ⟨⟨_, (Below.refl _ _).drew⟩, rfl⟩ ?_
              refine quiet_as (C' := (fun w' => ∃ s : Later w5.heap.size w5, w' = s.W)) rfl ?_
              simp only [opsAt, List.getElem?_toArray, List.getElem?_cons_succ, List.getElem?_cons_zero]
              repeat (go_big_quiet_step (fail))
              refine wpQuiet_nil ?_
              refine eff_as (C' := (fun w' => ∃ s : Later w5.heap.size w5, w' = s.W)) rfl ?_
              (refine eff_lit rfl rfl (fun K hK => ?_))
              go_big_op
              refine (HSCC.out _).mono ?_
              rintro e w8 ⟨rfl, hb8⟩
              have hb8' : Below w5.heap.size w5 w8 := (Below.refl _ _).drew.trans hb8
              refine hK _ _ ⟨⟨_, hb8'⟩, rfl⟩ ?_
              clear hK K y0 y1 y2 y3
              have HB8 := Lib.hid (below_call HB5.out hb8' (Nat.le_of_lt hgM5))
              have HO8 := Lib.hid (HO5.out.below hb8')
              have HG8 := Lib.hid (HG5.out.call hb8')
              have cM8 : w8.cell? ⟨gM, b, none⟩ = some (.int .i64 v) := (hb8'.cell (p := ⟨gM, b, none⟩) hgM5).trans cM
              have cM8f : w8.frozen? ⟨gM, b, none⟩ = false := (hb8'.frozen (p := ⟨gM, b, none⟩) hgM5).trans cMf
              have hgM8 : gM < w8.heap.size := Nat.lt_of_lt_of_le hgM5 hb8'.size
              clear hb8 hb8' cM cMf hg50 hg51
              simp only [opsAt, List.getElem?_toArray, List.getElem?_cons_succ, List.getElem?_cons_zero]
              repeat (go_big_quiet_step (fail))
              refine wpQuiet_nil ?_
              refine eff_as (C' := fun _ => True) rfl ?_
              (refine eff_lit rfl rfl (fun K hK => ?_))
              go_big_op
              refine hK _ _ trivial ?_
              clear hK K
              simp only [opsAt, List.getElem?_toArray, List.getElem?_cons_succ, List.getElem?_cons_zero]
              refine wpQuiet_nil ?_
              refine effs_done ?_
              have hgGf : gM ≠ gG := Nat.ne_of_lt hgMG
              have k0 : (w8.setCell ⟨gM, b, none⟩ (.int .i64 (v + sc))).cell? ⟨gG, 0, none⟩ = some (.int .i64 b) := ((HG8.out.far (p := ⟨gM, b, none⟩) (Ne.symm hgGf) (.int .i64 (v + sc))).at_ 0).trans rfl
              have k1 : (w8.setCell ⟨gM, b, none⟩ (.int .i64 (v + sc))).cell? ⟨gG, 1, none⟩ = some (.int .i64 a) := ((HG8.out.far (p := ⟨gM, b, none⟩) (Ne.symm hgGf) (.int .i64 (v + sc))).at_ 1).trans rfl
              have HO9 := Lib.hid (HO8.out.setX b (.int .i64 (v + sc)))
              have HB9 := Lib.hid (HB8.out.setCell (p := ⟨gM, b, none⟩) (Nat.le_refl gM) (.int .i64 (v + sc)))
              have hgG8 := HG8.out.lt
              have hsz9 : (w8.setCell ⟨gM, b, none⟩ (.int .i64 (v + sc))).heap.size = w8.heap.size := by simp [World.setCell]
              clear cM8 cM8f
              generalize w8.setCell ⟨gM, b, none⟩ (.int .i64 (v + sc)) = w9 at *
              go_wp2
              go_roundw
              case rel => exact ⟨k + 1, hlt, by go_num, Lib.hid (by
                have h := HO9.out
                rw [HRS.out]
                rw [show (ics (rowC n (l.take k) a)).set b (.int .i64 (v + sc)) = ics ((rowC n (l.take k) a).set b (v + sc)) by simp [ics]] at h
                exact h), HB9⟩
              case measure => simp [intOf]; omega
            · have e1 : (ga == (a : Int)) = false := by rw [beq_eq_false_iff_ne]; exact h1
              have e2 : (gb == (a : Int)) = false := by rw [beq_eq_false_iff_ne]; exact h2
              have HRS : Hid (rowC n (l.take (k + 1)) a = rowC n (l.take k) a) := Lib.hid (by rw [HTK.out]; exact rowC_no (fun e => h1 e.symm) (fun e => h2 e.symm))
              clear h1 h2
              go_wp2
              go_roundw
              case rel => exact ⟨k + 1, hlt, by go_num, by rw [HRS.out]; exact HO5, HB5⟩
              case measure => simp [intOf]; omega
        · obtain rfl : k = len := by omega
          have HRL : Hid (rowC n (l.take k) a = rowC n l a) := Lib.hid (by rw [List.take_of_length_le (by rw [HL.out]; exact Nat.le_refl _)])
          have HC4 := Lib.hid (HCR.out.below HBX.out)
          have c0 := HC4.out.ocell (i := a) han (Nat.le_refl _)
          have HI4 := Lib.hid (HC4.out.I a han)
          have hgO4 := (HC4.out.O.lt gO rfl).2
          go_wp2_with fail
          refine (ints_same (rowC n l a) _ HI4.out.reads (by rw [← HRL.out]; exact HO.out.reads) (by omega)).mono ?_
          rintro e w7 ⟨rfl, hb7⟩
          go_wp2
          go_roundw
          case rel => exact ⟨a + 1, han, by go_num, Lib.hid (below_call HBX.out hb7 HBX.out.size)⟩
          case measure => simp [intOf]; omega
    · obtain rfl : a = n := by omega
      have HBW := Lib.hid (below_call HB2.out HBA.out HB2.out.size)
      have HXW := Lib.hid (HX.out.below HBW.out)
      by_cases hbad : p < 0 ∨ (a : Int) ≤ p ∨ m < 0
      · have hcs : (p < 0) ∨ (decide (p < 0) = false ∧ (a : Int) ≤ p) ∨ (decide (p < 0) = false ∧ decide ((a : Int) ≤ p) = false ∧ m < 0) := by
          simp only [decide_eq_false_iff_not]
          omega
        have HBAD := Lib.hid hbad
        clear hbad
        rcases hcs with q1 | ⟨q1, q2⟩ | ⟨q1, q2, q3⟩
        all_goals
          go_wp2_with fail
          refine (forms_bad a A len c l p m 2 _ HXW.out (.inr ⟨HE.out, HBAD.out, rfl⟩)).mono ?_
          rintro e w7 ⟨rfl, hb7⟩
          have hB7 := below_call HBW.out hb7 HBW.out.size
          go_wp2_with fail
          refine (known_any _).mono ?_
          rintro e w8 ⟨rfl, hb8⟩
          go_wp2
          go_ret
          exact ⟨rfl, below_call hB7 hb8 hB7.size⟩
      · have q1 : decide (p < 0) = false := decide_eq_false (by omega)
        have q2 : decide ((a : Int) ≤ p) = false := decide_eq_false (by omega)
        have q3 : decide (m < 0) = false := decide_eq_false (by omega)
        have HPM : Hid (0 ≤ p ∧ p < (a : Int) ∧ 0 ≤ m) := Lib.hid (by omega)
        clear hbad
        generalize hW : wr = wA at *
        go_wp2
        go_loopw [16, 17] (fun o i W => ∃ (q : Nat) (z : Int) (AW : Option Addr) (kk cW : Nat), q ≤ len ∧ z = (q : Int) - 1 ∧ i = .int .i64 z ∧ o = .slice AW kk cW ∧ (kk : Int) ≤ m ∧ kk + q ≤ len ∧ Hid (kk = (frmS (l.drop q) p).length) ∧ Hid (XOwns W w.heap.size 28 1 AW kk cW (ics (frmS (l.drop q) p))) ∧ Hid (Below wA.heap.size wA W)) (fun _ i _ => ((intOf i) + 1).toNat)
        case atStart => exact ⟨len, _, none, 0, 0, Nat.le_refl _, rfl, rfl, rfl, HPM.out.2.2, by omega, Lib.hid (by rw [List.drop_eq_nil_of_le (by rw [HL.out]; exact Nat.le_refl _)]; rfl), Lib.hid (by rw [List.drop_eq_nil_of_le (by rw [HL.out]; exact Nat.le_refl _)]; exact XOwns.nil_ _ _ _ _), Lib.hid (Below.refl _ _)⟩
        case round =>
          obtain ⟨q, z, AW, kk, cW, hq, hz, rfl, rfl, hkm, hk60, HKK, HOO, HBQ⟩ := hrel
          have HBWQ := Lib.hid (below_call HBW.out HBQ.out HBW.out.size)
          by_cases hq0 : q = 0
          · have HLS := Lib.hid (last_at (l := l) (p := p) (m := m) hkm (.inl hq0) HKK.out)
            obtain rfl : z = -1 := by omega
            clear hq0 hz
            go_wp2_with fail
            refine (forms_at (n := a) (HX.out.below HBWQ.out) HE.out ⟨HPM.out.1, HPM.out.2.1⟩ ⟨HPM.out.2.2, HM.out⟩ HLS.out HKK.out HOO.out.reads).mono ?_
            rintro e w7 ⟨rfl, hb7⟩
            have hB7 := below_call HBWQ.out hb7 HBWQ.out.size
            go_wp2_with fail
            refine (known_any _).mono ?_
            rintro e w8 ⟨rfl, hb8⟩
            go_wp2
            go_ret
            exact ⟨rfl, below_call hB7 hb8 hB7.size⟩
          · obtain ⟨j, rfl⟩ : ∃ j, q = j + 1 := ⟨q - 1, by omega⟩
            obtain rfl : z = (j : Int) := by omega
            have hj0 : (0 : Int) ≤ j := by omega
            clear hz hq0
            by_cases hkk : (kk : Int) < m
            · have hjl : j < len := by omega
              have hjl' : (j : Int) < len := by omega
              obtain ⟨ad, rfl, had, c0, c1, c2⟩ := game_at (HX.out.below HBWQ.out) hjl
              have hgk := HOK.out _ (List.mem_of_getElem? (gth_get (xs := l) (k := j) (by rw [HL.out]; exact hjl)))
              have HDG := Lib.hid (drop_game (l := l) (j := j) (by rw [HL.out]; exact hjl))
              generalize gth l j = g at *
              have HF2 : Hid (frmS (l.drop j) p = outS g p ++ frmS (l.drop (j + 1)) p) := Lib.hid (by rw [HDG.out]; rfl)
              obtain ⟨ga, gb, go⟩ := g
              simp only at c0 c1 c2
              have HGO : Hid (1 ≤ (⟨ga, gb, go⟩ : Gm).o ∧ (⟨ga, gb, go⟩ : Gm).o ≤ 3 ∧ (⟨ga, gb, go⟩ : Gm).a ≠ (⟨ga, gb, go⟩ : Gm).b) := Lib.hid ⟨hgk.2.2.2.2.2.1, hgk.2.2.2.2.2.2, hgk.2.2.2.2.1⟩
              clear hgk HDG
              have HB5 := Lib.hid (HBQ.out.alloc HBQ.out.size (.cells #[.int .i64 ga, .int .i64 gb, .int .i64 go] 30))
              have HO5 := Lib.hid (HOO.out.below (al_below (.cells #[.int .i64 ga, .int .i64 gb, .int .i64 go] 30)))
              by_cases hinv : Inv ⟨ga, gb, go⟩ p
              · have hcs : (ga == p) = true ∨ ((ga == p) = false ∧ (gb == p) = true) := by
                  rcases hinv with h | h
                  · exact .inl (by rw [beq_iff_eq]; exact h)
                  · by_cases h2 : ga = p
                    · exact .inl (by rw [beq_iff_eq]; exact h2)
                    · exact .inr ⟨by rw [beq_eq_false_iff_ne]; exact h2, by rw [beq_iff_eq]; exact h⟩
                have HINV := Lib.hid hinv
                have hsv := scS_val ⟨ga, gb, go⟩ p
                obtain ⟨sc, hsc⟩ : ∃ s, scS ⟨ga, gb, go⟩ p = s := ⟨_, rfl⟩
                have HSCC : Hid (∀ W, Calls Try.prog 16 #[.agg #[.int .i64 ga, .int .i64 gb, .int .i64 go], .int .i64 p] W fun e w' => e = .returned (.int .i64 sc) ∧ Below W.heap.size W w') := Lib.hid fun W => by
                  have h := score_any ⟨ga, gb, go⟩ p W
                  rw [hsc] at h
                  exact h
                have HSCS := Lib.hid hsc
                rw [hsc] at hsv
                obtain ⟨w5, hw5⟩ : ∃ w5, wr.alloc (.cells #[.int .i64 ga, .int .i64 gb, .int .i64 go] 30) = w5 := ⟨_, rfl⟩
                have HG5 : Hid (Blk w5 wr.heap.size 30 #[.int .i64 ga, .int .i64 gb, .int .i64 go]) := Lib.hid (by rw [← hw5]; exact Blk.mk_ wr 30 _ _ rfl)
                rw [hw5] at HB5 HO5
                have HLT := Lib.hid (Blk.mk_ w5 28 #[.int .i64 2, .int .i64 3, .int .i64 0, .int .i64 1] _ rfl)
                have y0 : w5.cell? ⟨wr.heap.size, 0, none⟩ = some (.int .i64 ga) := (HG5.out.at_ 0).trans rfl
                have y1 : w5.cell? ⟨wr.heap.size, 1, none⟩ = some (.int .i64 gb) := (HG5.out.at_ 1).trans rfl
                have y2 : w5.cell? ⟨wr.heap.size, 2, none⟩ = some (.int .i64 go) := (HG5.out.at_ 2).trans rfl
                have hg5 := HG5.out.lt
                clear hinv hsc
                rcases hcs with e1 | ⟨e1, e2⟩
                all_goals
                  rcases hsv with rfl | rfl | rfl
                  · have HOU : Hid (outS ⟨ga, gb, go⟩ p = [1]) := Lib.hid (by
                      have h := out_sc HGO.out HINV.out
                      rw [HSCS.out] at h
                      exact h)
                    go_wp2_with fail
                    refine (HSCC.out _).mono ?_
                    rintro e w8 ⟨rfl, hb8⟩
                    have hB8 : Below w5.heap.size w5 w8 := below_call (al_below _) hb8 (al_below _).size
                    have HL8 := Lib.hid (HLT.out.call hb8)
                    have l8 : w8.cell? ⟨w5.heap.size, 3, none⟩ = some (.int .i64 1) := (HL8.out.at_ 3).trans rfl
                    have HB8 := Lib.hid (HB5.out.trans (hB8.mono (by have := HB5.out.size; omega)))
                    have hal := al_below (w := w8) (.cells #[.int .i64 1] 28)
                    have HLT8 : Hid (XOwns (w8.alloc (.cells #[.int .i64 1] 28)) w8.heap.size 28 1 (some ⟨w8.heap.size, 0, none⟩) 1 1 (ics [1])) := Lib.hid (XOwns.lit w8 w8.heap.size 28 1 #[.int .i64 1] 1 (Nat.le_refl _) (by decide) rfl)
                    have HO8 := Lib.hid ((HO5.out.below hB8).below hal)
                    have HBB8 := Lib.hid (HB8.out.alloc HB8.out.size (.cells #[.int .i64 1] 28))
                    clear hal
                    go_wp2_with (at_builtin; refine append_xr (w := w8.alloc (.cells #[.int .i64 1] 28)) ?_ (.tmp 173) (.tmp 174) 45 ?_ w8.heap.size 28 (.int .i64 0) 1 8 Try.info28 Try.underlying45 rfl (by decide) (some ⟨w8.heap.size, 0, none⟩) 1 1 (ics [1]) ?_ HLT8.out AW kk cW (ics (frmS (l.drop (j + 1)) p)) ?_ HO8.out.2 HO8.out.reads (ics_one _) ?_ ?_ ?_ ?_; rfl; rfl; rfl; rfl; omega; omega; (simp); intro A9 c9 w9 ho9 hb9)
                    go_roundw
                    case rel => exact ⟨j, _, A9, kk + 1, c9, by omega, rfl, by go_num, by first | rfl | (rw [Nat.add_comm]), by omega, by omega, Lib.hid (by rw [HF2.out, List.length_append, ← HKK.out, HOU.out]; simp; omega), Lib.hid (by
                      have h := own_lower (b' := w.heap.size) ho9 (by have := HBQ.out.size; have := HB8.out.size; have := HBW.out.size; omega)
                      rw [HF2.out, HOU.out, show ics ([1] ++ frmS (l.drop (j + 1)) p) = ics [1] ++ ics (frmS (l.drop (j + 1)) p) by simp [ics], show kk + 1 = 1 + kk by omega]
                      exact h), Lib.hid (HBB8.out.trans (hb9.mono (by have := HB8.out.size; omega)))⟩
                    case measure => simp [intOf] <;> omega
                  · have HOU : Hid (outS ⟨ga, gb, go⟩ p = [3]) := Lib.hid (by
                      have h := out_sc HGO.out HINV.out
                      rw [HSCS.out] at h
                      exact h)
                    go_wp2_with fail
                    refine (HSCC.out _).mono ?_
                    rintro e w8 ⟨rfl, hb8⟩
                    have hB8 : Below w5.heap.size w5 w8 := below_call (al_below _) hb8 (al_below _).size
                    have HL8 := Lib.hid (HLT.out.call hb8)
                    have l8 : w8.cell? ⟨w5.heap.size, 1, none⟩ = some (.int .i64 3) := (HL8.out.at_ 1).trans rfl
                    have HB8 := Lib.hid (HB5.out.trans (hB8.mono (by have := HB5.out.size; omega)))
                    have hal := al_below (w := w8) (.cells #[.int .i64 3] 28)
                    have HLT8 : Hid (XOwns (w8.alloc (.cells #[.int .i64 3] 28)) w8.heap.size 28 1 (some ⟨w8.heap.size, 0, none⟩) 1 1 (ics [3])) := Lib.hid (XOwns.lit w8 w8.heap.size 28 1 #[.int .i64 3] 1 (Nat.le_refl _) (by decide) rfl)
                    have HO8 := Lib.hid ((HO5.out.below hB8).below hal)
                    have HBB8 := Lib.hid (HB8.out.alloc HB8.out.size (.cells #[.int .i64 3] 28))
                    clear hal
                    go_wp2_with (at_builtin; refine append_xr (w := w8.alloc (.cells #[.int .i64 3] 28)) ?_ (.tmp 173) (.tmp 174) 45 ?_ w8.heap.size 28 (.int .i64 0) 1 8 Try.info28 Try.underlying45 rfl (by decide) (some ⟨w8.heap.size, 0, none⟩) 1 1 (ics [3]) ?_ HLT8.out AW kk cW (ics (frmS (l.drop (j + 1)) p)) ?_ HO8.out.2 HO8.out.reads (ics_one _) ?_ ?_ ?_ ?_; rfl; rfl; rfl; rfl; omega; omega; (simp); intro A9 c9 w9 ho9 hb9)
                    go_roundw
                    case rel => exact ⟨j, _, A9, kk + 1, c9, by omega, rfl, by go_num, by first | rfl | (rw [Nat.add_comm]), by omega, by omega, Lib.hid (by rw [HF2.out, List.length_append, ← HKK.out, HOU.out]; simp; omega), Lib.hid (by
                      have h := own_lower (b' := w.heap.size) ho9 (by have := HBQ.out.size; have := HB8.out.size; have := HBW.out.size; omega)
                      rw [HF2.out, HOU.out, show ics ([3] ++ frmS (l.drop (j + 1)) p) = ics [3] ++ ics (frmS (l.drop (j + 1)) p) by simp [ics], show kk + 1 = 1 + kk by omega]
                      exact h), Lib.hid (HBB8.out.trans (hb9.mono (by have := HB8.out.size; omega)))⟩
                    case measure => simp [intOf] <;> omega
                  · have HOU : Hid (outS ⟨ga, gb, go⟩ p = [2]) := Lib.hid (by
                      have h := out_sc HGO.out HINV.out
                      rw [HSCS.out] at h
                      exact h)
                    go_wp2_with fail
                    refine (HSCC.out _).mono ?_
                    rintro e w8 ⟨rfl, hb8⟩
                    have hB8 : Below w5.heap.size w5 w8 := below_call (al_below _) hb8 (al_below _).size
                    have HL8 := Lib.hid (HLT.out.call hb8)
                    have l8 : w8.cell? ⟨w5.heap.size, 0, none⟩ = some (.int .i64 2) := (HL8.out.at_ 0).trans rfl
                    have HB8 := Lib.hid (HB5.out.trans (hB8.mono (by have := HB5.out.size; omega)))
                    have hal := al_below (w := w8) (.cells #[.int .i64 2] 28)
                    have HLT8 : Hid (XOwns (w8.alloc (.cells #[.int .i64 2] 28)) w8.heap.size 28 1 (some ⟨w8.heap.size, 0, none⟩) 1 1 (ics [2])) := Lib.hid (XOwns.lit w8 w8.heap.size 28 1 #[.int .i64 2] 1 (Nat.le_refl _) (by decide) rfl)
                    have HO8 := Lib.hid ((HO5.out.below hB8).below hal)
                    have HBB8 := Lib.hid (HB8.out.alloc HB8.out.size (.cells #[.int .i64 2] 28))
                    clear hal
                    go_wp2_with (at_builtin; refine append_xr (w := w8.alloc (.cells #[.int .i64 2] 28)) ?_ (.tmp 173) (.tmp 174) 45 ?_ w8.heap.size 28 (.int .i64 0) 1 8 Try.info28 Try.underlying45 rfl (by decide) (some ⟨w8.heap.size, 0, none⟩) 1 1 (ics [2]) ?_ HLT8.out AW kk cW (ics (frmS (l.drop (j + 1)) p)) ?_ HO8.out.2 HO8.out.reads (ics_one _) ?_ ?_ ?_ ?_; rfl; rfl; rfl; rfl; omega; omega; (simp); intro A9 c9 w9 ho9 hb9)
                    go_roundw
                    case rel => exact ⟨j, _, A9, kk + 1, c9, by omega, rfl, by go_num, by first | rfl | (rw [Nat.add_comm]), by omega, by omega, Lib.hid (by rw [HF2.out, List.length_append, ← HKK.out, HOU.out]; simp; omega), Lib.hid (by
                      have h := own_lower (b' := w.heap.size) ho9 (by have := HBQ.out.size; have := HB8.out.size; have := HBW.out.size; omega)
                      rw [HF2.out, HOU.out, show ics ([2] ++ frmS (l.drop (j + 1)) p) = ics [2] ++ ics (frmS (l.drop (j + 1)) p) by simp [ics], show kk + 1 = 1 + kk by omega]
                      exact h), Lib.hid (HBB8.out.trans (hb9.mono (by have := HB8.out.size; omega)))⟩
                    case measure => simp [intOf] <;> omega
              · have e1 : (ga == p) = false := by rw [beq_eq_false_iff_ne]; exact fun e => hinv (.inl e)
                have e2 : (gb == p) = false := by rw [beq_eq_false_iff_ne]; exact fun e => hinv (.inr e)
                have HRS : Hid (frmS (l.drop j) p = frmS (l.drop (j + 1)) p) := Lib.hid (by
                  rw [HF2.out]
                  unfold outS
                  rw [if_neg (fun e => hinv (.inl e)), if_neg (fun e => hinv (.inr e))]
                  rfl)
                clear hinv
                go_wp2
                go_roundw
                case rel => exact ⟨j, _, AW, kk, cW, by omega, rfl, by go_num, rfl, hkm, by omega, Lib.hid (by rw [HRS.out]; exact HKK.out), by rw [HRS.out]; exact HO5, HB5⟩
                case measure => simp [intOf] <;> omega
            · have hkk' : decide ((kk : Int) < m) = false := decide_eq_false hkk
              have HLS := Lib.hid (last_at (l := l) (p := p) (m := m) hkm (.inr (by omega)) HKK.out)
              clear hkk
              go_wp2_with fail
              refine (forms_at (n := a) (HX.out.below HBWQ.out) HE.out ⟨HPM.out.1, HPM.out.2.1⟩ ⟨HPM.out.2.2, HM.out⟩ HLS.out HKK.out HOO.out.reads).mono ?_
              rintro e w7 ⟨rfl, hb7⟩
              have hB7 := below_call HBWQ.out hb7 HBWQ.out.size
              go_wp2_with fail
              refine (known_any _).mono ?_
              rintro e w8 ⟨rfl, hb8⟩
              go_wp2
              go_ret
              exact ⟨rfl, below_call hB7 hb8 hB7.size⟩
end Go.Proofs.Ytekbjlihpmjlfaa
