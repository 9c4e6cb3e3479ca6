/-
  Table.
-/
import Derived.Test.YtekbjlihpmjlfaaRws
import Derived.Test.YtekbjlihpmjlfaaChk
set_option linter.unusedSimpArgs false
set_option linter.unusedVariables false
namespace Go.Proofs.Ytekbjlihpmjlfaa
open Go.RowKit

theorem errS_zero {n : Int} {l : List Gm} (h : errS n l = 0) : l.length ≤ 2000 ∧ 2 ≤ n ∧ n ≤ 40 ∧ ∀ g ∈ l, GOk n g := by
  unfold errS at h
  split at h
  · omega
  · split at h
    · omega
    · split at h
      · rename_i h1 h2 h3
        refine ⟨by omega, by omega, by omega, fun g hg => ?_⟩
        rw [List.all_eq_true] at h3
        simpa using h3 g hg
      · omega
theorem errS_bd (n : Int) (l : List Gm) : 0 ≤ errS n l ∧ errS n l ≤ 5 := by unfold errS; split <;> (try split) <;> (try split) <;> omega
set_option maxHeartbeats 800000 in
theorem table_bad (n : Int) (A : Option Addr) (len c : Nat) (l : List Gm) (w : World) (hx : Reads w 3 A len (gcells l)) (he : errS n l ≠ 0) :
    Calls Try.prog 9 #[.int .i64 n, .slice A len c] w fun e w' => e = .returned (.tuple #[.slice none 0 0, .int .i64 (errS n l)]) ∧ Below w.heap.size w w' := by
  have HX := Lib.hid hx
  have h1 : (errS n l == 0) = false := by rw [beq_eq_false_iff_ne]; exact he
  have h2 : (errS n l != 0) = true := by simp [bne, h1]
  clear hx he
  go_enter Try.func9, Try.ntmps9
  go_wp2_with (go_at_call 22; refine (check_any n A len c l _ HX.out).mono ?_; rintro e w1 ⟨rfl, hb1⟩)
  go_ret2
  exact ⟨rfl, hb1⟩

set_option maxRecDepth 100000 in
set_option maxHeartbeats 3200000 in
theorem table_ok (n : Nat) (A : Option Addr) (len c : Nat) (l : List Gm) (w : World) (hx : Reads w 3 A len (gcells l)) (he : errS n l = 0) :
    Calls Try.prog 9 #[.int .i64 n, .slice A len c] w fun e w' => ∃ g, e = .returned (.tuple #[.slice (some ⟨g, 0, none⟩) n n, .int .i64 0]) ∧ XOwns w' w.heap.size 33 6 (some ⟨g, 0, none⟩) n n (rcells (tabS n l)) ∧ Below w.heap.size w w' := by
  have HX := Lib.hid hx
  have HL := Lib.hid (glen hx)
  obtain ⟨hlen, hn1, hn2, hok⟩ := errS_zero he
  rw [glen hx] at hlen
  have HOK := Lib.hid hok
  have HE := Lib.hid he
  have HN : Hid (2 ≤ n ∧ n ≤ 40) := Lib.hid (by omega)
  clear hx hok he
  go_enter Try.func9, Try.ntmps9
  go_wp2_with (first
    | (go_at_call 22; refine (check_any n A len c l _ HX.out).mono ?_; rw [HE.out]; rintro e w1 ⟨rfl, hb1⟩; have hz1 := hb1.size)
    | (go_at_call 23; refine (rows_any n A len c l _ (HX.out.below hb1) HN.out hlen HOK.out).mono ?_; rintro e w2 ⟨gO, rfl, ho2, hb2⟩; have HB2 := Lib.hid (below_call hb1 hb2 hz1); have HO2 := Lib.hid (own_lower ho2 hz1); have hgO := (ho2.lt gO rfl).1; clear ho2)
    | fail)
  have HI : Hid (∀ p, p < n → rth (rows0 n l) p = rowA l (l.take 0) p) := Lib.hid (fun p hp => by unfold rows0; rw [rth_map hp]; rfl)
  have hgw : w.heap.size ≤ gO := by omega
  clear hb2 hb1 hz1 hgO
  go_loopw [25] (fun i W => ∃ (q : Nat) (L : List Rw), q ≤ len ∧ i = .int .i64 q ∧ XOwns W w.heap.size 33 6 (some ⟨gO, 0, none⟩) n n (rcells L) ∧ Hid (∀ p, p < n → rth L p = rowA l (l.take q) p) ∧ Hid (Below w.heap.size w W)) (fun i _ => len - (intOf i).toNat)
  case atStart => exact ⟨0, _, Nat.zero_le _, rfl, HO2.out, HI, HB2⟩
  case round =>
    obtain ⟨q, L2, hq, rfl, hO, HE3, HB⟩ := hrel
    clear HO2 HI HB2
    by_cases hlt2 : q < len
    · have hlt2' : (q : Int) < len := by omega
      obtain ⟨ad, rfl, -, c0, c1, c2⟩ := game_at (HX.out.below HB.out) hlt2
      have hgk := HOK.out _ (List.mem_of_getElem? (gth_get (xs := l) (k := q) (by rw [HL.out]; exact hlt2)))
      have HTK := Lib.hid (gtake_snoc (l := l) (k := q) (by rw [HL.out]; exact hlt2))
      generalize gth l q = g at *
      obtain ⟨ga, gb, go⟩ := g
      simp only at c0 c1 c2
      have HGK := Lib.hid hgk
      obtain ⟨g1, g2, g3, g4, g5, g6, g7⟩ := hgk
      simp only at g1 g2 g3 g4 g5 g6 g7
      obtain ⟨a, rfl⟩ : ∃ a : Nat, ga = a := ⟨ga.toNat, by omega⟩
      obtain ⟨b, rfl⟩ : ∃ b : Nat, gb = b := ⟨gb.toNat, by omega⟩
      have hab : a ≠ b := by omega
      have han : a < n := by omega
      have hbn : b < n := by omega
      have HLL := Lib.hid (rlen hO)
      have ea := HE3.out a han
      have eb := HE3.out b hbn
      have hgl := (hO.lt gO rfl).2
      have HO := Lib.hid hO
      have s1 := amT_bd l (l.take q) a
      have s2 := amT_bd l (l.take q) b
      have hql : (l.take q).length ≤ 2000 := by rw [List.length_take]; omega
      obtain ⟨P, hP⟩ : ∃ P, a * 6 = P := ⟨_, rfl⟩
      obtain ⟨Q, hQ⟩ : ∃ Q, b * 6 = Q := ⟨_, rfl⟩
      have q0 : (P = Q) = False := eq_false (by omega)
      have q0' : (Q = P) = False := eq_false (by omega)
      have q1 : (P + 1 = Q) = False := eq_false (by omega)
      have p1 : (Q + 1 = P) = False := eq_false (by omega)
      clear g5
      obtain ⟨pa, paf⟩ := hO.rcell (i := a) (j := 1) (u := .int .i64 (sumS l a)) han (by decide) (by rw [ea]; rfl) (t := P + 1) (by omega)
      obtain ⟨pb, pbf⟩ := hO.rcell (i := b) (j := 1) (u := .int .i64 (sumS l b)) hbn (by decide) (by rw [eb]; rfl) (t := Q + 1) (by omega)
      obtain ⟨fa, faf⟩ := hO.rcell (i := a) (j := 2) (u := .int .i64 (amT l (l.take q) a)) han (by decide) (by rw [ea]; rfl) (t := P + 2) (by omega)
      obtain ⟨fb, fbf⟩ := hO.rcell (i := b) (j := 2) (u := .int .i64 (amT l (l.take q) b)) hbn (by decide) (by rw [eb]; rfl) (t := Q + 2) (by omega)
      obtain ⟨sa, hsa⟩ : ∃ s, sumS l a = s := ⟨_, rfl⟩
      obtain ⟨sb, hsb⟩ : ∃ s, sumS l b = s := ⟨_, rfl⟩
      obtain ⟨ua, hua⟩ : ∃ s, amT l (l.take q) a = s := ⟨_, rfl⟩
      obtain ⟨ub, hub⟩ : ∃ s, amT l (l.take q) b = s := ⟨_, rfl⟩
      rw [hsa] at pa
      rw [hsb] at pb
      rw [hua] at fa s1
      rw [hub] at fb s2
      have z5 : 0 ≤ ua := s1.1
      have z6 : ua ≤ 6000 := by omega
      have z7 : 0 ≤ ub := s2.1
      have z8 : ub ≤ 6000 := by omega
      have HSAE := Lib.hid hsa
      have HSBE := Lib.hid hsb
      have HUAE := Lib.hid hua
      have HUBE := Lib.hid hub
      have HPE := Lib.hid hP
      have HQE := Lib.hid hQ
      clear hO ea eb s1 s2 hsa hsb hua hub hql
      by_cases hsab : sa = sb
      · have hEQ : (sa == sb) = true := by rw [beq_iff_eq]; exact hsab
        have HQQ := Lib.hid hsab
        clear hsab hab
        rcases (show go = 1 ∨ go = 2 ∨ go = 3 by omega) with rfl | rfl | rfl
        · have HS2 := Lib.hid (fun (v1 v2 : Int) h0 h1 h2 => set2_rows (n := n) (L := L2) (all := l) (t := l.take q) (g := ⟨a, b, 1⟩) (a := a) (b := b) (v1 := v1) (v2 := v2) HLL.out HE3.out HGK.out rfl rfl h0 h1 h2)
          have HSA := Lib.hid (sc_a (g := ⟨a, b, 1⟩) HGK.out.2.2.2.2.1)
          have HSB := Lib.hid (sc_b (g := ⟨a, b, 1⟩) HGK.out.2.2.2.2.1)
          go_wp2
          go_quiet (fail)
          have hB0 : Below wr.heap.size wr ((wr.alloc (.cells #[.int .i64 a, .int .i64 b, .int .i64 1] 30)).drewN nq) := below_drew_ ((Below.refl _ _).alloc (Nat.le_refl _) _) nq
          have hsz : wr.heap.size < ((wr.alloc (.cells #[.int .i64 a, .int .i64 b, .int .i64 1] 30)).drewN nq).heap.size := by simp
          have HGM := Lib.hid ((Blk.mk_ wr 30 #[.int .i64 a, .int .i64 b, .int .i64 1] _ rfl).drewN nq)
          have kpa := (hB0.cell (p := ⟨gO, P + 1, none⟩) hgl).trans pa
          have kpb := (hB0.cell (p := ⟨gO, Q + 1, none⟩) hgl).trans pb
          have kfa := (hB0.cell (p := ⟨gO, P + 2, none⟩) hgl).trans fa
          have kfb := (hB0.cell (p := ⟨gO, Q + 2, none⟩) hgl).trans fb
          have kfaf := (hB0.frozen (p := ⟨gO, P + 2, none⟩) hgl).trans faf
          have kfbf := (hB0.frozen (p := ⟨gO, Q + 2, none⟩) hgl).trans fbf
          have kg2 := (HGM.out.at_ 2).trans rfl
          have hne : gO ≠ wr.heap.size := by omega
          have HB0 := Lib.hid hB0
          clear pa pb fa fb paf pbf faf fbf hB0
          generalize (wr.alloc (.cells #[.int .i64 a, .int .i64 b, .int .i64 1] 30)).drewN nq = w5 at *
          go_wp2
          go_quiet (fail)
          go_wp2_with (go_at_call 24; refine (points1 _).mono ?_; rintro e w6 ⟨rfl, rfl⟩)
          go_roundw
          have HW4 := Lib.hid (HO.out.below (below_drew_ HB0.out nq))
          case rel => exact ⟨q + 1, set2 L2 a b (ua + 3) ub, hlt2, by go_num, (HW4.out.storeR (i := a) (j := 2) (by rw [HLL.out]; exact han) (by decide) (by have := HPE.out; omega)).storeR (i := b) (j := 2) (by simp [HLL.out]; exact hbn) (by decide) (by have := HQE.out; omega), Lib.hid (by
            rw [HTK.out]
            have e1 := HSA.out
            have e2 := HSB.out
            have e3 := HSAE.out
            have e4 := HSBE.out
            have e5 := HUAE.out
            have e6 := HUBE.out
            have e7 := HQQ.out
            try simp only at e1 e2
            refine HS2.out _ _ ?_ ?_ ?_
            · try simp only
              rw [e3, e4, e7]
            · rw [e1, e5]; simp
            · rw [e2, e6]; simp), Lib.hid (((HB.out.trans ((below_drew_ HB0.out nq).mono HB.out.size)).setCell (p := ⟨gO, P + 2, none⟩) hgw _).setCell (p := ⟨gO, Q + 2, none⟩) hgw _)⟩
          case measure => simp [intOf]; omega
        · have HS2 := Lib.hid (fun (v1 v2 : Int) h0 h1 h2 => set2_rows (n := n) (L := L2) (all := l) (t := l.take q) (g := ⟨a, b, 2⟩) (a := a) (b := b) (v1 := v1) (v2 := v2) HLL.out HE3.out HGK.out rfl rfl h0 h1 h2)
          have HSA := Lib.hid (sc_a (g := ⟨a, b, 2⟩) HGK.out.2.2.2.2.1)
          have HSB := Lib.hid (sc_b (g := ⟨a, b, 2⟩) HGK.out.2.2.2.2.1)
          go_wp2
          go_quiet (fail)
          have hB0 : Below wr.heap.size wr ((wr.alloc (.cells #[.int .i64 a, .int .i64 b, .int .i64 2] 30)).drewN nq) := below_drew_ ((Below.refl _ _).alloc (Nat.le_refl _) _) nq
          have hsz : wr.heap.size < ((wr.alloc (.cells #[.int .i64 a, .int .i64 b, .int .i64 2] 30)).drewN nq).heap.size := by simp
          have HGM := Lib.hid ((Blk.mk_ wr 30 #[.int .i64 a, .int .i64 b, .int .i64 2] _ rfl).drewN nq)
          have kpa := (hB0.cell (p := ⟨gO, P + 1, none⟩) hgl).trans pa
          have kpb := (hB0.cell (p := ⟨gO, Q + 1, none⟩) hgl).trans pb
          have kfa := (hB0.cell (p := ⟨gO, P + 2, none⟩) hgl).trans fa
          have kfb := (hB0.cell (p := ⟨gO, Q + 2, none⟩) hgl).trans fb
          have kfaf := (hB0.frozen (p := ⟨gO, P + 2, none⟩) hgl).trans faf
          have kfbf := (hB0.frozen (p := ⟨gO, Q + 2, none⟩) hgl).trans fbf
          have kg2 := (HGM.out.at_ 2).trans rfl
          have hne : gO ≠ wr.heap.size := by omega
          have HB0 := Lib.hid hB0
          clear pa pb fa fb paf pbf faf fbf hB0
          generalize (wr.alloc (.cells #[.int .i64 a, .int .i64 b, .int .i64 2] 30)).drewN nq = w5 at *
          go_wp2
          go_quiet (fail)
          go_wp2_with (go_at_call 24; refine (points2 _).mono ?_; rintro e w6 ⟨rfl, rfl⟩)
          go_roundw
          have HW4 := Lib.hid (HO.out.below (below_drew_ HB0.out nq))
          case rel => exact ⟨q + 1, set2 L2 a b ua (ub + 3), hlt2, by go_num, (HW4.out.storeR (i := a) (j := 2) (by rw [HLL.out]; exact han) (by decide) (by have := HPE.out; omega)).storeR (i := b) (j := 2) (by simp [HLL.out]; exact hbn) (by decide) (by have := HQE.out; omega), Lib.hid (by
            rw [HTK.out]
            have e1 := HSA.out
            have e2 := HSB.out
            have e3 := HSAE.out
            have e4 := HSBE.out
            have e5 := HUAE.out
            have e6 := HUBE.out
            have e7 := HQQ.out
            try simp only at e1 e2
            refine HS2.out _ _ ?_ ?_ ?_
            · try simp only
              rw [e3, e4, e7]
            · rw [e1, e5]; simp
            · rw [e2, e6]; simp), Lib.hid (((HB.out.trans ((below_drew_ HB0.out nq).mono HB.out.size)).setCell (p := ⟨gO, P + 2, none⟩) hgw _).setCell (p := ⟨gO, Q + 2, none⟩) hgw _)⟩
          case measure => simp [intOf]; omega
        · have HS2 := Lib.hid (fun (v1 v2 : Int) h0 h1 h2 => set2_rows (n := n) (L := L2) (all := l) (t := l.take q) (g := ⟨a, b, 3⟩) (a := a) (b := b) (v1 := v1) (v2 := v2) HLL.out HE3.out HGK.out rfl rfl h0 h1 h2)
          have HSA := Lib.hid (sc_a (g := ⟨a, b, 3⟩) HGK.out.2.2.2.2.1)
          have HSB := Lib.hid (sc_b (g := ⟨a, b, 3⟩) HGK.out.2.2.2.2.1)
          go_wp2
          go_quiet (fail)
          have hB0 : Below wr.heap.size wr ((wr.alloc (.cells #[.int .i64 a, .int .i64 b, .int .i64 3] 30)).drewN nq) := below_drew_ ((Below.refl _ _).alloc (Nat.le_refl _) _) nq
          have hsz : wr.heap.size < ((wr.alloc (.cells #[.int .i64 a, .int .i64 b, .int .i64 3] 30)).drewN nq).heap.size := by simp
          have HGM := Lib.hid ((Blk.mk_ wr 30 #[.int .i64 a, .int .i64 b, .int .i64 3] _ rfl).drewN nq)
          have kpa := (hB0.cell (p := ⟨gO, P + 1, none⟩) hgl).trans pa
          have kpb := (hB0.cell (p := ⟨gO, Q + 1, none⟩) hgl).trans pb
          have kfa := (hB0.cell (p := ⟨gO, P + 2, none⟩) hgl).trans fa
          have kfb := (hB0.cell (p := ⟨gO, Q + 2, none⟩) hgl).trans fb
          have kfaf := (hB0.frozen (p := ⟨gO, P + 2, none⟩) hgl).trans faf
          have kfbf := (hB0.frozen (p := ⟨gO, Q + 2, none⟩) hgl).trans fbf
          have kg2 := (HGM.out.at_ 2).trans rfl
          have hne : gO ≠ wr.heap.size := by omega
          have HB0 := Lib.hid hB0
          clear pa pb fa fb paf pbf faf fbf hB0
          generalize (wr.alloc (.cells #[.int .i64 a, .int .i64 b, .int .i64 3] 30)).drewN nq = w5 at *
          go_wp2
          go_quiet (fail)
          go_wp2_with (go_at_call 24; refine (points3 _).mono ?_; rintro e w6 ⟨rfl, rfl⟩)
          go_roundw
          have HW4 := Lib.hid (HO.out.below (below_drew_ HB0.out nq))
          case rel => exact ⟨q + 1, set2 L2 a b (ua + 1) (ub + 1), hlt2, by go_num, (HW4.out.storeR (i := a) (j := 2) (by rw [HLL.out]; exact han) (by decide) (by have := HPE.out; omega)).storeR (i := b) (j := 2) (by simp [HLL.out]; exact hbn) (by decide) (by have := HQE.out; omega), Lib.hid (by
            rw [HTK.out]
            have e1 := HSA.out
            have e2 := HSB.out
            have e3 := HSAE.out
            have e4 := HSBE.out
            have e5 := HUAE.out
            have e6 := HUBE.out
            have e7 := HQQ.out
            try simp only at e1 e2
            refine HS2.out _ _ ?_ ?_ ?_
            · try simp only
              rw [e3, e4, e7]
            · rw [e1, e5]; simp
            · rw [e2, e6]; simp), Lib.hid (((HB.out.trans ((below_drew_ HB0.out nq).mono HB.out.size)).setCell (p := ⟨gO, P + 2, none⟩) hgw _).setCell (p := ⟨gO, Q + 2, none⟩) hgw _)⟩
          case measure => simp [intOf]; omega
      · have hEQ : (sa == sb) = false := by rw [beq_eq_false_iff_ne]; exact hsab
        have HQQ := Lib.hid hsab
        clear hsab hab
        go_wp2
        go_quiet (fail)
        have hB0 : Below wr.heap.size wr ((wr.alloc (.cells #[.int .i64 a, .int .i64 b, .int .i64 go] 30)).drewN nq) := below_drew_ ((Below.refl _ _).alloc (Nat.le_refl _) _) nq
        have kpa := (hB0.cell (p := ⟨gO, P + 1, none⟩) hgl).trans pa
        have kpb := (hB0.cell (p := ⟨gO, Q + 1, none⟩) hgl).trans pb
        have HB0 := Lib.hid hB0
        have hsz : wr.heap.size < ((wr.alloc (.cells #[.int .i64 a, .int .i64 b, .int .i64 go] 30)).drewN nq).heap.size := by simp
        clear pa pb fa fb paf pbf faf fbf hB0
        generalize (wr.alloc (.cells #[.int .i64 a, .int .i64 b, .int .i64 go] 30)).drewN nq = w5 at *
        go_wp2
        go_quiet (fail)
        go_wp2
        go_roundw
        case rel => exact ⟨q + 1, L2, hlt2, by go_num, HO.out.below (below_drew_ HB0.out nq), Lib.hid (fun p hp => by
          rw [HTK.out, rowA_same (by simp only; rw [HSAE.out, HSBE.out]; exact HQQ.out), HE3.out p hp]), Lib.hid (HB.out.trans ((below_drew_ HB0.out nq).mono HB.out.size))⟩
        case measure => simp [intOf]; omega
    · obtain rfl : q = len := by omega
      have hgx : L2 = rowsS n l := rth_ext (by rw [rlen hO]; simp [rowsS, rangeI_len]) (fun p hp => by
        rw [rlen hO] at hp
        rw [HE3.out p hp, List.take_of_length_le (by rw [HL.out]; exact Nat.le_refl _)]
        unfold rowsS
        rw [rth_map hp]
        rfl)
      subst hgx
      have HO := Lib.hid hO
      clear hO
      go_wp2_with (go_at_call 25; refine (sortrows_any w.heap.size gO n n (rowsS n l) _ HO.out (by simp [rowsS, rangeI_len]) (by omega)).mono ?_; rintro e w7 ⟨rfl, l7, hp7, hs7, ho7, hg7⟩; have HP7 := Lib.hid hp7; have HS7 := Lib.hid hs7; have HO7 := Lib.hid ho7; have HB7 := Lib.hid (HB.out.trans (grown_below (show wr.grownBy w7 (blkOf (some ⟨gO, 0, none⟩)) from hg7) HB.out.size (fun i hi => by injection hi with hi; have e : gO = i := hi; omega))); clear hp7 hs7 ho7 hg7)
      go_ret2
      have ht : l7 = tabS n l := by
        have := tab_of (n := n) (l := l) (d := (rowsS n l).toArray) (d' := l7.toArray) (by simp) HP7.out HS7.out
        simpa using this
      subst ht
      exact ⟨gO, rfl, HO7.out, HB7.out⟩
end Go.Proofs.Ytekbjlihpmjlfaa
