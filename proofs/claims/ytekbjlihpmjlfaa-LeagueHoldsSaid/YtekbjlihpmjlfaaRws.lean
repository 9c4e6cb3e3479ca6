/-
  points; rows.
-/
import Derived.Test.YtekbjlihpmjlfaaRwsP
import Derived.Test.YtekbjlihpmjlfaaLater
set_option linter.unusedSimpArgs false
set_option linter.unusedVariables false
namespace Go.Proofs.Ytekbjlihpmjlfaa
open Go.RowKit

theorem points1 (w : World) : Calls Try.prog 24 #[.int .i64 1] w fun e w' => e = .returned (.tuple #[.int .i64 3, .int .i64 0]) ∧ w = w' := by
  go_enter Try.func24, Try.ntmps24
  go_wp2
  go_ret2
  exact ⟨rfl, rfl⟩
theorem points2 (w : World) : Calls Try.prog 24 #[.int .i64 2] w fun e w' => e = .returned (.tuple #[.int .i64 0, .int .i64 3]) ∧ w = w' := by
  go_enter Try.func24, Try.ntmps24
  go_wp2
  go_ret2
  exact ⟨rfl, rfl⟩
theorem points3 (w : World) : Calls Try.prog 24 #[.int .i64 3] w fun e w' => e = .returned (.tuple #[.int .i64 1, .int .i64 1]) ∧ w = w' := by
  go_enter Try.func24, Try.ntmps24
  go_wp2
  go_ret2
  exact ⟨rfl, rfl⟩
set_option maxRecDepth 100000 in
set_option maxHeartbeats 3200000 in
theorem rows_any (n : Nat) (A : Option Addr) (len c : Nat) (l : List Gm) (w : World) (hx : Reads w 3 A len (gcells l)) (hn : 2 ≤ n ∧ n ≤ 40) (hlen : len ≤ 2000) (hok : ∀ g ∈ l, GOk n g) :
    Calls Try.prog 23 #[.int .i64 n, .slice A len c] w fun e w' => ∃ g, e = .returned (.slice (some ⟨g, 0, none⟩) n n) ∧ XOwns w' w.heap.size 33 6 (some ⟨g, 0, none⟩) n n (rcells (rows0 n l)) ∧ Below w.heap.size w w' := by
  have HX := Lib.hid hx
  have HL := Lib.hid (glen hx)
  have HOK := Lib.hid hok
  obtain ⟨hn1, hn2⟩ := hn
  clear hx hok
  go_enter Try.func23, Try.ntmps23
  go_wp2_with (at_make; refine make_k _ rfl (.tmp 13) (.tmp 13) 24 rfl w.heap.size 33 (.agg #[.int .i64 0, .int .i64 0, .int .i64 0, .int .i64 0, .int .i64 0, .int .i64 0]) 6 48 Try.info33 Try.underlying24 rfl (by decide) .i64 .i64 _ _ n rfl rfl rfl rfl ?_ ?_ ?_ ?_; omega; omega; exact Nat.le_refl _; intro w1 ho1 hb1)
  rw [rep_rows] at ho1
  have HO1 := Lib.hid ho1
  obtain ⟨gO, hgO⟩ : ∃ g, w.heap.size = g := ⟨_, rfl⟩
  have HG := Lib.hid hgO
  clear ho1
  rw [hgO] at HO1 ⊢
  have hb1' : Below gO w w1 := by rw [← hgO]; exact hb1
  clear hgO hb1
  go_loopw [17] (fun i W => ∃ (k : Nat) (L : List Rw), k ≤ n ∧ i = .int .i64 k ∧ XOwns W gO 33 6 (some ⟨gO, 0, none⟩) n n (rcells L) ∧ Hid (∀ p, p < n → rth L p = if p < k then row0 [] p else r0) ∧ Below gO w W) (fun i _ => n - (intOf i).toNat)
  case atStart => exact ⟨0, _, Nat.zero_le _, rfl, HO1.out, Lib.hid (fun p hp => by rw [if_neg (Nat.not_lt_zero _)]; simp [rth, List.getD, List.getElem?_replicate, hp]), hb1'⟩
  case round =>
    obtain ⟨k, L, hk, rfl, hO, HE, hB⟩ := hrel
    by_cases hlt : k < n
    · have hlt' : (k : Int) < n := by omega
      obtain ⟨c0, f0⟩ := hO.rcell (i := k) (j := 0) (u := .int .i64 (rth L k).pl) hlt (by decide) rfl (t := k * 6) (by omega)
      have HO := Lib.hid hO
      have HLL := Lib.hid (rlen hO)
      have hgl := (hO.lt gO rfl).2
      clear hO
      go_wp2
      go_roundw
      case rel => exact ⟨k + 1, _, hlt, by go_num, HO.out.storeR (i := k) (j := 0) (by rw [HLL.out]; exact hlt) (by decide) (by omega), Lib.hid (fun p hp => by
        rw [rth_set (by rw [HLL.out]; exact hlt)]
        by_cases hpk : p = k
        · subst hpk
          rw [if_pos rfl, HE.out p hp, if_neg (Nat.lt_irrefl _), if_pos (Nat.lt_succ_self _)]
          rfl
        · rw [if_neg hpk, HE.out p hp]
          by_cases h1 : p < k
          · rw [if_pos h1, if_pos (by omega)]
          · rw [if_neg h1, if_neg (by omega)]), hB.setCell (p := ⟨gO, k * 6, none⟩) (Nat.le_refl _) _⟩
      case measure => simp [intOf]; omega
    · obtain rfl : k = n := by omega
      have HO2 : Hid (XOwns wr gO 33 6 (some ⟨gO, 0, none⟩) k k (rcells L)) := Lib.hid hO
      have HE2 : Hid (∀ p, p < k → rth L p = row0 (l.take 0) p) := Lib.hid (fun p hp => by rw [HE.out p hp, if_pos hp]; rfl)
      clear hO hb1' HO1
      generalize wr = wq at *
      go_wp2
      go_loopw [28] (fun i W => ∃ (q : Nat) (L : List Rw), q ≤ len ∧ i = .int .i64 q ∧ XOwns W gO 33 6 (some ⟨gO, 0, none⟩) k k (rcells L) ∧ Hid (∀ p, p < k → rth L p = row0 (l.take q) p) ∧ Below gO w W) (fun i _ => len - (intOf i).toNat)
      case atStart => exact ⟨0, L, Nat.zero_le _, rfl, HO2.out, HE2, hB⟩
      case round =>
        obtain ⟨q, L2, hq, rfl, hO, HE3, hB2⟩ := hrel
        clear HO2 HE2 hB HE
        by_cases hlt2 : q < len
        · have hlt2' : (q : Int) < len := by omega
          obtain ⟨ad, rfl, -, c0, c1, c2⟩ := game_at (HX.out.below (by rw [HG.out]; exact hB2)) hlt2
          have hgk := HOK.out _ (List.mem_of_getElem? (gth_get (xs := l) (k := q) (by rw [HL.out]; exact hlt2)))
          have HTK := Lib.hid (gtake_snoc (l := l) (k := q) (by rw [HL.out]; exact hlt2))
          generalize gth l q = g at *
          obtain ⟨ga, gb, go⟩ := g
          simp only at c0 c1 c2
          have HGK := Lib.hid hgk
          obtain ⟨g1, g2, g3, g4, g5, g6, g7⟩ := hgk
          simp only at g1 g2 g3 g4 g5 g6 g7
          obtain ⟨a, rfl⟩ : ∃ a : Nat, ga = a := ⟨ga.toNat, by omega⟩
          obtain ⟨b, rfl⟩ : ∃ b : Nat, gb = b := ⟨gb.toNat, by omega⟩
          have hab : a ≠ b := by omega
          have han : a < k := by omega
          have hbn : b < k := by omega
          have HLL := Lib.hid (rlen hO)
          have ea := HE3.out a han
          have eb := HE3.out b hbn
          have hgl := (hO.lt gO rfl).2
          have HO := Lib.hid hO
          have s1 := sumS_bd (l.take q) a
          have s2 := sumS_bd (l.take q) b
          have hql : (l.take q).length ≤ 2000 := by rw [List.length_take]; omega
          obtain ⟨P, hP⟩ : ∃ P, a * 6 = P := ⟨_, rfl⟩
          obtain ⟨Q, hQ⟩ : ∃ Q, b * 6 = Q := ⟨_, rfl⟩
          have q0 : (P = Q) = False := eq_false (by omega)
          have q0' : (Q = P) = False := eq_false (by omega)
          have q1 : (P + 1 = Q) = False := eq_false (by omega)
          have q2 : (P + 2 = Q) = False := eq_false (by omega)
          have q3 : (P + 3 = Q) = False := eq_false (by omega)
          have q4 : (P + 4 = Q) = False := eq_false (by omega)
          have p1 : (Q + 1 = P) = False := eq_false (by omega)
          have p2 : (Q + 2 = P) = False := eq_false (by omega)
          have p3 : (Q + 3 = P) = False := eq_false (by omega)
          have p4 : (Q + 4 = P) = False := eq_false (by omega)
          have hpw : gO < wr.heap.size := hgl
          clear g5
          rcases (show go = 1 ∨ go = 2 ∨ go = 3 by omega) with rfl | rfl | rfl
          · have s3 := cntS_bd 3 (l.take q) a
            have s4 := cntS_bd 0 (l.take q) b
            obtain ⟨pa, paf⟩ := hO.rcell (i := a) (j := 1) (u := .int .i64 (sumS (l.take q) a)) han (by decide) (by rw [ea]; rfl) (t := P + 1) (by omega)
            obtain ⟨pb, pbf⟩ := hO.rcell (i := b) (j := 1) (u := .int .i64 (sumS (l.take q) b)) hbn (by decide) (by rw [eb]; rfl) (t := Q + 1) (by omega)
            obtain ⟨fa, faf⟩ := hO.rcell (i := a) (j := 3) (u := .int .i64 (cntS 3 (l.take q) a)) han (by decide) (by rw [ea]; rfl) (t := P + 3) (by omega)
            obtain ⟨fb, fbf⟩ := hO.rcell (i := b) (j := 5) (u := .int .i64 (cntS 0 (l.take q) b)) hbn (by decide) (by rw [eb]; rfl) (t := Q + 5) (by omega)
            have HS4 := Lib.hid (fun (v1 v2 v3 v4 : Int) h1 h2 h3 => set4_rows (n := k) (L := L2) (t := l.take q) (g := ⟨a, b, 1⟩) (a := a) (b := b) (ja := 3) (jb := 5) (v1 := v1) (v2 := v2) (v3 := v3) (v4 := v4) HLL.out HE3.out HGK.out rfl rfl h1 h2 h3)
            have HSA := Lib.hid (sc_a (g := ⟨a, b, 1⟩) (by simp only; omega))
            have HSB := Lib.hid (sc_b (g := ⟨a, b, 1⟩) (by simp only; omega))
            obtain ⟨sa, hsa⟩ : ∃ s, sumS (l.take q) a = s := ⟨_, rfl⟩
            obtain ⟨sb, hsb⟩ : ∃ s, sumS (l.take q) b = s := ⟨_, rfl⟩
            obtain ⟨ua, hua⟩ : ∃ s, cntS 3 (l.take q) a = s := ⟨_, rfl⟩
            obtain ⟨ub, hub⟩ : ∃ s, cntS 0 (l.take q) b = s := ⟨_, rfl⟩
            rw [hsa] at pa s1
            rw [hsb] at pb s2
            rw [hua] at fa s3
            rw [hub] at fb s4
            have z1 : 0 ≤ sa := s1.1
            have z2 : sa ≤ 6000 := by omega
            have z3 : 0 ≤ sb := s2.1
            have z4 : sb ≤ 6000 := by omega
            have z5 : 0 ≤ ua := s3.1
            have z6 : ua ≤ 2000 := by omega
            have z7 : 0 ≤ ub := s4.1
            have z8 : ub ≤ 2000 := by omega
            have HSAE := Lib.hid hsa
            have HSBE := Lib.hid hsb
            have HUAE := Lib.hid hua
            have HUBE := Lib.hid hub
            have HPE := Lib.hid hP
            have HQE := Lib.hid hQ
            have HAB := Lib.hid hab
            clear hO ea eb s1 s2 s3 s4 hsa hsb hua hub hql hab
            go_wp2
            go_quiet (fail)
            go_wp2_with (go_at_call 24; refine (points1 _).mono ?_; rintro e w5 ⟨rfl, rfl⟩)
            go_roundw
            have HW4 := Lib.hid (HO.out.below (below_drew_ ((Below.refl _ _).alloc (Nat.le_refl _) (.cells #[.int .i64 a, .int .i64 b, .int .i64 1] 30)) nq))
            case rel => exact ⟨q + 1, set4 L2 a b 3 5 (sa + 3) sb (ua + 1) (ub + 1), hlt2, by go_num, (((HW4.out.storeR (i := a) (j := 1) (by rw [HLL.out]; exact han) (by decide) (by have := HPE.out; omega)).storeR (i := b) (j := 1) (by simp [HLL.out]; exact hbn) (by decide) (by have := HQE.out; omega)).storeR (i := a) (j := 3) (by simp [HLL.out]; exact han) (by decide) (by have := HPE.out; omega)).storeR (i := b) (j := 5) (by simp [HLL.out]; exact hbn) (by decide) (by have := HQE.out; omega), Lib.hid (by
              rw [HTK.out]
              have e1 := HSA.out
              have e2 := HSB.out
              try simp only at e1 e2
              have e3 := HSAE.out
              have e4 := HSBE.out
              have e5 := HUAE.out
              have e6 := HUBE.out
              refine HS4.out _ _ _ _ ?_ ?_ ?_
              · rw [e1, e3]; simp
              · rw [e2, e4]; simp
              · simp [e5, e6]), ((((below_drew_ (hB2.alloc (by omega) _) nq).setCell (p := ⟨gO, P + 1, none⟩) (Nat.le_refl _) _).setCell (p := ⟨gO, Q + 1, none⟩) (Nat.le_refl _) _).setCell (p := ⟨gO, P + 3, none⟩) (Nat.le_refl _) _).setCell (p := ⟨gO, Q + 5, none⟩) (Nat.le_refl _) _⟩
            case measure => simp [intOf]; omega
          · have s3 := cntS_bd 0 (l.take q) a
            have s4 := cntS_bd 3 (l.take q) b
            obtain ⟨pa, paf⟩ := hO.rcell (i := a) (j := 1) (u := .int .i64 (sumS (l.take q) a)) han (by decide) (by rw [ea]; rfl) (t := P + 1) (by omega)
            obtain ⟨pb, pbf⟩ := hO.rcell (i := b) (j := 1) (u := .int .i64 (sumS (l.take q) b)) hbn (by decide) (by rw [eb]; rfl) (t := Q + 1) (by omega)
            obtain ⟨fa, faf⟩ := hO.rcell (i := a) (j := 5) (u := .int .i64 (cntS 0 (l.take q) a)) han (by decide) (by rw [ea]; rfl) (t := P + 5) (by omega)
            obtain ⟨fb, fbf⟩ := hO.rcell (i := b) (j := 3) (u := .int .i64 (cntS 3 (l.take q) b)) hbn (by decide) (by rw [eb]; rfl) (t := Q + 3) (by omega)
            have HS4 := Lib.hid (fun (v1 v2 v3 v4 : Int) h1 h2 h3 => set4_rows (n := k) (L := L2) (t := l.take q) (g := ⟨a, b, 2⟩) (a := a) (b := b) (ja := 5) (jb := 3) (v1 := v1) (v2 := v2) (v3 := v3) (v4 := v4) HLL.out HE3.out HGK.out rfl rfl h1 h2 h3)
            have HSA := Lib.hid (sc_a (g := ⟨a, b, 2⟩) (by simp only; omega))
            have HSB := Lib.hid (sc_b (g := ⟨a, b, 2⟩) (by simp only; omega))
            obtain ⟨sa, hsa⟩ : ∃ s, sumS (l.take q) a = s := ⟨_, rfl⟩
            obtain ⟨sb, hsb⟩ : ∃ s, sumS (l.take q) b = s := ⟨_, rfl⟩
            obtain ⟨ua, hua⟩ : ∃ s, cntS 0 (l.take q) a = s := ⟨_, rfl⟩
            obtain ⟨ub, hub⟩ : ∃ s, cntS 3 (l.take q) b = s := ⟨_, rfl⟩
            rw [hsa] at pa s1
            rw [hsb] at pb s2
            rw [hua] at fa s3
            rw [hub] at fb s4
            have z1 : 0 ≤ sa := s1.1
            have z2 : sa ≤ 6000 := by omega
            have z3 : 0 ≤ sb := s2.1
            have z4 : sb ≤ 6000 := by omega
            have z5 : 0 ≤ ua := s3.1
            have z6 : ua ≤ 2000 := by omega
            have z7 : 0 ≤ ub := s4.1
            have z8 : ub ≤ 2000 := by omega
            have HSAE := Lib.hid hsa
            have HSBE := Lib.hid hsb
            have HUAE := Lib.hid hua
            have HUBE := Lib.hid hub
            have HPE := Lib.hid hP
            have HQE := Lib.hid hQ
            have HAB := Lib.hid hab
            clear hO ea eb s1 s2 s3 s4 hsa hsb hua hub hql hab
            go_wp2
            go_quiet (fail)
            go_wp2_with (go_at_call 24; refine (points2 _).mono ?_; rintro e w5 ⟨rfl, rfl⟩)
            go_roundw
            have HW4 := Lib.hid (HO.out.below (below_drew_ ((Below.refl _ _).alloc (Nat.le_refl _) (.cells #[.int .i64 a, .int .i64 b, .int .i64 2] 30)) nq))
            case rel => exact ⟨q + 1, set4 L2 a b 5 3 sa (sb + 3) (ua + 1) (ub + 1), hlt2, by go_num, (((HW4.out.storeR (i := a) (j := 1) (by rw [HLL.out]; exact han) (by decide) (by have := HPE.out; omega)).storeR (i := b) (j := 1) (by simp [HLL.out]; exact hbn) (by decide) (by have := HQE.out; omega)).storeR (i := a) (j := 5) (by simp [HLL.out]; exact han) (by decide) (by have := HPE.out; omega)).storeR (i := b) (j := 3) (by simp [HLL.out]; exact hbn) (by decide) (by have := HQE.out; omega), Lib.hid (by
              rw [HTK.out]
              have e1 := HSA.out
              have e2 := HSB.out
              try simp only at e1 e2
              have e3 := HSAE.out
              have e4 := HSBE.out
              have e5 := HUAE.out
              have e6 := HUBE.out
              refine HS4.out _ _ _ _ ?_ ?_ ?_
              · rw [e1, e3]; simp
              · rw [e2, e4]; simp
              · simp [e5, e6]), ((((below_drew_ (hB2.alloc (by omega) _) nq).setCell (p := ⟨gO, P + 1, none⟩) (Nat.le_refl _) _).setCell (p := ⟨gO, Q + 1, none⟩) (Nat.le_refl _) _).setCell (p := ⟨gO, P + 5, none⟩) (Nat.le_refl _) _).setCell (p := ⟨gO, Q + 3, none⟩) (Nat.le_refl _) _⟩
            case measure => simp [intOf]; omega
          · have s3 := cntS_bd 1 (l.take q) a
            have s4 := cntS_bd 1 (l.take q) b
            obtain ⟨pa, paf⟩ := hO.rcell (i := a) (j := 1) (u := .int .i64 (sumS (l.take q) a)) han (by decide) (by rw [ea]; rfl) (t := P + 1) (by omega)
            obtain ⟨pb, pbf⟩ := hO.rcell (i := b) (j := 1) (u := .int .i64 (sumS (l.take q) b)) hbn (by decide) (by rw [eb]; rfl) (t := Q + 1) (by omega)
            obtain ⟨fa, faf⟩ := hO.rcell (i := a) (j := 4) (u := .int .i64 (cntS 1 (l.take q) a)) han (by decide) (by rw [ea]; rfl) (t := P + 4) (by omega)
            obtain ⟨fb, fbf⟩ := hO.rcell (i := b) (j := 4) (u := .int .i64 (cntS 1 (l.take q) b)) hbn (by decide) (by rw [eb]; rfl) (t := Q + 4) (by omega)
            have HS4 := Lib.hid (fun (v1 v2 v3 v4 : Int) h1 h2 h3 => set4_rows (n := k) (L := L2) (t := l.take q) (g := ⟨a, b, 3⟩) (a := a) (b := b) (ja := 4) (jb := 4) (v1 := v1) (v2 := v2) (v3 := v3) (v4 := v4) HLL.out HE3.out HGK.out rfl rfl h1 h2 h3)
            have HSA := Lib.hid (sc_a (g := ⟨a, b, 3⟩) (by simp only; omega))
            have HSB := Lib.hid (sc_b (g := ⟨a, b, 3⟩) (by simp only; omega))
            obtain ⟨sa, hsa⟩ : ∃ s, sumS (l.take q) a = s := ⟨_, rfl⟩
            obtain ⟨sb, hsb⟩ : ∃ s, sumS (l.take q) b = s := ⟨_, rfl⟩
            obtain ⟨ua, hua⟩ : ∃ s, cntS 1 (l.take q) a = s := ⟨_, rfl⟩
            obtain ⟨ub, hub⟩ : ∃ s, cntS 1 (l.take q) b = s := ⟨_, rfl⟩
            rw [hsa] at pa s1
            rw [hsb] at pb s2
            rw [hua] at fa s3
            rw [hub] at fb s4
            have z1 : 0 ≤ sa := s1.1
            have z2 : sa ≤ 6000 := by omega
            have z3 : 0 ≤ sb := s2.1
            have z4 : sb ≤ 6000 := by omega
            have z5 : 0 ≤ ua := s3.1
            have z6 : ua ≤ 2000 := by omega
            have z7 : 0 ≤ ub := s4.1
            have z8 : ub ≤ 2000 := by omega
            have HSAE := Lib.hid hsa
            have HSBE := Lib.hid hsb
            have HUAE := Lib.hid hua
            have HUBE := Lib.hid hub
            have HPE := Lib.hid hP
            have HQE := Lib.hid hQ
            have HAB := Lib.hid hab
            clear hO ea eb s1 s2 s3 s4 hsa hsb hua hub hql hab
            go_wp2
            go_quiet (fail)
            go_wp2_with (go_at_call 24; refine (points3 _).mono ?_; rintro e w5 ⟨rfl, rfl⟩)
            go_roundw
            have HW4 := Lib.hid (HO.out.below (below_drew_ ((Below.refl _ _).alloc (Nat.le_refl _) (.cells #[.int .i64 a, .int .i64 b, .int .i64 3] 30)) nq))
            case rel => exact ⟨q + 1, set4 L2 a b 4 4 (sa + 1) (sb + 1) (ua + 1) (ub + 1), hlt2, by go_num, (((HW4.out.storeR (i := a) (j := 1) (by rw [HLL.out]; exact han) (by decide) (by have := HPE.out; omega)).storeR (i := b) (j := 1) (by simp [HLL.out]; exact hbn) (by decide) (by have := HQE.out; omega)).storeR (i := a) (j := 4) (by simp [HLL.out]; exact han) (by decide) (by have := HPE.out; omega)).storeR (i := b) (j := 4) (by simp [HLL.out]; exact hbn) (by decide) (by have := HQE.out; omega), Lib.hid (by
              rw [HTK.out]
              have e1 := HSA.out
              have e2 := HSB.out
              try simp only at e1 e2
              have e3 := HSAE.out
              have e4 := HSBE.out
              have e5 := HUAE.out
              have e6 := HUBE.out
              refine HS4.out _ _ _ _ ?_ ?_ ?_
              · rw [e1, e3]; simp
              · rw [e2, e4]; simp
              · simp [e5, e6]), ((((below_drew_ (hB2.alloc (by omega) _) nq).setCell (p := ⟨gO, P + 1, none⟩) (Nat.le_refl _) _).setCell (p := ⟨gO, Q + 1, none⟩) (Nat.le_refl _) _).setCell (p := ⟨gO, P + 4, none⟩) (Nat.le_refl _) _).setCell (p := ⟨gO, Q + 4, none⟩) (Nat.le_refl _) _⟩
            case measure => simp [intOf]; omega
        · obtain rfl : q = len := by omega
          have hgx : L2 = rows0 k l := rth_ext (by rw [rlen hO]; simp [rows0, rangeI_len]) (fun p hp => by
            rw [rlen hO] at hp
            rw [HE3.out p hp, List.take_of_length_le (by rw [HL.out]; exact Nat.le_refl _)]
            unfold rows0
            rw [rth_map hp])
          subst hgx
          have HO := Lib.hid hO
          clear hO
          go_wp2
          go_ret
          exact ⟨gO, rfl, by rw [HG.out]; exact HO.out, by rw [HG.out]; exact hB2⟩
end Go.Proofs.Ytekbjlihpmjlfaa
