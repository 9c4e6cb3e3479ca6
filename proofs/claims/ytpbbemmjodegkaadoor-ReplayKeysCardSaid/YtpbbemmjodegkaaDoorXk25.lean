/-
  Texts: Next.
-/
import Derived.Test.YtpbbemmjodegkaaDoorXk24
set_option linter.unusedSimpArgs false
set_option linter.unusedVariables false
namespace Go.Proofs.YtpbbemmjodegkaaDoor
open Go.RowKit

def getsN : Nat → List Int → Option (List Nat × List Int)
  | 0, r => some ([], r)
  | k + 1, r => if (getS r).2 = 0 then none else (getsN k (r.drop (getS r).2)).map fun p => ((getS r).1 :: p.1, p.2)
def mkMove (t x : Int) (l : List Nat) : MoveV := ⟨x % 2, x / 2 + 1, (l.getD 0 0 : Nat), (l.getD 1 0 : Nat), (l.getD 2 0 : Nat), t + (l.getD 3 0 : Nat)⟩
def nextOf (t x : Int) : Option (List Nat × List Int) → Option MoveV
  | none => none
  | some (l, _) => if 65535 < l.getD 0 0 ∨ 65535 < l.getD 1 0 ∨ 65535 < l.getD 2 0 ∨ 18446744073709551615 - t < ((l.getD 3 0 : Nat) : Int) then none else some (mkMove t x l)
theorem next_gets (t x : Int) (r : List Int) : nextS t (x :: r) = nextOf t x (getsN 4 r) := by
  simp only [nextS, getsN]
  split
  · rfl
  · split
    · simp [nextOf]
    · split
      · simp [nextOf]
      · split
        · simp [nextOf]
        · simp only [Option.map_some, nextOf, mkMove, List.getD_cons_zero, List.getD_cons_succ]
theorem gets_snoc (k : Nat) (r : List Int) : getsN (k + 1) r = (getsN k r).bind fun p => if (getS p.2).2 = 0 then none else some (p.1 ++ [(getS p.2).1], p.2.drop (getS p.2).2) := by
  induction k generalizing r with
  | zero => simp [getsN]
  | succ k ih =>
    rw [getsN]
    split
    · rename_i h
      simp [getsN, h]
    · rename_i h
      rw [ih]
      conv => rhs; rw [getsN, if_neg h]
      cases getsN k (r.drop (getS r).2) with
      | none => rfl
      | some p =>
        simp only [Option.bind_some, Option.map_some]
        split
        · rfl
        · rfl
theorem gets_none {k : Nat} {r : List Int} (h : getsN k r = none) (j : Nat) : getsN (k + j) r = none := by
  induction j with
  | zero => exact h
  | succ j ih => rw [← Nat.add_assoc, gets_snoc, ih]; rfl
theorem getL_le : ∀ (f i n : Nat) (xs : List Int), (getL f i n xs).2 ≤ i + xs.length
  | 0, _, _, _ => Nat.zero_le _
  | f + 1, i, n, [] => Nat.zero_le _
  | f + 1, i, n, x :: xs => by
    simp only [getL, List.length_cons]
    split
    · simp
    · split
      · simp only; omega
      · have := getL_le f (i + 1) (n + x.toNat % 128 * 128 ^ i) xs
        omega
theorem getS_le (xs : List Int) : (getS xs).2 ≤ xs.length := by have := getL_le 10 0 0 xs; simpa [getS] using this

def NextEnd (t : Int) (xs : List Int) (w : World) (e : Ending) (w' : World) : Prop := ∃ (m : MoveV) (is : Bool), e = .returned (.tuple #[.agg #[.int .i64 m.p, .int .i64 m.why, .int .i64 m.k, .int .i64 m.id, .int .i64 m.to, .int .u64 m.at_], .bool is]) ∧ nextS t xs = (if is then some m else none) ∧ Below w.heap.size w w'
theorem BReads.cut' {w : World} {A : Option Addr} {n cap : Nat} {xs : List Int} (h : BReads w A n xs) {k : Nat} (hk : k ≤ n) (hc : n ≤ cap) :
    BReads w (if cap = k then A else A.map (·.add k)) (n - k) (xs.drop k) := by
  have := h.1.cut hk hc
  simp only [Nat.mul_one] at this
  exact ⟨by simpa [bys] using this, fun x hx => h.2 x (List.mem_of_mem_drop hx)⟩

set_option maxRecDepth 100000 in
set_option maxHeartbeats 1600000 in
theorem next_nil (B p : Nat) (q : St) (x : RpC) (A : Option Addr) (c : Nat) (w : World) (h : Rp w B p q x) : Calls Tryd.prog 49 #[.pointer (some ⟨p, 0, none⟩), .slice A 0 c] w (NextEnd q.last [] w) := by
  clear h
  go_enter Tryd.func49, Tryd.ntmps49
  go_wp2
  exact bodyPost_ret (v := .tuple #[.agg #[.int .i64 0, .int .i64 0, .int .i64 0, .int .i64 0, .int .i64 0, .int .u64 0], .bool false]) (by simp [results, Tryd.results49, go_sem]) rfl ⟨⟨0, 0, 0, 0, 0, 0⟩, false, rfl, rfl, by (focus (repeat' (first | (with_reducible exact Below.refl _ _) | (with_reducible assumption) | (with_reducible refine Below.alloc ?_ ?_ _) | (with_reducible refine below_drewN ?_ _) | (with_reducible refine Below.drew ?_) | (with_reducible refine Below.setCell ?_ ?_ _) | omega | (simp; done) | (simp; omega))))⟩

def arr4 (l : List Nat) : Array Value := #[.int .u64 (l.getD 0 0 : Nat), .int .u64 (l.getD 1 0 : Nat), .int .u64 (l.getD 2 0 : Nat), .int .u64 (l.getD 3 0 : Nat)]

theorem arr4_put {l : List Nat} {k v : Nat} (hl : l.length = k) (hk : k < 4) : (arr4 l).setIfInBounds k (.int .u64 v) = arr4 (l ++ [v]) := by
  subst hl
  match l, hk with
  | [], _ => rfl
  | [a], _ => rfl
  | [a, b], _ => rfl
  | [a, b, c], _ => rfl
theorem arr4_at (l : List Nat) {k : Nat} (hk : k < 4) : ∃ u, (arr4 l)[k]? = some u ∧ u.oneCell' = true := by
  match k, hk with
  | 0, _ => exact ⟨_, rfl, rfl⟩
  | 1, _ => exact ⟨_, rfl, rfl⟩
  | 2, _ => exact ⟨_, rfl, rfl⟩
  | 3, _ => exact ⟨_, rfl, rfl⟩
set_option maxRecDepth 100000 in
set_option maxHeartbeats 1600000 in
theorem next_cons (B p : Nat) (q : St) (x : RpC) (A : Option Addr) (n c : Nat) (b : Int) (r0 : List Int) (w : World) (h : Rp w B p q x) (hx : BReads w A (n + 1) (b :: r0)) (hc : n + 1 ≤ c) (hc2 : c ≤ 9223372036854775807) : Calls Tryd.prog 49 #[.pointer (some ⟨p, 0, none⟩), .slice A (n + 1) c] w (NextEnd q.last (b :: r0) w) := by
  have HR : Hid (∀ W, Below w.heap.size w W → Rp W B p q x) := fun W hb => h.below hb
  have HX : Hid (∀ W, Below w.heap.size w W → BReads W A (n + 1) (b :: r0)) := fun W hb => hx.below hb
  obtain ⟨ad, hA, hc0, hb0, hb1⟩ := hx.at_ (k := 0) (by omega)
  subst hA
  have hnb : nth (b :: r0) 0 = b := rfl
  rw [hnb] at hc0 hb0 hb1
  have hadb : ad.block < w.heap.size := by
    obtain ⟨ad', e, hbl, _⟩ := hx.1.2 (by omega)
    injection e with e
    subst e
    exact hbl
  have hcell : w.cell? ad = some (.int .u8 b) := by simpa [Addr.add] using hc0
  clear h hx hnb hc0
  go_enter Tryd.func49, Tryd.ntmps49
  go_wp2
  have hNE : Nonempty (In (fun W => Below w.heap.size w W)) := ⟨⟨_, Below.refl _ _⟩⟩
  have c0 : ∀ s : In (fun W => Below w.heap.size w W), s.W.cell? ad = some (.int .u8 b) := fun s => (s.h.cell hadb).trans hcell
  refine wp_region_sched (fun w' => ∃ s : In (fun W => Below w.heap.size w W), w' = s.W) [0,1,2,3,4,5,6,7,8,9,10,11] (.one 12 [13] (.one 14 [] .done)) (by kernel_rfl) (by kernel_rfl) (fun d _ _ _ _ h => by cases d <;> exact h) ⟨⟨_, ((Below.refl _ _).alloc (Nat.le_refl _) _).drew⟩, rfl⟩ ?_
  simp only [opsAt, List.getElem?_toArray, List.getElem?_cons_succ, List.getElem?_cons_zero]
  repeat (go_big_quiet_step (fail))
  refine wpQuiet_nil ?_
  (refine eff_lit rfl rfl (fun K hK => ?_))
  go_big_op
  refine hK _ _ ⟨⟨_, ((Below.refl _ _).alloc (Nat.le_refl _) _).drew⟩, rfl⟩ ?_
  clear hK K
  simp only [opsAt, List.getElem?_toArray, List.getElem?_cons_succ, List.getElem?_cons_zero]
  repeat (go_big_quiet_step (fail))
  refine wpQuiet_nil ?_
  (refine eff_lit rfl rfl (fun K hK => ?_))
  go_big_op
  refine hK _ _ ⟨⟨_, ((Below.refl _ _).alloc (Nat.le_refl _) _).drew⟩, rfl⟩ ?_
  clear hK K c0 hNE
  simp only [opsAt, List.getElem?_toArray, List.getElem?_cons_succ, List.getElem?_cons_zero]
  refine wpQuiet_nil ?_
  refine effs_done ?_
  by_cases hc1 : c = 1
  · go_wp2
    go_loopw [1, 29] (fun v i W => ∃ (k : Nat) (l : List Nat) (r : List Int) (A1 : Option Addr) (n1 c1 : Nat), k ≤ 4 ∧ l.length = k ∧ i = .int .i64 k ∧ v = .slice A1 n1 c1 ∧ BReads W A1 n1 r ∧ n1 ≤ c1 ∧ c1 ≤ 9223372036854775807 ∧ Hid (getsN k r0 = some (l, r)) ∧ Blk W w.heap.size 55 #[.int .i64 (b % 2), .int .i64 (b / 2 + 1), .int .i64 0, .int .i64 0, .int .i64 0, .int .u64 0] ∧ Blk W (w.heap.size + 1) 126 (arr4 l) ∧ (∀ z ∈ l, z < 2 ^ 64) ∧ blkOf A1 = some ad.block ∧ Below w.heap.size w W) (fun _ i _ => 4 - (intOf i).toNat)
    case atStart =>
      have hr := (HX.out ((w.alloc (.cells #[.int .i64 (b % 2), .int .i64 (b / 2 + 1), .int .i64 0, .int .i64 0, .int .i64 0, .int .u64 0] 55)).alloc (.cells #[.int .u64 0, .int .u64 0, .int .u64 0, .int .u64 0] 126)).drew (by (focus (repeat' (first | (with_reducible exact Below.refl _ _) | (with_reducible assumption) | (with_reducible refine Below.alloc ?_ ?_ _) | (with_reducible refine below_drewN ?_ _) | (with_reducible refine Below.drew ?_) | (with_reducible refine Below.setCell ?_ ?_ _) | omega | (simp; done) | (simp; omega)))))).cut' (k := 1) (by omega) hc
      rw [if_pos hc1] at hr
      exact ⟨0, [], r0, _, n, _, by omega, rfl, rfl, rfl, hr, by omega, by omega, Lib.hid rfl, ((Blk.mk_ w 55 _ _ rfl).alloc _).drew, (Blk.mk_ _ 126 _ _ (by simp)).drew, (fun _ h => by cases h), rfl, by (focus (repeat' (first | (with_reducible exact Below.refl _ _) | (with_reducible assumption) | (with_reducible refine Below.alloc ?_ ?_ _) | (with_reducible refine below_drewN ?_ _) | (with_reducible refine Below.drew ?_) | (with_reducible refine Below.setCell ?_ ?_ _) | omega | (simp; done) | (simp; omega))))⟩
    case round =>
      obtain ⟨k, l, r, A1, n1, c1, hk, hll, rfl, rfl, hr, hn1, hc1', HG, hb1, hb2, hl64, hAb, hB⟩ := hrel
      have HRB : Hid (∀ W, Below w.heap.size w W → Rp W B p q x) := Lib.hid HR.out
      have HB1 := Lib.hid hb1
      have HB2 := Lib.hid hb2
      have HRR := Lib.hid hr
      have HL64 := Lib.hid hl64
      have hz1 := hb1.lt
      have hz2 := hb2.lt
      have hrl := hr.length
      clear hc1 hb1 hb2 hr hl64 HX
      by_cases hlt : k < 4
      · have hlt' : (k : Int) < 4 := by omega
        have hgl := getS_le r
        have HGS := Lib.hid (gets_snoc k r0)
        have HGB := Lib.hid (getS_back (xs := r) HRR.out.2)
        go_wp2_with fail
        refine (get_any A1 n1 c1 r _ HRR.out (by omega)).mono ?_
        rintro e w2 ⟨rfl, rfl⟩
        generalize hG : getS r = G at *
        obtain ⟨gv, gs⟩ := G
        simp only at hgl HGB ⊢
        have HGE := Lib.hid hG
        clear hG
        rcases Nat.eq_zero_or_pos gs with hs | hs
        · subst hs
          have HN : Hid (nextS q.last (b :: r0) = none) := Lib.hid (by
            have h1 : getsN (k + 1) r0 = none := by rw [HGS.out, HG.out]; simp [HGE.out]
            have h2 := gets_none h1 (3 - k)
            rw [show k + 1 + (3 - k) = 4 by omega] at h2
            rw [next_gets, h2]
            rfl)
          have v0 := (HB1.out.at_ 0).trans rfl
          have v1 := (HB1.out.at_ 1).trans rfl
          have v2 := (HB1.out.at_ 2).trans rfl
          have v3 := (HB1.out.at_ 3).trans rfl
          have v4 := (HB1.out.at_ 4).trans rfl
          have v5 := (HB1.out.at_ 5).trans rfl
          have g0 := HB1.out.free 0
          have g1 := HB1.out.free 1
          have g2 := HB1.out.free 2
          have g3 := HB1.out.free 3
          have g4 := HB1.out.free 4
          have g5 := HB1.out.free 5
          go_wp2
          refine bodyPost_ret (v := .tuple #[.agg #[.int .i64 (b % 2), .int .i64 (b / 2 + 1), .int .i64 0, .int .i64 0, .int .i64 0, .int .u64 0], .bool false]) (by simp [results, Tryd.results49, go_sem, v0, v1, v2, v3, v4, v5, hz1]) rfl ⟨⟨b % 2, b / 2 + 1, 0, 0, 0, 0⟩, false, rfl, HN.out, ?_⟩
          (focus (repeat' (first | (with_reducible exact Below.refl _ _) | (with_reducible assumption) | (with_reducible refine Below.alloc ?_ ?_ _) | (with_reducible refine below_drewN ?_ _) | (with_reducible refine Below.drew ?_) | (with_reducible refine Below.setCell ?_ ?_ _) | omega | (simp; done) | (simp; omega))))
        · have hgv : Hid (gv < 2 ^ 64) := Lib.hid (by
            obtain ⟨_, _, _, h2⟩ := HGB.out (by omega)
            exact h2)
          obtain ⟨u, hu, _⟩ := arr4_at l hlt
          have a0 := (HB2.out.at_ k).trans hu
          have f0 := HB2.out.free k
          have HPUT : Hid ((arr4 l).setIfInBounds k (.int .u64 gv) = arr4 (l ++ [gv])) := Lib.hid (arr4_put hll hlt)
          have HNX : Hid (getsN (k + 1) r0 = some (l ++ [gv], r.drop gs)) := Lib.hid (by
            rw [HGS.out, HG.out]
            simp only [Option.bind_some, HGE.out]
            rw [if_neg (by omega)])
          have HCUT := Lib.hid (HRR.out.cut' (k := gs) (by omega) hn1)
          have hgs : (gs == 0) = false := by simp; omega
          have hgsi : ((gs : Int) == 0) = false := by simp; omega
          have hgs1 : (gs : Int) ≤ n1 := by omega
          obtain ⟨ad1, hA1, _⟩ := HRR.out.1.2 (by omega)
          subst hA1
          have hab : ad1.block = ad.block := by injection hAb
          have HAB := Lib.hid hab
          clear hab hAb
          by_cases hcs : c1 = gs
          · have HCS := Lib.hid hcs
            go_wp2
            refine wp_region_sched (fun _ => True) [0,1,2,3,4,5] (.one 6 [7] .done) (by kernel_rfl) (by kernel_rfl) (fun d _ _ _ _ h => by cases d <;> exact h) trivial ?_
            simp only [opsAt, List.getElem?_toArray, List.getElem?_cons_succ, List.getElem?_cons_zero]
            repeat (go_big_quiet_step (fail))
            refine wpQuiet_nil ?_
            (refine eff_lit rfl rfl (fun K hK => ?_))
            go_big_op
            refine hK _ _ trivial ?_
            clear hK K
            simp only [opsAt, List.getElem?_toArray, List.getElem?_cons_succ, List.getElem?_cons_zero]
            repeat (go_big_quiet_step (fail))
            refine wpQuiet_nil ?_
            refine effs_done ?_
            go_wp2
            go_roundw
            case rel =>
              have hb3 := (HB2.out.drew).put k (.int .u64 gv)
              rw [HPUT.out] at hb3
              have hcut := HCUT.out
              rw [if_pos HCS.out] at hcut
              exact ⟨k + 1, l ++ [gv], r.drop gs, _, _, _, by omega, by simp [hll], by go_num, rfl, (BReads.grown hcut (grown_drew (only_setCell (p := ⟨w.heap.size + 1, k, none⟩) (g := w.heap.size + 1) (only_refl wr _) (.inl rfl) (.int .u64 gv))) (fun _ e => by (simp [blkOf, block_of_add] at e; have := HAB.out; omega))), by omega, by omega, Lib.hid HNX.out, (HB1.out.far (by simp) _).drew, hb3, (fun z hz => by
                rcases List.mem_append.1 hz with hz | hz
                · exact HL64.out z hz
                · rw [List.mem_singleton] at hz; subst hz; exact hgv.out), (by simp [blkOf, block_of_add]; exact HAB.out), by (focus (repeat' (first | (with_reducible exact Below.refl _ _) | (with_reducible assumption) | (with_reducible refine Below.alloc ?_ ?_ _) | (with_reducible refine below_drewN ?_ _) | (with_reducible refine Below.drew ?_) | (with_reducible refine Below.setCell ?_ ?_ _) | omega | (simp; done) | (simp; omega))))⟩
            case measure => simp [intOf]; omega
          · have HCS := Lib.hid hcs
            go_wp2
            refine wp_region_sched (fun _ => True) [0,1,2,3,4,5] (.one 6 [7] .done) (by kernel_rfl) (by kernel_rfl) (fun d _ _ _ _ h => by cases d <;> exact h) trivial ?_
            simp only [opsAt, List.getElem?_toArray, List.getElem?_cons_succ, List.getElem?_cons_zero]
            repeat (go_big_quiet_step (fail))
            refine wpQuiet_nil ?_
            (refine eff_lit rfl rfl (fun K hK => ?_))
            go_big_op
            refine hK _ _ trivial ?_
            clear hK K
            simp only [opsAt, List.getElem?_toArray, List.getElem?_cons_succ, List.getElem?_cons_zero]
            repeat (go_big_quiet_step (fail))
            refine wpQuiet_nil ?_
            refine effs_done ?_
            go_wp2
            go_roundw
            case rel =>
              have hb3 := (HB2.out.drew).put k (.int .u64 gv)
              rw [HPUT.out] at hb3
              have hcut := HCUT.out
              rw [if_neg HCS.out] at hcut
              exact ⟨k + 1, l ++ [gv], r.drop gs, some (ad1.add gs), n1 - gs, c1 - gs, by omega, by simp [hll], by go_num, (by first | rfl | simp [Addr.add]), (BReads.grown hcut (grown_drew (only_setCell (p := ⟨w.heap.size + 1, k, none⟩) (g := w.heap.size + 1) (only_refl wr _) (.inl rfl) (.int .u64 gv))) (fun _ e => by (simp [blkOf, block_of_add] at e; have := HAB.out; omega))), by omega, by omega, Lib.hid HNX.out, (HB1.out.far (by simp) _).drew, hb3, (fun z hz => by
                rcases List.mem_append.1 hz with hz | hz
                · exact HL64.out z hz
                · rw [List.mem_singleton] at hz; subst hz; exact hgv.out), (by simp [blkOf, block_of_add]; exact HAB.out), by (focus (repeat' (first | (with_reducible exact Below.refl _ _) | (with_reducible assumption) | (with_reducible refine Below.alloc ?_ ?_ _) | (with_reducible refine below_drewN ?_ _) | (with_reducible refine Below.drew ?_) | (with_reducible refine Below.setCell ?_ ?_ _) | omega | (simp; done) | (simp; omega))))⟩
            case measure => simp [intOf]; omega
      · obtain rfl : k = 4 := by omega
        obtain ⟨v0, v1, v2, v3, rfl⟩ : ∃ v0 v1 v2 v3 : Nat, l = [v0, v1, v2, v3] := by
          match l, hll with
          | [a, b, c, d], _ => exact ⟨a, b, c, d, rfl⟩
        have hb2 : Blk wr (w.heap.size + 1) 126 #[.int .u64 (v0 : Nat), .int .u64 (v1 : Nat), .int .u64 (v2 : Nat), .int .u64 (v3 : Nat)] := HB2.out
        have HN : Hid (nextS q.last (b :: r0) = nextOf q.last b (some ([v0, v1, v2, v3], r))) := Lib.hid (by rw [next_gets, HG.out])
        have h640 := HL64.out v0 (by simp)
        have h641 := HL64.out v1 (by simp)
        have h642 := HL64.out v2 (by simp)
        have h643 := HL64.out v3 (by simp)
        have hlast := (HRB.out _ hB).ok.last0
        have HQ : Hid (∀ s : Later wr.heap.size wr, Rp s.W B p q x) := Lib.hid fun s => HRB.out _ (hB.trans (s.h.mono (by omega)))
        have c0 : ∀ s : Later wr.heap.size wr, s.W.cell? ⟨w.heap.size + 1, 0, none⟩ = some (.int .u64 (v0 : Nat)) := fun s => ((hb2.below s.h hz2).at_ 0).trans rfl
        have c1 : ∀ s : Later wr.heap.size wr, s.W.cell? ⟨w.heap.size + 1, 1, none⟩ = some (.int .u64 (v1 : Nat)) := fun s => ((hb2.below s.h hz2).at_ 1).trans rfl
        have c2 : ∀ s : Later wr.heap.size wr, s.W.cell? ⟨w.heap.size + 1, 2, none⟩ = some (.int .u64 (v2 : Nat)) := fun s => ((hb2.below s.h hz2).at_ 2).trans rfl
        have c3 : ∀ s : Later wr.heap.size wr, s.W.cell? ⟨w.heap.size + 1, 3, none⟩ = some (.int .u64 (v3 : Nat)) := fun s => ((hb2.below s.h hz2).at_ 3).trans rfl
        clear hn1 hc1' hll HRR HG hb2
        by_cases hbig : 65535 < v0 ∨ 65535 < v1 ∨ 65535 < v2
        · have HC : Hid (65535 < v0 ∨ 65535 < v1 ∨ 65535 < v2 ∨ 18446744073709551615 - q.last < ((v3 : Nat) : Int)) := Lib.hid (by omega)
          obtain ⟨M, hMx, hM⟩ : ∃ M : Int, (if (if v0 < v1 then (v1 : Int) else (v0 : Int)) < (v2 : Int) then (v2 : Int) else if v0 < v1 then (v1 : Int) else (v0 : Int)) = M ∧ 65535 < M := ⟨_, rfl, by (repeat' split) <;> omega⟩
          clear hbig
          go_wp2
          refine wp_region_later (B := wr.heap.size) (w0 := wr) (Below.refl _ _) (by kernel_rfl) (by kernel_rfl) ?_
          repeat (go_big_quiet_step ((first
            | (go_at_call 28; with_reducible exact Calls.later (Nat.le_refl _) (last_any B p q x _ (HQ.out _))))))
          refine wpQuiet_nil ?_
          intro _ hw'
          obtain ⟨s, hw2⟩ := hw'
          subst hw2
          obtain ⟨w2, hb2⟩ := s
          have hk2 := Lib.hid (HB1.out.call hb2)
          have hz3 := hk2.out.lt
          have hB2 : Below w.heap.size w w2 := hB.trans (hb2.mono (by omega))
          have y0 := (hk2.out.at_ 0).trans rfl
          have y1 := (hk2.out.at_ 1).trans rfl
          have y2 := (hk2.out.at_ 2).trans rfl
          have y3 := (hk2.out.at_ 3).trans rfl
          have y4 := (hk2.out.at_ 4).trans rfl
          have y5 := (hk2.out.at_ 5).trans rfl
          have g0 := hk2.out.free 0
          have g1 := hk2.out.free 1
          have g2 := hk2.out.free 2
          have g3 := hk2.out.free 3
          have g4 := hk2.out.free 4
          have g5 := hk2.out.free 5
          clear c0 c1 c2 c3
          go_wp2
          refine bodyPost_ret (v := .tuple #[.agg #[.int .i64 (b % 2), .int .i64 (b / 2 + 1), .int .i64 0, .int .i64 0, .int .i64 0, .int .u64 0], .bool false]) (by simp [results, Tryd.results49, go_sem, y0, y1, y2, y3, y4, y5, hz3]) rfl ⟨⟨b % 2, b / 2 + 1, 0, 0, 0, 0⟩, false, rfl, ?_, ?_⟩
          · rw [HN.out]
            simp only [nextOf, List.getD_cons_zero, List.getD_cons_succ]
            rw [if_pos HC.out]
            rfl
          · (focus (repeat' (first | (with_reducible exact Below.refl _ _) | (with_reducible assumption) | (with_reducible refine Below.alloc ?_ ?_ _) | (with_reducible refine below_drewN ?_ _) | (with_reducible refine Below.drew ?_) | (with_reducible refine Below.setCell ?_ ?_ _) | omega | (simp; done) | (simp; omega))))
        · obtain ⟨hs0, hs1, hs2⟩ : v0 ≤ 65535 ∧ v1 ≤ 65535 ∧ v2 ≤ 65535 := by omega
          obtain ⟨M, hMx, hM⟩ : ∃ M : Int, (if (if v0 < v1 then (v1 : Int) else (v0 : Int)) < (v2 : Int) then (v2 : Int) else if v0 < v1 then (v1 : Int) else (v0 : Int)) = M ∧ decide ((65535 : Int) < M) = false := ⟨_, rfl, by rw [decide_eq_false_iff_not]; (repeat' split) <;> omega⟩
          clear hbig
          by_cases hov : 18446744073709551615 - q.last < (v3 : Int)
          · have HC : Hid (65535 < v0 ∨ 65535 < v1 ∨ 65535 < v2 ∨ 18446744073709551615 - q.last < ((v3 : Nat) : Int)) := Lib.hid (by omega)
            go_wp2
            refine wp_region_later (B := wr.heap.size) (w0 := wr) (Below.refl _ _) (by kernel_rfl) (by kernel_rfl) ?_
            repeat (go_big_quiet_step ((first
              | (go_at_call 28; with_reducible exact Calls.later (Nat.le_refl _) (last_any B p q x _ (HQ.out _))))))
            refine wpQuiet_nil ?_
            intro _ hw'
            obtain ⟨s, hw2⟩ := hw'
            subst hw2
            obtain ⟨w2, hb2⟩ := s
            have hk2 := Lib.hid (HB1.out.call hb2)
            have hz3 := hk2.out.lt
            have hB2 : Below w.heap.size w w2 := hB.trans (hb2.mono (by omega))
            have y0 := (hk2.out.at_ 0).trans rfl
            have y1 := (hk2.out.at_ 1).trans rfl
            have y2 := (hk2.out.at_ 2).trans rfl
            have y3 := (hk2.out.at_ 3).trans rfl
            have y4 := (hk2.out.at_ 4).trans rfl
            have y5 := (hk2.out.at_ 5).trans rfl
            have g0 := hk2.out.free 0
            have g1 := hk2.out.free 1
            have g2 := hk2.out.free 2
            have g3 := hk2.out.free 3
            have g4 := hk2.out.free 4
            have g5 := hk2.out.free 5
            clear c0 c1 c2 c3
            go_wp2
            refine bodyPost_ret (v := .tuple #[.agg #[.int .i64 (b % 2), .int .i64 (b / 2 + 1), .int .i64 0, .int .i64 0, .int .i64 0, .int .u64 0], .bool false]) (by simp [results, Tryd.results49, go_sem, y0, y1, y2, y3, y4, y5, hz3]) rfl ⟨⟨b % 2, b / 2 + 1, 0, 0, 0, 0⟩, false, rfl, ?_, ?_⟩
            · rw [HN.out]
              simp only [nextOf, List.getD_cons_zero, List.getD_cons_succ]
              rw [if_pos HC.out]
              rfl
            · (focus (repeat' (first | (with_reducible exact Below.refl _ _) | (with_reducible assumption) | (with_reducible refine Below.alloc ?_ ?_ _) | (with_reducible refine below_drewN ?_ _) | (with_reducible refine Below.drew ?_) | (with_reducible refine Below.setCell ?_ ?_ _) | omega | (simp; done) | (simp; omega))))
          · have HC : Hid (¬ (65535 < v0 ∨ 65535 < v1 ∨ 65535 < v2 ∨ 18446744073709551615 - q.last < ((v3 : Nat) : Int))) := Lib.hid (by omega)
            go_wp2
            refine wp_region_later (B := wr.heap.size) (w0 := wr) (Below.refl _ _) (by kernel_rfl) (by kernel_rfl) ?_
            repeat (go_big_quiet_step ((first
              | (go_at_call 28; with_reducible exact Calls.later (Nat.le_refl _) (last_any B p q x _ (HQ.out _))))))
            refine wpQuiet_nil ?_
            intro _ hw'
            obtain ⟨s, hw2⟩ := hw'
            subst hw2
            obtain ⟨w2, hb2⟩ := s
            have hk2 := Lib.hid (HB1.out.call hb2)
            have hz3 := hk2.out.lt
            have hB2 : Below w.heap.size w w2 := hB.trans (hb2.mono (by omega))
            clear c0 c1 c2 c3
            have hl2 := (HB2.out.call hb2)
            have hl2 : Blk w2 (w.heap.size + 1) 126 #[.int .u64 (v0 : Nat), .int .u64 (v1 : Nat), .int .u64 (v2 : Nat), .int .u64 (v3 : Nat)] := hl2
            have HL2 := Lib.hid hl2
            have a0 := (hl2.at_ 0).trans rfl
            have a1 := (hl2.at_ 1).trans rfl
            have a2 := (hl2.at_ 2).trans rfl
            have y2 := (hk2.out.at_ 2).trans rfl
            have y3 := (hk2.out.at_ 3).trans rfl
            have y4 := (hk2.out.at_ 4).trans rfl
            have g2 := hk2.out.free 2
            have g3 := hk2.out.free 3
            have g4 := hk2.out.free 4
            clear hl2
            go_wp2
            have hK3 : Blk (((w2.setCell ⟨w.heap.size, 2, none⟩ (.int .i64 v0)).setCell ⟨w.heap.size, 3, none⟩ (.int .i64 v1)).setCell ⟨w.heap.size, 4, none⟩ (.int .i64 v2)) w.heap.size 55 #[.int .i64 (b % 2), .int .i64 (b / 2 + 1), .int .i64 (v0 : Nat), .int .i64 (v1 : Nat), .int .i64 (v2 : Nat), .int .u64 0] := ((hk2.out.put 2 (.int .i64 v0)).put 3 (.int .i64 v1)).put 4 (.int .i64 v2)
            have hL3 : Blk (((w2.setCell ⟨w.heap.size, 2, none⟩ (.int .i64 v0)).setCell ⟨w.heap.size, 3, none⟩ (.int .i64 v1)).setCell ⟨w.heap.size, 4, none⟩ (.int .i64 v2)) (w.heap.size + 1) 126 #[.int .u64 (v0 : Nat), .int .u64 (v1 : Nat), .int .u64 (v2 : Nat), .int .u64 (v3 : Nat)] := ((HL2.out.far (by simp) _).far (by simp) _).far (by simp) _
            have hB3 : Below w.heap.size w (((w2.setCell ⟨w.heap.size, 2, none⟩ (.int .i64 v0)).setCell ⟨w.heap.size, 3, none⟩ (.int .i64 v1)).setCell ⟨w.heap.size, 4, none⟩ (.int .i64 v2)) := ((hB2.setCell (Nat.le_refl _) _).setCell (Nat.le_refl _) _).setCell (Nat.le_refl _) _
            generalize (((w2.setCell ⟨w.heap.size, 2, none⟩ (.int .i64 v0)).setCell ⟨w.heap.size, 3, none⟩ (.int .i64 v1)).setCell ⟨w.heap.size, 4, none⟩ (.int .i64 v2)) = w3 at *
            have K3 := Lib.hid hK3
            have L3 := Lib.hid hL3
            have hsum : q.last + (v3 : Int) ≤ 18446744073709551615 := by omega
            clear hK3 hL3 a0 a1 a2 y2 y3 y4 g2 g3 g4 hk2 HL2 HB1 HB2 hb2 hB2 hz3 hMx hov
            have hNE : Nonempty (In (fun W => Blk W (w.heap.size + 1) 126 #[.int .u64 (v0 : Nat), .int .u64 (v1 : Nat), .int .u64 (v2 : Nat), .int .u64 (v3 : Nat)])) := ⟨⟨_, L3.out⟩⟩
            have e3 : ∀ s : In (fun W => Blk W (w.heap.size + 1) 126 #[.int .u64 (v0 : Nat), .int .u64 (v1 : Nat), .int .u64 (v2 : Nat), .int .u64 (v3 : Nat)]), s.W.cell? ⟨w.heap.size + 1, 3, none⟩ = some (.int .u64 (v3 : Nat)) := fun s => (s.h.at_ 3).trans rfl
            refine wp_region_sched (fun w' => ∃ s : In (fun W => Blk W (w.heap.size + 1) 126 #[.int .u64 (v0 : Nat), .int .u64 (v1 : Nat), .int .u64 (v2 : Nat), .int .u64 (v3 : Nat)]), w' = s.W) [0,2,3] (.one 1 [4,5] (.one 6 [] .done)) (by kernel_rfl) (by kernel_rfl) (fun d _ _ _ _ h => by cases d <;> exact h) ⟨⟨_, L3.out.drew⟩, rfl⟩ ?_
            simp only [opsAt, List.getElem?_toArray, List.getElem?_cons_succ, List.getElem?_cons_zero]
            repeat (go_big_quiet_step (fail))
            refine wpQuiet_nil ?_
            (refine eff_lit rfl rfl (fun K hK => ?_))
            go_big_op
            refine (last_any B p q x _ (HRB.out _ hB3.drew)).mono ?_
            rintro e w4 ⟨rfl, hb4⟩
            have hb4' : Below w3.heap.size w3 w4 := Below.trans ((Below.refl _ _).drew) hb4
            refine hK _ _ ⟨⟨_, L3.out.call hb4'⟩, rfl⟩ ?_
            clear hK K
            simp only [opsAt, List.getElem?_toArray, List.getElem?_cons_succ, List.getElem?_cons_zero]
            repeat (go_big_quiet_step (fail))
            refine wpQuiet_nil ?_
            have K4 := Lib.hid (K3.out.call hb4')
            have L4 := Lib.hid (L3.out.call hb4')
            have y5 := (K4.out.at_ 5).trans rfl
            have g5 := K4.out.free 5
            have hz5 := K4.out.lt
            (refine eff_lit rfl rfl (fun K hK => ?_))
            go_big_op
            refine hK _ _ ⟨⟨_, L4.out.far (by simp) _⟩, rfl⟩ ?_
            clear hK K y5 g5 e3 hNE
            simp only [opsAt, List.getElem?_toArray, List.getElem?_cons_succ, List.getElem?_cons_zero]
            refine wpQuiet_nil ?_
            refine effs_done ?_
            have hK5 : Blk (w4.setCell ⟨w.heap.size, 5, none⟩ (.int .u64 (q.last + (v3 : Nat)))) w.heap.size 55 #[.int .i64 (b % 2), .int .i64 (b / 2 + 1), .int .i64 (v0 : Nat), .int .i64 (v1 : Nat), .int .i64 (v2 : Nat), .int .u64 (q.last + (v3 : Nat))] := K4.out.put 5 _
            have hB5 : Below w.heap.size w (w4.setCell ⟨w.heap.size, 5, none⟩ (.int .u64 (q.last + (v3 : Nat)))) := (hB3.trans (hb4'.mono (by have := K3.out.lt; omega))).setCell (Nat.le_refl _) _
            generalize w4.setCell ⟨w.heap.size, 5, none⟩ (.int .u64 (q.last + (v3 : Nat))) = w5 at *
            have K4 := Lib.hid hK5
            clear hK5
            have y0 := (K4.out.at_ 0).trans rfl
            have g0 := K4.out.free 0
            have y1 := (K4.out.at_ 1).trans rfl
            have g1 := K4.out.free 1
            have y2 := (K4.out.at_ 2).trans rfl
            have g2 := K4.out.free 2
            have y3 := (K4.out.at_ 3).trans rfl
            have g3 := K4.out.free 3
            have y4 := (K4.out.at_ 4).trans rfl
            have g4 := K4.out.free 4
            have y5 := (K4.out.at_ 5).trans rfl
            have g5 := K4.out.free 5
            have hz5 := K4.out.lt
            go_wp2
            refine bodyPost_ret (v := .tuple #[.agg #[.int .i64 (b % 2), .int .i64 (b / 2 + 1), .int .i64 (v0 : Nat), .int .i64 (v1 : Nat), .int .i64 (v2 : Nat), .int .u64 (q.last + (v3 : Nat))], .bool true]) (by simp [results, Tryd.results49, go_sem, y0, y1, y2, y3, y4, y5, hz5]) rfl ⟨⟨b % 2, b / 2 + 1, v0, v1, v2, q.last + (v3 : Nat)⟩, true, rfl, ?_, ?_⟩
            · rw [HN.out]
              simp only [nextOf, List.getD_cons_zero, List.getD_cons_succ, mkMove]
              rw [if_neg HC.out]
              rfl
            · (focus (repeat' (first | (with_reducible exact Below.refl _ _) | (with_reducible assumption) | (with_reducible refine Below.alloc ?_ ?_ _) | (with_reducible refine below_drewN ?_ _) | (with_reducible refine Below.drew ?_) | (with_reducible refine Below.setCell ?_ ?_ _) | omega | (simp; done) | (simp; omega))))

  · go_wp2
    go_loopw [1, 29] (fun v i W => ∃ (k : Nat) (l : List Nat) (r : List Int) (A1 : Option Addr) (n1 c1 : Nat), k ≤ 4 ∧ l.length = k ∧ i = .int .i64 k ∧ v = .slice A1 n1 c1 ∧ BReads W A1 n1 r ∧ n1 ≤ c1 ∧ c1 ≤ 9223372036854775807 ∧ Hid (getsN k r0 = some (l, r)) ∧ Blk W w.heap.size 55 #[.int .i64 (b % 2), .int .i64 (b / 2 + 1), .int .i64 0, .int .i64 0, .int .i64 0, .int .u64 0] ∧ Blk W (w.heap.size + 1) 126 (arr4 l) ∧ (∀ z ∈ l, z < 2 ^ 64) ∧ blkOf A1 = some ad.block ∧ Below w.heap.size w W) (fun _ i _ => 4 - (intOf i).toNat)
    case atStart =>
      have hr := (HX.out ((w.alloc (.cells #[.int .i64 (b % 2), .int .i64 (b / 2 + 1), .int .i64 0, .int .i64 0, .int .i64 0, .int .u64 0] 55)).alloc (.cells #[.int .u64 0, .int .u64 0, .int .u64 0, .int .u64 0] 126)).drew (by (focus (repeat' (first | (with_reducible exact Below.refl _ _) | (with_reducible assumption) | (with_reducible refine Below.alloc ?_ ?_ _) | (with_reducible refine below_drewN ?_ _) | (with_reducible refine Below.drew ?_) | (with_reducible refine Below.setCell ?_ ?_ _) | omega | (simp; done) | (simp; omega)))))).cut' (k := 1) (by omega) hc
      rw [if_neg hc1] at hr
      exact ⟨0, [], r0, _, n, _, by omega, rfl, rfl, rfl, (by simpa [Addr.add] using hr), by omega, by omega, Lib.hid rfl, ((Blk.mk_ w 55 _ _ rfl).alloc _).drew, (Blk.mk_ _ 126 _ _ (by simp)).drew, (fun _ h => by cases h), rfl, by (focus (repeat' (first | (with_reducible exact Below.refl _ _) | (with_reducible assumption) | (with_reducible refine Below.alloc ?_ ?_ _) | (with_reducible refine below_drewN ?_ _) | (with_reducible refine Below.drew ?_) | (with_reducible refine Below.setCell ?_ ?_ _) | omega | (simp; done) | (simp; omega))))⟩
    case round =>
      obtain ⟨k, l, r, A1, n1, c1, hk, hll, rfl, rfl, hr, hn1, hc1', HG, hb1, hb2, hl64, hAb, hB⟩ := hrel
      have HRB : Hid (∀ W, Below w.heap.size w W → Rp W B p q x) := Lib.hid HR.out
      have HB1 := Lib.hid hb1
      have HB2 := Lib.hid hb2
      have HRR := Lib.hid hr
      have HL64 := Lib.hid hl64
      have hz1 := hb1.lt
      have hz2 := hb2.lt
      have hrl := hr.length
      clear hc1 hb1 hb2 hr hl64 HX
      by_cases hlt : k < 4
      · have hlt' : (k : Int) < 4 := by omega
        have hgl := getS_le r
        have HGS := Lib.hid (gets_snoc k r0)
        have HGB := Lib.hid (getS_back (xs := r) HRR.out.2)
        go_wp2_with fail
        refine (get_any A1 n1 c1 r _ HRR.out (by omega)).mono ?_
        rintro e w2 ⟨rfl, rfl⟩
        generalize hG : getS r = G at *
        obtain ⟨gv, gs⟩ := G
        simp only at hgl HGB ⊢
        have HGE := Lib.hid hG
        clear hG
        rcases Nat.eq_zero_or_pos gs with hs | hs
        · subst hs
          have HN : Hid (nextS q.last (b :: r0) = none) := Lib.hid (by
            have h1 : getsN (k + 1) r0 = none := by rw [HGS.out, HG.out]; simp [HGE.out]
            have h2 := gets_none h1 (3 - k)
            rw [show k + 1 + (3 - k) = 4 by omega] at h2
            rw [next_gets, h2]
            rfl)
          have v0 := (HB1.out.at_ 0).trans rfl
          have v1 := (HB1.out.at_ 1).trans rfl
          have v2 := (HB1.out.at_ 2).trans rfl
          have v3 := (HB1.out.at_ 3).trans rfl
          have v4 := (HB1.out.at_ 4).trans rfl
          have v5 := (HB1.out.at_ 5).trans rfl
          have g0 := HB1.out.free 0
          have g1 := HB1.out.free 1
          have g2 := HB1.out.free 2
          have g3 := HB1.out.free 3
          have g4 := HB1.out.free 4
          have g5 := HB1.out.free 5
          go_wp2
          refine bodyPost_ret (v := .tuple #[.agg #[.int .i64 (b % 2), .int .i64 (b / 2 + 1), .int .i64 0, .int .i64 0, .int .i64 0, .int .u64 0], .bool false]) (by simp [results, Tryd.results49, go_sem, v0, v1, v2, v3, v4, v5, hz1]) rfl ⟨⟨b % 2, b / 2 + 1, 0, 0, 0, 0⟩, false, rfl, HN.out, ?_⟩
          (focus (repeat' (first | (with_reducible exact Below.refl _ _) | (with_reducible assumption) | (with_reducible refine Below.alloc ?_ ?_ _) | (with_reducible refine below_drewN ?_ _) | (with_reducible refine Below.drew ?_) | (with_reducible refine Below.setCell ?_ ?_ _) | omega | (simp; done) | (simp; omega))))
        · have hgv : Hid (gv < 2 ^ 64) := Lib.hid (by
            obtain ⟨_, _, _, h2⟩ := HGB.out (by omega)
            exact h2)
          obtain ⟨u, hu, _⟩ := arr4_at l hlt
          have a0 := (HB2.out.at_ k).trans hu
          have f0 := HB2.out.free k
          have HPUT : Hid ((arr4 l).setIfInBounds k (.int .u64 gv) = arr4 (l ++ [gv])) := Lib.hid (arr4_put hll hlt)
          have HNX : Hid (getsN (k + 1) r0 = some (l ++ [gv], r.drop gs)) := Lib.hid (by
            rw [HGS.out, HG.out]
            simp only [Option.bind_some, HGE.out]
            rw [if_neg (by omega)])
          have HCUT := Lib.hid (HRR.out.cut' (k := gs) (by omega) hn1)
          have hgs : (gs == 0) = false := by simp; omega
          have hgsi : ((gs : Int) == 0) = false := by simp; omega
          have hgs1 : (gs : Int) ≤ n1 := by omega
          obtain ⟨ad1, hA1, _⟩ := HRR.out.1.2 (by omega)
          subst hA1
          have hab : ad1.block = ad.block := by injection hAb
          have HAB := Lib.hid hab
          clear hab hAb
          by_cases hcs : c1 = gs
          · have HCS := Lib.hid hcs
            go_wp2
            refine wp_region_sched (fun _ => True) [0,1,2,3,4,5] (.one 6 [7] .done) (by kernel_rfl) (by kernel_rfl) (fun d _ _ _ _ h => by cases d <;> exact h) trivial ?_
            simp only [opsAt, List.getElem?_toArray, List.getElem?_cons_succ, List.getElem?_cons_zero]
            repeat (go_big_quiet_step (fail))
            refine wpQuiet_nil ?_
            (refine eff_lit rfl rfl (fun K hK => ?_))
            go_big_op
            refine hK _ _ trivial ?_
            clear hK K
            simp only [opsAt, List.getElem?_toArray, List.getElem?_cons_succ, List.getElem?_cons_zero]
            repeat (go_big_quiet_step (fail))
            refine wpQuiet_nil ?_
            refine effs_done ?_
            go_wp2
            go_roundw
            case rel =>
              have hb3 := (HB2.out.drew).put k (.int .u64 gv)
              rw [HPUT.out] at hb3
              have hcut := HCUT.out
              rw [if_pos HCS.out] at hcut
              exact ⟨k + 1, l ++ [gv], r.drop gs, _, _, _, by omega, by simp [hll], by go_num, rfl, (BReads.grown hcut (grown_drew (only_setCell (p := ⟨w.heap.size + 1, k, none⟩) (g := w.heap.size + 1) (only_refl wr _) (.inl rfl) (.int .u64 gv))) (fun _ e => by (simp [blkOf, block_of_add] at e; have := HAB.out; omega))), by omega, by omega, Lib.hid HNX.out, (HB1.out.far (by simp) _).drew, hb3, (fun z hz => by
                rcases List.mem_append.1 hz with hz | hz
                · exact HL64.out z hz
                · rw [List.mem_singleton] at hz; subst hz; exact hgv.out), (by simp [blkOf, block_of_add]; exact HAB.out), by (focus (repeat' (first | (with_reducible exact Below.refl _ _) | (with_reducible assumption) | (with_reducible refine Below.alloc ?_ ?_ _) | (with_reducible refine below_drewN ?_ _) | (with_reducible refine Below.drew ?_) | (with_reducible refine Below.setCell ?_ ?_ _) | omega | (simp; done) | (simp; omega))))⟩
            case measure => simp [intOf]; omega
          · have HCS := Lib.hid hcs
            go_wp2
            refine wp_region_sched (fun _ => True) [0,1,2,3,4,5] (.one 6 [7] .done) (by kernel_rfl) (by kernel_rfl) (fun d _ _ _ _ h => by cases d <;> exact h) trivial ?_
            simp only [opsAt, List.getElem?_toArray, List.getElem?_cons_succ, List.getElem?_cons_zero]
            repeat (go_big_quiet_step (fail))
            refine wpQuiet_nil ?_
            (refine eff_lit rfl rfl (fun K hK => ?_))
            go_big_op
            refine hK _ _ trivial ?_
            clear hK K
            simp only [opsAt, List.getElem?_toArray, List.getElem?_cons_succ, List.getElem?_cons_zero]
            repeat (go_big_quiet_step (fail))
            refine wpQuiet_nil ?_
            refine effs_done ?_
            go_wp2
            go_roundw
            case rel =>
              have hb3 := (HB2.out.drew).put k (.int .u64 gv)
              rw [HPUT.out] at hb3
              have hcut := HCUT.out
              rw [if_neg HCS.out] at hcut
              exact ⟨k + 1, l ++ [gv], r.drop gs, some (ad1.add gs), n1 - gs, c1 - gs, by omega, by simp [hll], by go_num, (by first | rfl | simp [Addr.add]), (BReads.grown hcut (grown_drew (only_setCell (p := ⟨w.heap.size + 1, k, none⟩) (g := w.heap.size + 1) (only_refl wr _) (.inl rfl) (.int .u64 gv))) (fun _ e => by (simp [blkOf, block_of_add] at e; have := HAB.out; omega))), by omega, by omega, Lib.hid HNX.out, (HB1.out.far (by simp) _).drew, hb3, (fun z hz => by
                rcases List.mem_append.1 hz with hz | hz
                · exact HL64.out z hz
                · rw [List.mem_singleton] at hz; subst hz; exact hgv.out), (by simp [blkOf, block_of_add]; exact HAB.out), by (focus (repeat' (first | (with_reducible exact Below.refl _ _) | (with_reducible assumption) | (with_reducible refine Below.alloc ?_ ?_ _) | (with_reducible refine below_drewN ?_ _) | (with_reducible refine Below.drew ?_) | (with_reducible refine Below.setCell ?_ ?_ _) | omega | (simp; done) | (simp; omega))))⟩
            case measure => simp [intOf]; omega
      · obtain rfl : k = 4 := by omega
        obtain ⟨v0, v1, v2, v3, rfl⟩ : ∃ v0 v1 v2 v3 : Nat, l = [v0, v1, v2, v3] := by
          match l, hll with
          | [a, b, c, d], _ => exact ⟨a, b, c, d, rfl⟩
        have hb2 : Blk wr (w.heap.size + 1) 126 #[.int .u64 (v0 : Nat), .int .u64 (v1 : Nat), .int .u64 (v2 : Nat), .int .u64 (v3 : Nat)] := HB2.out
        have HN : Hid (nextS q.last (b :: r0) = nextOf q.last b (some ([v0, v1, v2, v3], r))) := Lib.hid (by rw [next_gets, HG.out])
        have h640 := HL64.out v0 (by simp)
        have h641 := HL64.out v1 (by simp)
        have h642 := HL64.out v2 (by simp)
        have h643 := HL64.out v3 (by simp)
        have hlast := (HRB.out _ hB).ok.last0
        have HQ : Hid (∀ s : Later wr.heap.size wr, Rp s.W B p q x) := Lib.hid fun s => HRB.out _ (hB.trans (s.h.mono (by omega)))
        have c0 : ∀ s : Later wr.heap.size wr, s.W.cell? ⟨w.heap.size + 1, 0, none⟩ = some (.int .u64 (v0 : Nat)) := fun s => ((hb2.below s.h hz2).at_ 0).trans rfl
        have c1 : ∀ s : Later wr.heap.size wr, s.W.cell? ⟨w.heap.size + 1, 1, none⟩ = some (.int .u64 (v1 : Nat)) := fun s => ((hb2.below s.h hz2).at_ 1).trans rfl
        have c2 : ∀ s : Later wr.heap.size wr, s.W.cell? ⟨w.heap.size + 1, 2, none⟩ = some (.int .u64 (v2 : Nat)) := fun s => ((hb2.below s.h hz2).at_ 2).trans rfl
        have c3 : ∀ s : Later wr.heap.size wr, s.W.cell? ⟨w.heap.size + 1, 3, none⟩ = some (.int .u64 (v3 : Nat)) := fun s => ((hb2.below s.h hz2).at_ 3).trans rfl
        clear hn1 hc1' hll HRR HG hb2
        by_cases hbig : 65535 < v0 ∨ 65535 < v1 ∨ 65535 < v2
        · have HC : Hid (65535 < v0 ∨ 65535 < v1 ∨ 65535 < v2 ∨ 18446744073709551615 - q.last < ((v3 : Nat) : Int)) := Lib.hid (by omega)
          obtain ⟨M, hMx, hM⟩ : ∃ M : Int, (if (if v0 < v1 then (v1 : Int) else (v0 : Int)) < (v2 : Int) then (v2 : Int) else if v0 < v1 then (v1 : Int) else (v0 : Int)) = M ∧ 65535 < M := ⟨_, rfl, by (repeat' split) <;> omega⟩
          clear hbig
          go_wp2
          refine wp_region_later (B := wr.heap.size) (w0 := wr) (Below.refl _ _) (by kernel_rfl) (by kernel_rfl) ?_
          repeat (go_big_quiet_step ((first
            | (go_at_call 28; with_reducible exact Calls.later (Nat.le_refl _) (last_any B p q x _ (HQ.out _))))))
          refine wpQuiet_nil ?_
          intro _ hw'
          obtain ⟨s, hw2⟩ := hw'
          subst hw2
          obtain ⟨w2, hb2⟩ := s
          have hk2 := Lib.hid (HB1.out.call hb2)
          have hz3 := hk2.out.lt
          have hB2 : Below w.heap.size w w2 := hB.trans (hb2.mono (by omega))
          have y0 := (hk2.out.at_ 0).trans rfl
          have y1 := (hk2.out.at_ 1).trans rfl
          have y2 := (hk2.out.at_ 2).trans rfl
          have y3 := (hk2.out.at_ 3).trans rfl
          have y4 := (hk2.out.at_ 4).trans rfl
          have y5 := (hk2.out.at_ 5).trans rfl
          have g0 := hk2.out.free 0
          have g1 := hk2.out.free 1
          have g2 := hk2.out.free 2
          have g3 := hk2.out.free 3
          have g4 := hk2.out.free 4
          have g5 := hk2.out.free 5
          clear c0 c1 c2 c3
          go_wp2
          refine bodyPost_ret (v := .tuple #[.agg #[.int .i64 (b % 2), .int .i64 (b / 2 + 1), .int .i64 0, .int .i64 0, .int .i64 0, .int .u64 0], .bool false]) (by simp [results, Tryd.results49, go_sem, y0, y1, y2, y3, y4, y5, hz3]) rfl ⟨⟨b % 2, b / 2 + 1, 0, 0, 0, 0⟩, false, rfl, ?_, ?_⟩
          · rw [HN.out]
            simp only [nextOf, List.getD_cons_zero, List.getD_cons_succ]
            rw [if_pos HC.out]
            rfl
          · (focus (repeat' (first | (with_reducible exact Below.refl _ _) | (with_reducible assumption) | (with_reducible refine Below.alloc ?_ ?_ _) | (with_reducible refine below_drewN ?_ _) | (with_reducible refine Below.drew ?_) | (with_reducible refine Below.setCell ?_ ?_ _) | omega | (simp; done) | (simp; omega))))
        · obtain ⟨hs0, hs1, hs2⟩ : v0 ≤ 65535 ∧ v1 ≤ 65535 ∧ v2 ≤ 65535 := by omega
          obtain ⟨M, hMx, hM⟩ : ∃ M : Int, (if (if v0 < v1 then (v1 : Int) else (v0 : Int)) < (v2 : Int) then (v2 : Int) else if v0 < v1 then (v1 : Int) else (v0 : Int)) = M ∧ decide ((65535 : Int) < M) = false := ⟨_, rfl, by rw [decide_eq_false_iff_not]; (repeat' split) <;> omega⟩
          clear hbig
          by_cases hov : 18446744073709551615 - q.last < (v3 : Int)
          · have HC : Hid (65535 < v0 ∨ 65535 < v1 ∨ 65535 < v2 ∨ 18446744073709551615 - q.last < ((v3 : Nat) : Int)) := Lib.hid (by omega)
            go_wp2
            refine wp_region_later (B := wr.heap.size) (w0 := wr) (Below.refl _ _) (by kernel_rfl) (by kernel_rfl) ?_
            repeat (go_big_quiet_step ((first
              | (go_at_call 28; with_reducible exact Calls.later (Nat.le_refl _) (last_any B p q x _ (HQ.out _))))))
            refine wpQuiet_nil ?_
            intro _ hw'
            obtain ⟨s, hw2⟩ := hw'
            subst hw2
            obtain ⟨w2, hb2⟩ := s
            have hk2 := Lib.hid (HB1.out.call hb2)
            have hz3 := hk2.out.lt
            have hB2 : Below w.heap.size w w2 := hB.trans (hb2.mono (by omega))
            have y0 := (hk2.out.at_ 0).trans rfl
            have y1 := (hk2.out.at_ 1).trans rfl
            have y2 := (hk2.out.at_ 2).trans rfl
            have y3 := (hk2.out.at_ 3).trans rfl
            have y4 := (hk2.out.at_ 4).trans rfl
            have y5 := (hk2.out.at_ 5).trans rfl
            have g0 := hk2.out.free 0
            have g1 := hk2.out.free 1
            have g2 := hk2.out.free 2
            have g3 := hk2.out.free 3
            have g4 := hk2.out.free 4
            have g5 := hk2.out.free 5
            clear c0 c1 c2 c3
            go_wp2
            refine bodyPost_ret (v := .tuple #[.agg #[.int .i64 (b % 2), .int .i64 (b / 2 + 1), .int .i64 0, .int .i64 0, .int .i64 0, .int .u64 0], .bool false]) (by simp [results, Tryd.results49, go_sem, y0, y1, y2, y3, y4, y5, hz3]) rfl ⟨⟨b % 2, b / 2 + 1, 0, 0, 0, 0⟩, false, rfl, ?_, ?_⟩
            · rw [HN.out]
              simp only [nextOf, List.getD_cons_zero, List.getD_cons_succ]
              rw [if_pos HC.out]
              rfl
            · (focus (repeat' (first | (with_reducible exact Below.refl _ _) | (with_reducible assumption) | (with_reducible refine Below.alloc ?_ ?_ _) | (with_reducible refine below_drewN ?_ _) | (with_reducible refine Below.drew ?_) | (with_reducible refine Below.setCell ?_ ?_ _) | omega | (simp; done) | (simp; omega))))
          · have HC : Hid (¬ (65535 < v0 ∨ 65535 < v1 ∨ 65535 < v2 ∨ 18446744073709551615 - q.last < ((v3 : Nat) : Int))) := Lib.hid (by omega)
            go_wp2
            refine wp_region_later (B := wr.heap.size) (w0 := wr) (Below.refl _ _) (by kernel_rfl) (by kernel_rfl) ?_
            repeat (go_big_quiet_step ((first
              | (go_at_call 28; with_reducible exact Calls.later (Nat.le_refl _) (last_any B p q x _ (HQ.out _))))))
            refine wpQuiet_nil ?_
            intro _ hw'
            obtain ⟨s, hw2⟩ := hw'
            subst hw2
            obtain ⟨w2, hb2⟩ := s
            have hk2 := Lib.hid (HB1.out.call hb2)
            have hz3 := hk2.out.lt
            have hB2 : Below w.heap.size w w2 := hB.trans (hb2.mono (by omega))
            clear c0 c1 c2 c3
            have hl2 := (HB2.out.call hb2)
            have hl2 : Blk w2 (w.heap.size + 1) 126 #[.int .u64 (v0 : Nat), .int .u64 (v1 : Nat), .int .u64 (v2 : Nat), .int .u64 (v3 : Nat)] := hl2
            have HL2 := Lib.hid hl2
            have a0 := (hl2.at_ 0).trans rfl
            have a1 := (hl2.at_ 1).trans rfl
            have a2 := (hl2.at_ 2).trans rfl
            have y2 := (hk2.out.at_ 2).trans rfl
            have y3 := (hk2.out.at_ 3).trans rfl
            have y4 := (hk2.out.at_ 4).trans rfl
            have g2 := hk2.out.free 2
            have g3 := hk2.out.free 3
            have g4 := hk2.out.free 4
            clear hl2
            go_wp2
            have hK3 : Blk (((w2.setCell ⟨w.heap.size, 2, none⟩ (.int .i64 v0)).setCell ⟨w.heap.size, 3, none⟩ (.int .i64 v1)).setCell ⟨w.heap.size, 4, none⟩ (.int .i64 v2)) w.heap.size 55 #[.int .i64 (b % 2), .int .i64 (b / 2 + 1), .int .i64 (v0 : Nat), .int .i64 (v1 : Nat), .int .i64 (v2 : Nat), .int .u64 0] := ((hk2.out.put 2 (.int .i64 v0)).put 3 (.int .i64 v1)).put 4 (.int .i64 v2)
            have hL3 : Blk (((w2.setCell ⟨w.heap.size, 2, none⟩ (.int .i64 v0)).setCell ⟨w.heap.size, 3, none⟩ (.int .i64 v1)).setCell ⟨w.heap.size, 4, none⟩ (.int .i64 v2)) (w.heap.size + 1) 126 #[.int .u64 (v0 : Nat), .int .u64 (v1 : Nat), .int .u64 (v2 : Nat), .int .u64 (v3 : Nat)] := ((HL2.out.far (by simp) _).far (by simp) _).far (by simp) _
            have hB3 : Below w.heap.size w (((w2.setCell ⟨w.heap.size, 2, none⟩ (.int .i64 v0)).setCell ⟨w.heap.size, 3, none⟩ (.int .i64 v1)).setCell ⟨w.heap.size, 4, none⟩ (.int .i64 v2)) := ((hB2.setCell (Nat.le_refl _) _).setCell (Nat.le_refl _) _).setCell (Nat.le_refl _) _
            generalize (((w2.setCell ⟨w.heap.size, 2, none⟩ (.int .i64 v0)).setCell ⟨w.heap.size, 3, none⟩ (.int .i64 v1)).setCell ⟨w.heap.size, 4, none⟩ (.int .i64 v2)) = w3 at *
            have K3 := Lib.hid hK3
            have L3 := Lib.hid hL3
            have hsum : q.last + (v3 : Int) ≤ 18446744073709551615 := by omega
            clear hK3 hL3 a0 a1 a2 y2 y3 y4 g2 g3 g4 hk2 HL2 HB1 HB2 hb2 hB2 hz3 hMx hov
            have hNE : Nonempty (In (fun W => Blk W (w.heap.size + 1) 126 #[.int .u64 (v0 : Nat), .int .u64 (v1 : Nat), .int .u64 (v2 : Nat), .int .u64 (v3 : Nat)])) := ⟨⟨_, L3.out⟩⟩
            have e3 : ∀ s : In (fun W => Blk W (w.heap.size + 1) 126 #[.int .u64 (v0 : Nat), .int .u64 (v1 : Nat), .int .u64 (v2 : Nat), .int .u64 (v3 : Nat)]), s.W.cell? ⟨w.heap.size + 1, 3, none⟩ = some (.int .u64 (v3 : Nat)) := fun s => (s.h.at_ 3).trans rfl
            refine wp_region_sched (fun w' => ∃ s : In (fun W => Blk W (w.heap.size + 1) 126 #[.int .u64 (v0 : Nat), .int .u64 (v1 : Nat), .int .u64 (v2 : Nat), .int .u64 (v3 : Nat)]), w' = s.W) [0,2,3] (.one 1 [4,5] (.one 6 [] .done)) (by kernel_rfl) (by kernel_rfl) (fun d _ _ _ _ h => by cases d <;> exact h) ⟨⟨_, L3.out.drew⟩, rfl⟩ ?_
            simp only [opsAt, List.getElem?_toArray, List.getElem?_cons_succ, List.getElem?_cons_zero]
            repeat (go_big_quiet_step (fail))
            refine wpQuiet_nil ?_
            (refine eff_lit rfl rfl (fun K hK => ?_))
            go_big_op
            refine (last_any B p q x _ (HRB.out _ hB3.drew)).mono ?_
            rintro e w4 ⟨rfl, hb4⟩
            have hb4' : Below w3.heap.size w3 w4 := Below.trans ((Below.refl _ _).drew) hb4
            refine hK _ _ ⟨⟨_, L3.out.call hb4'⟩, rfl⟩ ?_
            clear hK K
            simp only [opsAt, List.getElem?_toArray, List.getElem?_cons_succ, List.getElem?_cons_zero]
            repeat (go_big_quiet_step (fail))
            refine wpQuiet_nil ?_
            have K4 := Lib.hid (K3.out.call hb4')
            have L4 := Lib.hid (L3.out.call hb4')
            have y5 := (K4.out.at_ 5).trans rfl
            have g5 := K4.out.free 5
            have hz5 := K4.out.lt
            (refine eff_lit rfl rfl (fun K hK => ?_))
            go_big_op
            refine hK _ _ ⟨⟨_, L4.out.far (by simp) _⟩, rfl⟩ ?_
            clear hK K y5 g5 e3 hNE
            simp only [opsAt, List.getElem?_toArray, List.getElem?_cons_succ, List.getElem?_cons_zero]
            refine wpQuiet_nil ?_
            refine effs_done ?_
            have hK5 : Blk (w4.setCell ⟨w.heap.size, 5, none⟩ (.int .u64 (q.last + (v3 : Nat)))) w.heap.size 55 #[.int .i64 (b % 2), .int .i64 (b / 2 + 1), .int .i64 (v0 : Nat), .int .i64 (v1 : Nat), .int .i64 (v2 : Nat), .int .u64 (q.last + (v3 : Nat))] := K4.out.put 5 _
            have hB5 : Below w.heap.size w (w4.setCell ⟨w.heap.size, 5, none⟩ (.int .u64 (q.last + (v3 : Nat)))) := (hB3.trans (hb4'.mono (by have := K3.out.lt; omega))).setCell (Nat.le_refl _) _
            generalize w4.setCell ⟨w.heap.size, 5, none⟩ (.int .u64 (q.last + (v3 : Nat))) = w5 at *
            have K4 := Lib.hid hK5
            clear hK5
            have y0 := (K4.out.at_ 0).trans rfl
            have g0 := K4.out.free 0
            have y1 := (K4.out.at_ 1).trans rfl
            have g1 := K4.out.free 1
            have y2 := (K4.out.at_ 2).trans rfl
            have g2 := K4.out.free 2
            have y3 := (K4.out.at_ 3).trans rfl
            have g3 := K4.out.free 3
            have y4 := (K4.out.at_ 4).trans rfl
            have g4 := K4.out.free 4
            have y5 := (K4.out.at_ 5).trans rfl
            have g5 := K4.out.free 5
            have hz5 := K4.out.lt
            go_wp2
            refine bodyPost_ret (v := .tuple #[.agg #[.int .i64 (b % 2), .int .i64 (b / 2 + 1), .int .i64 (v0 : Nat), .int .i64 (v1 : Nat), .int .i64 (v2 : Nat), .int .u64 (q.last + (v3 : Nat))], .bool true]) (by simp [results, Tryd.results49, go_sem, y0, y1, y2, y3, y4, y5, hz5]) rfl ⟨⟨b % 2, b / 2 + 1, v0, v1, v2, q.last + (v3 : Nat)⟩, true, rfl, ?_, ?_⟩
            · rw [HN.out]
              simp only [nextOf, List.getD_cons_zero, List.getD_cons_succ, mkMove]
              rw [if_neg HC.out]
              rfl
            · (focus (repeat' (first | (with_reducible exact Below.refl _ _) | (with_reducible assumption) | (with_reducible refine Below.alloc ?_ ?_ _) | (with_reducible refine below_drewN ?_ _) | (with_reducible refine Below.drew ?_) | (with_reducible refine Below.setCell ?_ ?_ _) | omega | (simp; done) | (simp; omega))))

end Go.Proofs.YtpbbemmjodegkaaDoor
