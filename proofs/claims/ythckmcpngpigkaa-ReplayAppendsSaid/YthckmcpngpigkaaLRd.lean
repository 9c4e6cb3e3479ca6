/-
  The law's read.
-/
import Derived.Test.YthckmcpngpigkaaAlk
import Derived.Test.YthckmcpngpigkaaReadR
import Derived.Deep.LoopGhost
import Derived.Deep.QuietTactic
import Derived.BigQuiet
set_option linter.unusedSimpArgs false
set_option linter.unusedVariables false
namespace Go.Proofs.Ythckmcpngpigkaa
open Go.RowKit

/-- So many numbers as the law reads them, and what is left. -/
def loosesN : Nat → List Int → List Nat × List Int
  | 0, r => ([], r)
  | k + 1, r => ((looseS r).1 :: (loosesN k (r.drop (looseS r).2)).1, (loosesN k (r.drop (looseS r).2)).2)
theorem looses_snoc (k : Nat) (r : List Int) : loosesN (k + 1) r = ((loosesN k r).1 ++ [(looseS (loosesN k r).2).1], (loosesN k r).2.drop (looseS (loosesN k r).2).2) := by
  induction k generalizing r with
  | zero => simp [loosesN]
  | succ k ih =>
    rw [loosesN, ih]
    simp [loosesN]
theorem looses_len (k : Nat) (r : List Int) : (loosesN k r).1.length = k := by
  induction k generalizing r with
  | zero => rfl
  | succ k ih => simp [loosesN, ih]
theorem looses_lt (k : Nat) (r : List Int) : ∀ z ∈ (loosesN k r).1, z < 2 ^ 64 := by
  induction k generalizing r with
  | zero => intro z hz; cases hz
  | succ k ih =>
    intro z hz
    simp only [loosesN, List.mem_cons] at hz
    rcases hz with rfl | hz
    · exact looseS_lt _
    · exact ih _ z hz
def lookOf (t x : Int) (l : List Nat) : Option MoveV := if 65535 < l.getD 0 0 ∨ 65535 < l.getD 1 0 ∨ 65535 < l.getD 2 0 ∨ 18446744073709551615 - t < ((l.getD 3 0 : Nat) : Int) then none else some (mkMove t x l)
theorem look_looses (t x : Int) (r : List Int) : lookS t (x :: r) = lookOf t x (loosesN 4 r).1 := by
  simp only [lookS, loosesN, lookOf, mkMove, List.getD_cons_zero, List.getD_cons_succ]

/-- What the law's read hands back. -/
def LReadEnd (key : Int) (xs : List Int) (w : World) (e : Ending) (w' : World) : Prop := ∃ y, e = .returned (.tuple #[.pointer (some ⟨w.heap.size, 0, none⟩), .int .i64 (readS (st0 key) xs).data.length]) ∧ Md w' w.heap.size (readS (st0 key) xs) y ∧ Below w.heap.size w w' ∧ ∀ i, FootM w.heap.size y i → w.heap.size ≤ i
/-- The model apart from its own parts. -/
def SepM (p : Nat) (y : MdC) : Prop := (0 < y.nm → blkOf y.M ≠ some p) ∧ (0 < y.ne → blkOf y.E ≠ some p) ∧ (0 < y.nd → blkOf y.D ≠ some p)
theorem Md.sep {w : World} {p : Nat} {q : St} {y : MdC} (h : Md w p q y) : SepM p y := by
  have hc : ∀ off v, w.cell? ⟨p, off, none⟩ = some v → (∃ n, v = .int .u32 n) ∨ ∃ A n c, v = .slice A n c := by
    intro off v hv
    rw [h.blk.at_ off] at hv
    match off, hv with
    | 0, hv => injection hv with hv; exact .inl ⟨_, hv.symm⟩
    | 1, hv => injection hv with hv; exact .inr ⟨_, _, _, hv.symm⟩
    | 2, hv => injection hv with hv; exact .inr ⟨_, _, _, hv.symm⟩
    | 3, hv => injection hv with hv; exact .inr ⟨_, _, _, hv.symm⟩
    | 4, hv => injection hv with hv; exact .inl ⟨_, hv.symm⟩
    | k + 5, hv => cases hv
  have key : ∀ (size n : Nat) (A : Option Addr) (l : List Value) (u : Value), Reads w size A n l → 0 < n → l[0]? = some u → blkOf A = some p → (∃ n, u = .int .u32 n) ∨ ∃ A n c, u = .slice A n c := by
    intro size n A l u hr hn hu hb
    obtain ⟨ad, rfl, _, hcell⟩ := hr.2 hn
    have h1 := hcell 0 u hu
    have hp : ad.block = p := by simpa [blkOf] using hb
    subst hp
    have h3 : w.cell? ad = some u := by simpa [Addr.add] using h1
    obtain ⟨b, o, s⟩ := ad
    have hs : s = none := by
      cases s with
      | none => rfl
      | some s =>
        exfalso
        unfold World.cell? at h3
        split at h3 <;> simp at h3
    subst hs
    exact hc _ _ h3
  refine ⟨fun hn hb => ?_, fun hn hb => ?_, fun hn hb => ?_⟩
  · have hq : 0 < q.mv.length := by have := h.nm_eq; omega
    cases hl : q.mv with
    | nil => rw [hl] at hq; cases hq
    | cons m l =>
      have := key _ _ _ _ (.int .i64 m.p) h.mv.1 hn (by rw [hl]; rfl) hb
      simp at this
  · cases hl : q.ends with
    | nil =>
      have h1 := h.ends.1.1
      rw [hl] at h1
      simp at h1
      omega
    | cons m l =>
      have := key _ _ _ _ (.int .i64 m) h.ends.1 hn (by rw [hl]; rfl) hb
      simp at this
  · cases hl : q.data with
    | nil =>
      have h1 := h.data.1.length
      rw [hl] at h1
      simp at h1
      omega
    | cons m l =>
      have := key _ _ _ _ (.int .u8 m) h.data.1.1 hn (by rw [hl]; rfl) hb
      simp at this
theorem LReadEnd.mk_ {key : Int} {xs : List Int} {w W : World} {q : St} {y : MdC} {n : Nat} {e : Ending} (h : Md W w.heap.size q y) (hf : readS (st0 key) xs = q) (hF : ∀ i, FootM w.heap.size y i → w.heap.size ≤ i) (hB : Below w.heap.size w W) (hn : n = q.data.length := by rfl) (he : e = .returned (.tuple #[.pointer (some ⟨w.heap.size, 0, none⟩), .int .i64 n]) := by rfl) : LReadEnd key xs w e W := by
  subst hf
  exact ⟨y, by rw [he, hn], h, hB, hF⟩
theorem drop_at {xs : List Int} {k n : Nat} (hl : xs.length = n) (hk : k < n) : xs.drop k = nth xs k :: xs.drop (k + 1) := by
  rw [List.drop_eq_getElem_cons (by omega)]
  simp [nth, List.getD, List.getElem?_eq_getElem (show k < xs.length by omega)]
theorem arr4_zero {l : List Nat} {k : Nat} (hl : l.length = k) (hk : k < 4) : arr4 (l ++ [0]) = arr4 l := by
  subst hl
  match l, hk with
  | [], _ => rfl
  | [a], _ => rfl
  | [a, b], _ => rfl
  | [a, b, c], _ => rfl
theorem arr4_last {l : List Nat} {k v : Nat} (hl : l.length = k) (hk : k < 4) : (arr4 (l ++ [v]))[k]? = some (.int .u64 v) := by
  subst hl
  match l, hk with
  | [], _ => rfl
  | [a], _ => rfl
  | [a, b], _ => rfl
  | [a, b, c], _ => rfl
theorem arr4_put' {l : List Nat} {k u v : Nat} (hl : l.length = k) (hk : k < 4) : (arr4 (l ++ [u])).setIfInBounds k (.int .u64 v) = arr4 (l ++ [v]) := by
  subst hl
  match l, hk with
  | [], _ => rfl
  | [a], _ => rfl
  | [a, b], _ => rfl
  | [a, b, c], _ => rfl
theorem looseL_stop {j v : Nat} {ys : List Int} (h : j = 10 ∨ ys = []) : looseL (10 - j) j v ys = (v, j) := by
  rcases h with rfl | rfl
  · rfl
  · cases 10 - j <;> rfl
theorem looseL_go {j v : Nat} {x : Int} {ys : List Int} (hj : j < 10) : looseL (10 - j) j v (x :: ys) = if x < 128 then ((v + x.toNat % 128 * 128 ^ j) % 2 ^ 64, j + 1) else looseL (10 - (j + 1)) (j + 1) ((v + x.toNat % 128 * 128 ^ j) % 2 ^ 64) ys := by
  rw [show 10 - j = (10 - (j + 1)) + 1 by omega]
  rfl
theorem looses_next {xs r0 r : List Int} {l : List Nat} {k i u v : Nat} (hlr : loosesN k r0 = (l, r)) (hi : xs.drop i = r) (h : looseS r = (v, u)) : xs.drop (i + u) = (loosesN (k + 1) r0).2 ∧ (loosesN (k + 1) r0).1 = l ++ [v] := by
  rw [looses_snoc, hlr]
  subst hi
  simp [h, List.drop_drop]
theorem shl_eq {v j : Nat} {x : Int} (hx : 0 ≤ x) : IntKind.u64.wrap ((v : Int) + IntKind.u64.wrap (x % 128 * 2 ^ (7 * j))) = (((v + x.toNat % 128 * 128 ^ j) % 2 ^ 64 : Nat) : Int) := by
  obtain ⟨m, rfl⟩ : ∃ m : Nat, x = m := ⟨x.toNat, by omega⟩
  have h0 : (2 ^ (7 * j) : Nat) = 128 ^ j := by rw [Nat.pow_mul]
  have h1 : (2 : Int) ^ (7 * j) = ((128 ^ j : Nat) : Int) := by rw [← h0]; simp
  have h2 : (m : Int) % 128 * ((128 ^ j : Nat) : Int) = ((m % 128 * 128 ^ j : Nat) : Int) := by rw [Int.natCast_mul, Int.natCast_emod]; rfl
  rw [IntKind.wrap_u64, IntKind.wrap_u64, h1, h2, Int.toNat_natCast]
  generalize m % 128 * 128 ^ j = T
  omega
theorem md0 {w : World} {p : Nat} {key : Int} (hk : 0 ≤ key ∧ key ≤ 4294967295) (h : Blk w p 31 #[.int .u32 key, .slice none 0 0, .slice none 0 0, .slice none 0 0, .int .u32 key]) : Md w p (st0 key) ⟨none, 0, 0, none, 0, 0, none, 0, 0⟩ :=
  ⟨h, ⟨Reads.none_, fun _ => rfl⟩, ⟨Reads.none_, fun _ => rfl⟩, ⟨⟨Reads.none_, fun _ h => by cases h⟩, fun _ => rfl⟩, ⟨by simp, by simp⟩, st0_ok hk⟩

set_option maxRecDepth 100000 in
set_option maxHeartbeats 1600000 in
theorem lread_any (key : Int) (A : Option Addr) (n c : Nat) (xs : List Int) (w : World) (hk : 0 ≤ key ∧ key ≤ 4294967295) (hx : BReads w A n xs) (hc : n ≤ c) (hc2 : c ≤ 9223372036854775807) : Calls Try.prog 24 #[.int .u32 key, .slice A n c] w (LReadEnd key xs w) := by
  have HX : Hid (∀ W, Below w.heap.size w W → BReads W A n xs) := fun W hb => hx.below hb
  have HL := Lib.hid hx.length
  have HA : Hid (∀ ad, 0 < n → A = some ad → ad.block < w.heap.size) := Lib.hid (fun ad hn e => by
    obtain ⟨ad', e', hb, _⟩ := hx.1.2 hn
    rw [e] at e'
    injection e' with e'
    rw [e']
    exact hb)
  have HK := Lib.hid hk
  clear hx hk
  go_enter Try.func24, Try.ntmps24
  go_wp2
  go_loopw [7] (fun i W => ∃ (q : St) (y : MdC), i = .int .i64 q.data.length ∧ q.data.length ≤ n ∧ Md W w.heap.size q y ∧ Hid (SepM w.heap.size y) ∧ Hid (∀ i, FootM w.heap.size y i → w.heap.size ≤ i) ∧ Hid (readS (st0 key) xs = readS q (xs.drop q.data.length)) ∧ Below w.heap.size w W) (fun i _ => n - (intOf i).toNat)
  case atStart => exact ⟨st0 key, ⟨none, 0, 0, none, 0, 0, none, 0, 0⟩, rfl, Nat.zero_le _, md0 HK.out (Blk.mk_ _ _ _ _ rfl), Lib.hid ⟨fun h => absurd h (by decide), fun h => absurd h (by decide), fun h => absurd h (by decide)⟩, Lib.hid (fun i hi => by
    rcases hi with rfl | ⟨h, _⟩ | ⟨h, _⟩ | ⟨h, _⟩
    · exact Nat.le_refl _
    · exact absurd h (by decide)
    · exact absurd h (by decide)
    · exact absurd h (by decide)), Lib.hid rfl, by (focus (repeat' (first | (with_reducible exact Below.refl _ _) | (with_reducible assumption) | (with_reducible refine Below.alloc ?_ ?_ _) | (with_reducible refine below_drewN ?_ _) | (with_reducible refine Below.drew ?_) | (with_reducible refine Below.setCell ?_ ?_ _) | omega | (simp; done) | (simp; omega))))⟩
  case round =>
    obtain ⟨q, y, rfl, hdn, hM, HS, HF, HE, hB⟩ := hrel
    generalize wr = wz at *
    have HM := Lib.hid hM
    have hzr := hM.blk.lt
    clear hM
    by_cases hlt : q.data.length < n
    · have hlt' : (q.data.length : Int) < n := by omega
      have hX := HX.out _ hB
      obtain ⟨ad, hA, hc0, hb0, hb1⟩ := hX.at_ (k := q.data.length) hlt
      subst hA
      have hadb := HA.out ad (by omega) rfl
      have HDROP := Lib.hid (drop_at HL.out hlt)
      generalize hb : nth xs q.data.length = b at *
      have HNB := Lib.hid hb
      clear hb
      have hNE : Nonempty (In (fun W => Below wz.heap.size wz W)) := ⟨⟨_, Below.refl _ _⟩⟩
      have c0 : ∀ s : In (fun W => Below wz.heap.size wz W), s.W.cell? (ad.add q.data.length) = some (.int .u8 b) := fun s => (s.h.cell (by rw [block_of_add]; omega)).trans hc0
      clear hX hc0
      go_wp2
      refine wp_region_sched (fun w' => ∃ s : In (fun W => Below wz.heap.size wz W), w' = s.W) [0,1,2,3,4,5,6,7,8,9,10,11,12,13] (.one 14 [] (.one 15 [] .done)) (by kernel_rfl) (by kernel_rfl) (fun d _ _ _ _ h => by cases d <;> exact h) ⟨⟨_, (Below.refl _ _).drew⟩, rfl⟩ ?_
      simp only [opsAt, List.getElem?_toArray, List.getElem?_cons_succ, List.getElem?_cons_zero]
      repeat (go_big_quiet_step (fail))
      refine wpQuiet_nil ?_
      (refine eff_lit rfl rfl (fun K hK => ?_))
      go_big_op
      refine hK _ _ ⟨⟨_, ((Below.refl _ _).drew.alloc (Nat.le_refl _) _)⟩, rfl⟩ ?_
      clear hK K
      simp only [opsAt, List.getElem?_toArray, List.getElem?_cons_succ, List.getElem?_cons_zero]
      refine wpQuiet_nil ?_
      (refine eff_lit rfl rfl (fun K hK => ?_))
      go_big_op
      refine hK _ _ ⟨⟨_, ((Below.refl _ _).alloc (Nat.le_refl _) _).drew⟩, rfl⟩ ?_
      clear hK K c0 hNE
      simp only [opsAt, List.getElem?_toArray, List.getElem?_cons_succ, List.getElem?_cons_zero]
      refine wpQuiet_nil ?_
      refine effs_done ?_
      go_wp2
      go_loopw [11, 9] (fun kv iv W => ∃ (k i : Nat), k ≤ 4 ∧ kv = .int .i64 k ∧ iv = .int .i64 i ∧ i ≤ n ∧ Hid (xs.drop i = (loosesN k (xs.drop (q.data.length + 1))).2) ∧ Blk W wz.heap.size 41 #[.int .i64 (b % 2), .int .i64 (b / 2 + 1), .int .i64 0, .int .i64 0, .int .i64 0, .int .u64 0] ∧ Blk W (wz.heap.size + 1) 38 (arr4 (loosesN k (xs.drop (q.data.length + 1))).1) ∧ Below wz.heap.size wz W) (fun kv _ _ => 4 - (intOf kv).toNat)
      case atStart => exact ⟨0, q.data.length + 1, by omega, rfl, by go_num, by omega, Lib.hid rfl, ((Blk.mk_ wz 41 _ _ rfl).drew.alloc _), (Blk.mk_ _ 38 _ _ (by simp)), by (focus (repeat' (first | (with_reducible exact Below.refl _ _) | (with_reducible assumption) | (with_reducible refine Below.alloc ?_ ?_ _) | (with_reducible refine below_drewN ?_ _) | (with_reducible refine Below.drew ?_) | (with_reducible refine Below.setCell ?_ ?_ _) | omega | (simp; done) | (simp; omega))))⟩
      case round =>
        obtain ⟨k, i, hk, rfl, rfl, hin, HI, hM1, hL1, hB1⟩ := hrel
        generalize wr = wy at *
        have HLS := Lib.hid (looses_snoc k (xs.drop (q.data.length + 1)))
        have hll := looses_len k (xs.drop (q.data.length + 1))
        by_cases hk4 : k < 4
        · generalize hlr : loosesN k (xs.drop (q.data.length + 1)) = lr at *
          obtain ⟨l, r⟩ := lr
          simp only at hll HI hL1
          have HI0 := Lib.hid HI.out
          have HLR := Lib.hid hlr
          have hL0 : Blk wy (wz.heap.size + 1) 38 (arr4 (l ++ [0])) := by rw [arr4_zero hll hk4]; exact hL1
          clear hlr hL1
          have hk4' : (k : Int) < 4 := by omega
          go_wp2
          go_loopw [12, 9] (fun jv iv W => ∃ (j i2 v : Nat), j ≤ 10 ∧ jv = .int .i64 j ∧ iv = .int .i64 i2 ∧ i2 ≤ n ∧ Hid (i2 = i + j) ∧ Hid (looseL (10 - j) j v (xs.drop i2) = looseS r) ∧ v < 2 ^ 64 ∧ Blk W wz.heap.size 41 #[.int .i64 (b % 2), .int .i64 (b / 2 + 1), .int .i64 0, .int .i64 0, .int .i64 0, .int .u64 0] ∧ Blk W (wz.heap.size + 1) 38 (arr4 (l ++ [v])) ∧ Below wz.heap.size wz W) (fun jv _ _ => 10 - (intOf jv).toNat)
          case atStart => exact ⟨0, i, 0, by omega, rfl, rfl, hin, Lib.hid rfl, Lib.hid (by rw [HI.out]; rfl), by decide, hM1, hL0, hB1⟩
          case round =>
            obtain ⟨j, i2, v, hj, rfl, rfl, hi2, HIJ, HV, hv64, hM2, hL2, hB2⟩ := hrel
            generalize wr = wx at *
            clear hM1 hL0 hB1
            by_cases hgo : j < 10 ∧ i2 < n
            · obtain ⟨hj10, hi2n⟩ := hgo
              have hj10' : (j : Int) < 10 := by omega
              have hi2n' : (i2 : Int) < n := by omega
              have hX := HX.out _ (hB.trans (hB2.mono (by omega)))
              obtain ⟨ad2, hA2, hc1, hb2, hb3⟩ := hX.at_ (k := i2) hi2n
              injection hA2 with hA2
              subst hA2
              have HD2 := Lib.hid (drop_at HL.out hi2n)
              generalize hx : nth xs i2 = x at *
              have HXN := Lib.hid hx
              have hz2 := hM2.lt
              have hz3 := hL2.lt
              have HM2 := Lib.hid hM2
              have HL2 := Lib.hid hL2
              have hNE : Nonempty (In (fun W => Blk W (wz.heap.size + 1) 38 (arr4 (l ++ [v])))) := ⟨⟨_, hL2⟩⟩
              have c0 : ∀ s : In (fun W => Blk W (wz.heap.size + 1) 38 (arr4 (l ++ [v]))), s.W.cell? ⟨wz.heap.size + 1, k, none⟩ = some (.int .u64 v) := fun s => (s.h.at_ k).trans (arr4_last hll hk4)
              have a0 : wx.cell? ⟨wz.heap.size + 1, k, none⟩ = some (.int .u64 v) := (hL2.at_ k).trans (arr4_last hll hk4)
              have f0 := hL2.free k
              clear hX hx hM2 hL2
              go_wp2
              have HSH := Lib.hid (shl_eq (v := v) (j := j) (x := x) hb2)
              obtain ⟨v', hv'⟩ : ∃ v', v' = (v + x.toNat % 128 * 128 ^ j) % 2 ^ 64 := ⟨_, rfl⟩
              have hv264 : v' < 2 ^ 64 := by rw [hv']; exact Nat.mod_lt _ (by decide)
              have HLG := Lib.hid (looseL_go (v := v) (x := x) (ys := xs.drop (i2 + 1)) hj10)
              rw [← hv'] at HSH HLG
              have HV2 : Hid ((if x < 128 then (v', j + 1) else looseL (10 - (j + 1)) (j + 1) v' (xs.drop (i2 + 1))) = looseS r) := Lib.hid (by rw [← HLG.out, ← HD2.out]; exact HV.out)
              clear hv' HLG
              refine wp_region_late (Ph (fun w' => ∃ s : In (fun W => Blk W (wz.heap.size + 1) 38 (arr4 (l ++ [v]))), w' = s.W) (fun _ => True)) [14] [0,1,2,3,4,5,6,7,8,9,10,11,12,13] (.one 14 [] .done) (by kernel_rfl) (by kernel_rfl) (fun d _ _ _ _ h => by cases d <;> exact h) ⟨⟨_, HL2.out.drew⟩, rfl⟩ ?_
              refine quiet_as (C' := (fun w' => ∃ s : In (fun W => Blk W (wz.heap.size + 1) 38 (arr4 (l ++ [v]))), w' = s.W)) rfl ?_
              simp only [opsAt, List.getElem?_toArray, List.getElem?_cons_succ, List.getElem?_cons_zero]
              repeat (go_big_quiet_step (fail))
              refine wpQuiet_nil ?_
              refine eff_as (C' := fun _ => True) rfl ?_
              (refine eff_lit rfl rfl (fun K hK => ?_))
              go_big_op
              refine hK _ _ trivial ?_
              rw [HSH.out]
              clear hK K c0 a0 f0 hNE
              simp only [opsAt, List.getElem?_toArray, List.getElem?_cons_succ, List.getElem?_cons_zero]
              refine wpQuiet_nil ?_
              refine effs_done ?_
              have hM3 := (HM2.out.far (p := ⟨wz.heap.size + 1, k, none⟩) (by simp) (.int .u64 v')).drew
              have hL3 := (HL2.out.put k (.int .u64 v')).drew
              rw [arr4_put' hll hk4] at hL3
              have hB3 := (hB2.setCell (p := ⟨wz.heap.size + 1, k, none⟩) (by simp) (.int .u64 v')).drew
              by_cases hx128 : x < 128
              · have HN := Lib.hid (looses_next (u := j + 1) (v := v') HLR.out HI0.out (by have := HV2.out; rw [if_pos hx128] at this; exact this.symm))
                go_wp2
                go_roundw
                case rel => exact ⟨k + 1, i2 + 1, by omega, by go_num, by go_num, by omega, Lib.hid (by rw [← HN.out.1, HIJ.out]; rfl), hM3, (by rw [HN.out.2]; exact hL3), hB3⟩
                case measure => simp [intOf]; omega
              · go_wp2
                go_roundw
                case rel => exact ⟨j + 1, i2 + 1, v', by omega, by go_num, by go_num, by omega, Lib.hid (by rw [HIJ.out]; rfl), Lib.hid (by have := HV2.out; rw [if_neg hx128] at this; exact this), hv264, hM3, hL3, hB3⟩
                case measure => simp [intOf]; omega
            · have HN := Lib.hid (looses_next (u := j) (v := v) HLR.out HI0.out (by
                have := HV.out
                rw [looseL_stop (by
                  rcases Nat.lt_or_ge j 10 with h | h
                  · exact .inr (List.drop_eq_nil_of_le (by rw [HL.out]; omega))
                  · exact .inl (by omega))] at this
                exact this.symm))
              by_cases hj10 : j < 10
              · have hj10' : (j : Int) < 10 := by omega
                obtain rfl : i2 = n := by omega
                go_wp2
                go_roundw
                case rel => exact ⟨k + 1, i2, by omega, by go_num, rfl, by omega, Lib.hid (by rw [← HN.out.1, HIJ.out]), hM2, (by rw [HN.out.2]; exact hL2), hB2⟩
                case measure => simp [intOf]; omega
              · obtain rfl : j = 10 := by omega
                go_wp2
                go_roundw
                case rel => exact ⟨k + 1, i2, by omega, by go_num, rfl, by omega, Lib.hid (by rw [← HN.out.1, HIJ.out]), hM2, (by rw [HN.out.2]; exact hL2), hB2⟩
                case measure => simp [intOf]; omega
        · --@@FOUR
          obtain rfl : k = 4 := by omega
          have HLK := Lib.hid (look_looses q.last b (xs.drop (q.data.length + 1)))
          have h64 := looses_lt 4 (xs.drop (q.data.length + 1))
          generalize (loosesN 4 (xs.drop (q.data.length + 1))).1 = l at *
          obtain ⟨n0, n1, n2, n3, rfl⟩ : ∃ n0 n1 n2 n3 : Nat, l = [n0, n1, n2, n3] := by
            match l, hll with
            | [a, b, c, d], _ => exact ⟨a, b, c, d, rfl⟩
          have hL : Blk wy (wz.heap.size + 1) 38 #[.int .u64 (n0 : Nat), .int .u64 (n1 : Nat), .int .u64 (n2 : Nat), .int .u64 (n3 : Nat)] := hL1
          have h640 := h64 n0 (by simp)
          have h643 := h64 n3 (by simp)
          have h641 := h64 n1 (by simp)
          have h642 := h64 n2 (by simp)
          have hz2 := hM1.lt
          have hz3 := hL.lt
          have hzy := hB1.size
          have HM1 := Lib.hid hM1
          have HL1 := Lib.hid hL
          have hlast := HM.out.ok.last0
          have HQ : Hid (∀ s : Later wy.heap.size wy, Md s.W w.heap.size q y) := Lib.hid fun s => HM.out.below (hB1.trans (s.h.mono hzy))
          have c0 : ∀ s : Later wy.heap.size wy, s.W.cell? ⟨wz.heap.size + 1, 0, none⟩ = some (.int .u64 (n0 : Nat)) := fun s => ((hL.below s.h hz3).at_ 0).trans rfl
          have c1 : ∀ s : Later wy.heap.size wy, s.W.cell? ⟨wz.heap.size + 1, 1, none⟩ = some (.int .u64 (n1 : Nat)) := fun s => ((hL.below s.h hz3).at_ 1).trans rfl
          have c2 : ∀ s : Later wy.heap.size wy, s.W.cell? ⟨wz.heap.size + 1, 2, none⟩ = some (.int .u64 (n2 : Nat)) := fun s => ((hL.below s.h hz3).at_ 2).trans rfl
          have c3 : ∀ s : Later wy.heap.size wy, s.W.cell? ⟨wz.heap.size + 1, 3, none⟩ = some (.int .u64 (n3 : Nat)) := fun s => ((hL.below s.h hz3).at_ 3).trans rfl
          clear hL hL1 hM1 HLS h64 hll HI hin hk
          by_cases k0 : n0 ≤ 65535
          · have d0 : decide ((65535 : Int) < ((n0 : Nat) : Int)) = false := by rw [decide_eq_false_iff_not]; omega
            by_cases k1 : n1 ≤ 65535
            · have d1 : decide ((65535 : Int) < ((n1 : Nat) : Int)) = false := by rw [decide_eq_false_iff_not]; omega
              by_cases k2 : n2 ≤ 65535
              · have d2 : decide ((65535 : Int) < ((n2 : Nat) : Int)) = false := by rw [decide_eq_false_iff_not]; omega
                by_cases kov : q.last + (n3 : Int) ≤ 18446744073709551615
                · have hwr : IntKind.u64.wrap (q.last + (n3 : Int)) = q.last + (n3 : Int) := IntWalk.u64_in _ (by omega)
                  have hnl : decide (q.last + (n3 : Int) < q.last) = false := by simp; omega
                  go_wp2
                  refine wp_region_later (B := wy.heap.size) (w0 := wy) (Below.refl _ _) (by kernel_rfl) (by kernel_rfl) ?_
                  repeat (go_big_quiet_step ((first
                    | (go_at_call 26; with_reducible exact Calls.later (Nat.le_refl _) (mlast_any w.heap.size q y _ (HQ.out _))))))
                  refine wpQuiet_nil ?_
                  intro _ hw'
                  obtain ⟨s, hw2⟩ := hw'
                  subst hw2
                  obtain ⟨w2, hb2⟩ := s
                  have hB2 : Below wz.heap.size wz w2 := hB1.trans (hb2.mono (by have := hB1.size; omega))
                  have hB2w : Below w.heap.size w w2 := hB.trans (hB2.mono (by omega))
                  have HM2 := Lib.hid (HM.out.below hB2)
                  clear c0 c1 c2 c3
                  have hk2 := Lib.hid (HM1.out.call hb2)
                  have hl2 := Lib.hid (HL1.out.call hb2)
                  have hzk := hk2.out.lt
                  have hNE : Nonempty (In (fun W => Blk W (wz.heap.size + 1) 38 #[.int .u64 (n0 : Nat), .int .u64 (n1 : Nat), .int .u64 (n2 : Nat), .int .u64 (n3 : Nat)])) := ⟨⟨_, hl2.out⟩⟩
                  have e0 : ∀ s : In (fun W => Blk W (wz.heap.size + 1) 38 #[.int .u64 (n0 : Nat), .int .u64 (n1 : Nat), .int .u64 (n2 : Nat), .int .u64 (n3 : Nat)]), s.W.cell? ⟨wz.heap.size + 1, 0, none⟩ = some (.int .u64 (n0 : Nat)) := fun s => (s.h.at_ 0).trans rfl
                  have e1 : ∀ s : In (fun W => Blk W (wz.heap.size + 1) 38 #[.int .u64 (n0 : Nat), .int .u64 (n1 : Nat), .int .u64 (n2 : Nat), .int .u64 (n3 : Nat)]), s.W.cell? ⟨wz.heap.size + 1, 1, none⟩ = some (.int .u64 (n1 : Nat)) := fun s => (s.h.at_ 1).trans rfl
                  have e2 : ∀ s : In (fun W => Blk W (wz.heap.size + 1) 38 #[.int .u64 (n0 : Nat), .int .u64 (n1 : Nat), .int .u64 (n2 : Nat), .int .u64 (n3 : Nat)]), s.W.cell? ⟨wz.heap.size + 1, 2, none⟩ = some (.int .u64 (n2 : Nat)) := fun s => (s.h.at_ 2).trans rfl
                  have e3 : ∀ s : In (fun W => Blk W (wz.heap.size + 1) 38 #[.int .u64 (n0 : Nat), .int .u64 (n1 : Nat), .int .u64 (n2 : Nat), .int .u64 (n3 : Nat)]), s.W.cell? ⟨wz.heap.size + 1, 3, none⟩ = some (.int .u64 (n3 : Nat)) := fun s => (s.h.at_ 3).trans rfl
                  have y2 := (hk2.out.at_ 2).trans rfl
                  have y3 := (hk2.out.at_ 3).trans rfl
                  have y4 := (hk2.out.at_ 4).trans rfl
                  have g2 := hk2.out.free 2
                  have g3 := hk2.out.free 3
                  have g4 := hk2.out.free 4
                  go_wp2
                  refine wp_region_sched (fun w' => ∃ s : In (fun W => Blk W (wz.heap.size + 1) 38 #[.int .u64 (n0 : Nat), .int .u64 (n1 : Nat), .int .u64 (n2 : Nat), .int .u64 (n3 : Nat)]), w' = s.W) [0,1,2,3,4,5,6,7,8,9,10,11,12,13] (.one 14 [] .done) (by kernel_rfl) (by kernel_rfl) (fun d _ _ _ _ h => by cases d <;> exact h) ⟨⟨_, hl2.out.drew⟩, rfl⟩ ?_
                  simp only [opsAt, List.getElem?_toArray, List.getElem?_cons_succ, List.getElem?_cons_zero]
                  repeat (go_big_quiet_step (fail))
                  refine wpQuiet_nil ?_
                  (refine eff_lit rfl rfl (fun K hK => ?_))
                  go_big_op
                  refine hK _ _ ⟨⟨_, (((hl2.out.far (p := ⟨wz.heap.size, 2, none⟩) (by simp) _).far (p := ⟨wz.heap.size, 3, none⟩) (by simp) _).far (p := ⟨wz.heap.size, 4, none⟩) (by simp) _).drew⟩, rfl⟩ ?_
                  clear hK K y2 y3 y4 g2 g3 g4
                  simp only [opsAt, List.getElem?_toArray, List.getElem?_cons_succ, List.getElem?_cons_zero]
                  refine wpQuiet_nil ?_
                  refine effs_done ?_
                  have hK3 : Blk ((((w2.setCell ⟨wz.heap.size, 2, none⟩ (.int .i64 n0)).setCell ⟨wz.heap.size, 3, none⟩ (.int .i64 n1)).setCell ⟨wz.heap.size, 4, none⟩ (.int .i64 n2)).drew) wz.heap.size 41 #[.int .i64 (b % 2), .int .i64 (b / 2 + 1), .int .i64 (n0 : Nat), .int .i64 (n1 : Nat), .int .i64 (n2 : Nat), .int .u64 0] := (((hk2.out.put 2 (.int .i64 n0)).put 3 (.int .i64 n1)).put 4 (.int .i64 n2)).drew
                  have hL3 : Blk ((((w2.setCell ⟨wz.heap.size, 2, none⟩ (.int .i64 n0)).setCell ⟨wz.heap.size, 3, none⟩ (.int .i64 n1)).setCell ⟨wz.heap.size, 4, none⟩ (.int .i64 n2)).drew) (wz.heap.size + 1) 38 #[.int .u64 (n0 : Nat), .int .u64 (n1 : Nat), .int .u64 (n2 : Nat), .int .u64 (n3 : Nat)] := (((hl2.out.far (p := ⟨wz.heap.size, 2, none⟩) (by simp) _).far (p := ⟨wz.heap.size, 3, none⟩) (by simp) _).far (p := ⟨wz.heap.size, 4, none⟩) (by simp) _).drew
                  have hB3 : Below wz.heap.size wz ((((w2.setCell ⟨wz.heap.size, 2, none⟩ (.int .i64 n0)).setCell ⟨wz.heap.size, 3, none⟩ (.int .i64 n1)).setCell ⟨wz.heap.size, 4, none⟩ (.int .i64 n2)).drew) := (((hB2.setCell (p := ⟨wz.heap.size, 2, none⟩) (Nat.le_refl _) _).setCell (p := ⟨wz.heap.size, 3, none⟩) (Nat.le_refl _) _).setCell (p := ⟨wz.heap.size, 4, none⟩) (Nat.le_refl _) _).drew
                  clear hk2 hl2 HM1 HL1 hB2w HM2 hB2 hb2 hB1 HQ
                  generalize (((w2.setCell ⟨wz.heap.size, 2, none⟩ (.int .i64 n0)).setCell ⟨wz.heap.size, 3, none⟩ (.int .i64 n1)).setCell ⟨wz.heap.size, 4, none⟩ (.int .i64 n2)).drew = w3 at *
                  have K3 := Lib.hid hK3
                  have L3 := Lib.hid hL3
                  clear hK3 hL3
                  go_wp2
                  refine wp_region_sched (fun w' => ∃ s : In (fun W => Blk W (wz.heap.size + 1) 38 #[.int .u64 (n0 : Nat), .int .u64 (n1 : Nat), .int .u64 (n2 : Nat), .int .u64 (n3 : Nat)]), w' = s.W) [0,2,3,4] (.one 1 [5,6] (.one 7 [] .done)) (by kernel_rfl) (by kernel_rfl) (fun d _ _ _ _ h => by cases d <;> exact h) ⟨⟨_, L3.out.drew⟩, rfl⟩ ?_
                  simp only [opsAt, List.getElem?_toArray, List.getElem?_cons_succ, List.getElem?_cons_zero]
                  repeat (go_big_quiet_step (fail))
                  refine wpQuiet_nil ?_
                  (refine eff_lit rfl rfl (fun K hK => ?_))
                  go_big_op
                  refine (mlast_any w.heap.size q y _ (HM.out.below hB3.drew)).mono ?_
                  rintro e w4 ⟨rfl, hb4⟩
                  have hb4' : Below w3.heap.size w3 w4 := Below.trans ((Below.refl _ _).drew) hb4
                  refine hK _ _ ⟨⟨_, L3.out.call hb4'⟩, rfl⟩ ?_
                  clear hK K
                  simp only [opsAt, List.getElem?_toArray, List.getElem?_cons_succ, List.getElem?_cons_zero]
                  repeat (go_big_quiet_step (fail))
                  refine wpQuiet_nil ?_
                  have K4 := Lib.hid (K3.out.call hb4')
                  have L4 := Lib.hid (L3.out.call hb4')
                  have y5 := (K4.out.at_ 5).trans rfl
                  have g5 := K4.out.free 5
                  have hz5 := K4.out.lt
                  (refine eff_lit rfl rfl (fun K hK => ?_))
                  go_big_op
                  refine hK _ _ ⟨⟨_, L4.out.far (p := ⟨wz.heap.size, 5, none⟩) (by simp) _⟩, rfl⟩ ?_
                  clear hK K y5 g5 e0 e1 e2 e3 hNE
                  simp only [opsAt, List.getElem?_toArray, List.getElem?_cons_succ, List.getElem?_cons_zero]
                  refine wpQuiet_nil ?_
                  refine effs_done ?_
                  have hK5 : Blk (w4.setCell ⟨wz.heap.size, 5, none⟩ (.int .u64 (q.last + (n3 : Nat)))) wz.heap.size 41 #[.int .i64 (b % 2), .int .i64 (b / 2 + 1), .int .i64 (n0 : Nat), .int .i64 (n1 : Nat), .int .i64 (n2 : Nat), .int .u64 (q.last + (n3 : Nat))] := K4.out.put 5 _
                  have hB5 : Below wz.heap.size wz (w4.setCell ⟨wz.heap.size, 5, none⟩ (.int .u64 (q.last + (n3 : Nat)))) := (hB3.trans (hb4'.mono (by have := K3.out.lt; omega))).setCell (p := ⟨wz.heap.size, 5, none⟩) (Nat.le_refl _) _
                  generalize w4.setCell ⟨wz.heap.size, 5, none⟩ (.int .u64 (q.last + (n3 : Nat))) = w5 at *
                  have hLK : lookS q.last (xs.drop q.data.length) = some ⟨b % 2, b / 2 + 1, n0, n1, n2, q.last + (n3 : Nat)⟩ := by
                    rw [HDROP.out, HLK.out, lookOf, if_neg (by simp only [List.getD_cons_zero, List.getD_cons_succ]; omega)]
                    rfl
                  obtain ⟨m, hm⟩ : ∃ m : MoveV, m = ⟨b % 2, b / 2 + 1, n0, n1, n2, q.last + (n3 : Nat)⟩ := ⟨_, rfl⟩
                  rw [← hm] at hLK
                  have hK5 : Blk w5 wz.heap.size 41 #[.int .i64 m.p, .int .i64 m.why, .int .i64 m.k, .int .i64 m.id, .int .i64 m.to, .int .u64 m.at_] := by rw [hm]; exact hK5
                  have HACC0 := Lib.hid (acc_look (s := q.sum) HM.out.ok.last0.1 hLK)
                  have hfit : Hid (q.last ≤ m.at_ ∧ m.at_ ≤ 18446744073709551615) := Lib.hid (by rw [hm]; exact ⟨by simp only []; omega, by simp only []; omega⟩)
                  have K5 := Lib.hid hK5
                  have HM5 := Lib.hid (HM.out.below hB5)
                  have hz5' := hB5.size
                  clear hK5 K4 L4 K3 L3 HLK hm hwr hnl hb4 hb4' hLK d0 d1 d2 k0 k1 k2 kov h640 h641 h642 h643 hB3 hlast hzk
                  have y0 := (K5.out.at_ 0).trans rfl
                  have y1 := (K5.out.at_ 1).trans rfl
                  have y2 := (K5.out.at_ 2).trans rfl
                  have y3 := (K5.out.at_ 3).trans rfl
                  have y4 := (K5.out.at_ 4).trans rfl
                  have y5 := (K5.out.at_ 5).trans rfl
                  have hz6 := K5.out.lt
                  go_wp2_with fail
                  cases hkept : keptB m with
                  | false =>
                    have HKEPT := Lib.hid hkept
                    clear hkept
                    have HFIN : Hid (readS (st0 key) xs = q) := Lib.hid (by rw [HE.out, readS_stop (by rw [HACC0.out, HKEPT.out]; simp)])
                    refine (can_f HKEPT.out _).mono ?_
                    rintro e w6 ⟨rfl, hb6⟩
                    have hB6 : Below w.heap.size w w6 := hB.trans ((hB5.trans (hb6.mono hz5')).mono (by omega))
                    have HM6 := Lib.hid (HM5.out.below hb6)
                    clear y0 y1 y2 y3 y4 y5
                    go_wp2
                    go_ret2
                    exact LReadEnd.mk_ HM6.out HFIN.out HF.out hB6
                  | true =>
                    have HKEPT := Lib.hid hkept
                    clear hkept
                    refine (can_t HKEPT.out _).mono ?_
                    rintro e w6 ⟨rfl, hb6⟩
                    have hB6z : Below wz.heap.size wz w6 := hB5.trans (hb6.mono hz5')
                    have hB6 : Below w.heap.size w w6 := hB.trans (hB6z.mono (by omega))
                    have HM6 := Lib.hid (HM5.out.below hb6)
                    have K6 := Lib.hid (K5.out.call hb6)
                    have hz66 := hB6z.size
                    have hz67 := K6.out.lt
                    have x1 := (HM6.out.blk.at_ 1).trans rfl
                    have HNM := Lib.hid HM6.out.nm_eq
                    clear y0 y1 y2 y3 y4 y5 hb6 K5 HM5
                    by_cases hcnt : q.mv.length < 4096
                    · have hnm : ¬ (4096 : Int) ≤ y.nm := by have := HNM.out; omega
                      have hNE : Nonempty (In (fun W => Blk W w.heap.size 31 #[.int .u32 q.key, .slice y.M y.nm y.cm, .slice y.E y.ne y.ce, .slice y.D y.nd y.cd, .int .u32 q.sum] ∧ Blk W wz.heap.size 41 #[.int .i64 m.p, .int .i64 m.why, .int .i64 m.k, .int .i64 m.id, .int .i64 m.to, .int .u64 m.at_])) := ⟨⟨_, HM6.out.blk, K6.out⟩⟩
                      have c0 : ∀ s : In (fun W => Blk W w.heap.size 31 #[.int .u32 q.key, .slice y.M y.nm y.cm, .slice y.E y.ne y.ce, .slice y.D y.nd y.cd, .int .u32 q.sum] ∧ Blk W wz.heap.size 41 #[.int .i64 m.p, .int .i64 m.why, .int .i64 m.k, .int .i64 m.id, .int .i64 m.to, .int .u64 m.at_]), s.W.cell? ⟨wz.heap.size, 0, none⟩ = some (.int .i64 m.p) := fun s => (s.h.2.at_ 0).trans rfl
                      have c1 : ∀ s : In (fun W => Blk W w.heap.size 31 #[.int .u32 q.key, .slice y.M y.nm y.cm, .slice y.E y.ne y.ce, .slice y.D y.nd y.cd, .int .u32 q.sum] ∧ Blk W wz.heap.size 41 #[.int .i64 m.p, .int .i64 m.why, .int .i64 m.k, .int .i64 m.id, .int .i64 m.to, .int .u64 m.at_]), s.W.cell? ⟨wz.heap.size, 1, none⟩ = some (.int .i64 m.why) := fun s => (s.h.2.at_ 1).trans rfl
                      have c2 : ∀ s : In (fun W => Blk W w.heap.size 31 #[.int .u32 q.key, .slice y.M y.nm y.cm, .slice y.E y.ne y.ce, .slice y.D y.nd y.cd, .int .u32 q.sum] ∧ Blk W wz.heap.size 41 #[.int .i64 m.p, .int .i64 m.why, .int .i64 m.k, .int .i64 m.id, .int .i64 m.to, .int .u64 m.at_]), s.W.cell? ⟨wz.heap.size, 2, none⟩ = some (.int .i64 m.k) := fun s => (s.h.2.at_ 2).trans rfl
                      have c3 : ∀ s : In (fun W => Blk W w.heap.size 31 #[.int .u32 q.key, .slice y.M y.nm y.cm, .slice y.E y.ne y.ce, .slice y.D y.nd y.cd, .int .u32 q.sum] ∧ Blk W wz.heap.size 41 #[.int .i64 m.p, .int .i64 m.why, .int .i64 m.k, .int .i64 m.id, .int .i64 m.to, .int .u64 m.at_]), s.W.cell? ⟨wz.heap.size, 3, none⟩ = some (.int .i64 m.id) := fun s => (s.h.2.at_ 3).trans rfl
                      have c4 : ∀ s : In (fun W => Blk W w.heap.size 31 #[.int .u32 q.key, .slice y.M y.nm y.cm, .slice y.E y.ne y.ce, .slice y.D y.nd y.cd, .int .u32 q.sum] ∧ Blk W wz.heap.size 41 #[.int .i64 m.p, .int .i64 m.why, .int .i64 m.k, .int .i64 m.id, .int .i64 m.to, .int .u64 m.at_]), s.W.cell? ⟨wz.heap.size, 4, none⟩ = some (.int .i64 m.to) := fun s => (s.h.2.at_ 4).trans rfl
                      have c5 : ∀ s : In (fun W => Blk W w.heap.size 31 #[.int .u32 q.key, .slice y.M y.nm y.cm, .slice y.E y.ne y.ce, .slice y.D y.nd y.cd, .int .u32 q.sum] ∧ Blk W wz.heap.size 41 #[.int .i64 m.p, .int .i64 m.why, .int .i64 m.k, .int .i64 m.id, .int .i64 m.to, .int .u64 m.at_]), s.W.cell? ⟨wz.heap.size, 5, none⟩ = some (.int .u64 m.at_) := fun s => (s.h.2.at_ 5).trans rfl
                      have e4 : ∀ s : In (fun W => Blk W w.heap.size 31 #[.int .u32 q.key, .slice y.M y.nm y.cm, .slice y.E y.ne y.ce, .slice y.D y.nd y.cd, .int .u32 q.sum] ∧ Blk W wz.heap.size 41 #[.int .i64 m.p, .int .i64 m.why, .int .i64 m.k, .int .i64 m.id, .int .i64 m.to, .int .u64 m.at_]), s.W.cell? ⟨w.heap.size, 4, none⟩ = some (.int .u32 q.sum) := fun s => (s.h.1.at_ 4).trans rfl
                      go_wp2
                      refine wp_region_sched (fun w' => ∃ s : In (fun W => Blk W w.heap.size 31 #[.int .u32 q.key, .slice y.M y.nm y.cm, .slice y.E y.ne y.ce, .slice y.D y.nd y.cd, .int .u32 q.sum] ∧ Blk W wz.heap.size 41 #[.int .i64 m.p, .int .i64 m.why, .int .i64 m.k, .int .i64 m.id, .int .i64 m.to, .int .u64 m.at_]), w' = s.W) [0,1,3,4,5,6] (.one 2 [] (.one 7 [8] .done)) (by kernel_rfl) (by kernel_rfl) (fun d _ _ _ _ h => by cases d <;> exact h) ⟨⟨_, HM6.out.blk.drew, K6.out.drew⟩, rfl⟩ ?_
                      simp only [opsAt, List.getElem?_toArray, List.getElem?_cons_succ, List.getElem?_cons_zero]
                      repeat (go_big_quiet_step (fail))
                      refine wpQuiet_nil ?_
                      (refine eff_lit rfl rfl (fun K hK => ?_))
                      go_big_op
                      refine (mlast_any w.heap.size q y _ (HM.out.below hB6z.drew)).mono ?_
                      rintro e w7 ⟨rfl, hb7⟩
                      have hb7' : Below w6.heap.size w6 w7 := Below.trans ((Below.refl _ _).drew) hb7
                      refine hK _ _ ⟨⟨_, HM6.out.blk.call hb7', K6.out.call hb7'⟩, rfl⟩ ?_
                      clear hK K
                      simp only [opsAt, List.getElem?_toArray, List.getElem?_cons_succ, List.getElem?_cons_zero]
                      refine wpQuiet_nil ?_
                      (refine eff_lit rfl rfl (fun K hK => ?_))
                      go_big_op
                      have hz7 := hb7'.size
                      refine (lrec_any m q.last q.sum _ HKEPT.out HM.out.ok.last0.1 hfit.out.1 hfit.out.2 HM.out.ok.sum0.1 HM.out.ok.sum0.2).mono ?_
                      rintro e w8 ⟨A8, c8, rfl, ho8, hb8⟩
                      have hb8' : Below w6.heap.size w6 w8 := hb7'.trans (hb8.mono hz7)
                      refine hK _ _ ⟨⟨_, HM6.out.blk.call hb8', K6.out.call hb8'⟩, rfl⟩ ?_
                      clear hK K
                      simp only [opsAt, List.getElem?_toArray, List.getElem?_cons_succ, List.getElem?_cons_zero]
                      repeat (go_big_quiet_step (fail))
                      refine wpQuiet_nil ?_
                      refine effs_done ?_
                      clear c0 c1 c2 c3 c4 c5 e4 hNE x1
                      have hB8z : Below wz.heap.size wz w8 := hB6z.trans (hb8'.mono hz66)
                      have K8 := Lib.hid (K6.out.call hb8')
                      have HO8 := Lib.hid ho8
                      clear hb7 hb7' hb8 hb8' ho8 K6 hz7
                      have hca : ¬ c = q.data.length := by omega
                      have hcut := ((HX.out _ (hB.trans (hB8z.mono (by omega)))).cut' (k := q.data.length) (by omega) hc)
                      rw [if_neg hca] at hcut
                      have HCUT := Lib.hid hcut
                      clear hcut
                      have hQL := HM.out.ok.last0
                      generalize hrec : recS q.last q.sum m = rec at *
                      generalize hl8 : rec.length = L8 at *
                      by_cases hfl : L8 ≤ n - q.data.length
                      · have v1 : ∀ s : Later w8.heap.size w8, (convert 23 9 (.slice A8 L8 c8)).run Try.prog s.W = .ok (.string (strOfNums rec)) s.W := fun s => convert_bytes (P := Try.prog) (HO8.out.reads.below s.h) c8 23 5 Try.underlying23 Try.underlying5 9 Try.underlying9
                        have HTK := Lib.hid (HCUT.out.head (k := L8) hfl)
                        have hdg : decide ((n : Int) - q.data.length < (L8 : Int)) = false := by rw [decide_eq_false_iff_not]; omega
                        have hsl : (q.data.length : Int) + L8 ≤ n := by omega
                        by_cases hpre : rec <+: xs.drop q.data.length
                        · have HTE : Hid ((xs.drop q.data.length).take L8 = rec) := Lib.hid (by
                            rw [List.prefix_iff_eq_take] at hpre
                            rw [← hl8]
                            exact hpre.symm)
                          have v2 : ∀ s : Later w8.heap.size w8, (convert 23 9 (.slice (some (ad.add q.data.length)) L8 (c - q.data.length))).run Try.prog s.W = .ok (.string (strOfNums rec)) s.W := fun s => by
                            have h := convert_bytes (P := Try.prog) (HTK.out.below s.h) (c - q.data.length) 23 5 Try.underlying23 Try.underlying5 9 Try.underlying9
                            rw [HTE.out] at h
                            exact h
                          have HPRE := Lib.hid hpre
                          have HACC : Hid (acc q.last q.sum (xs.drop q.data.length) = some m) := Lib.hid (by rw [HACC0.out, if_pos ⟨HKEPT.out, by first | exact hpre | (rw [hrec]; exact hpre)⟩])
                          have HREC := Lib.hid hrec
                          have HL8 := Lib.hid hl8
                          clear hpre hrec hl8 hca
                          go_wp2
                          refine wp_region_later (B := w8.heap.size) (w0 := w8) (Below.refl _ _) (by kernel_rfl) (by kernel_rfl) ?_
                          repeat (go_big_quiet_step (fail))
                          refine wpQuiet_nil ?_
                          intro _ hw'
                          obtain ⟨s, hw2⟩ := hw'
                          subst hw2
                          obtain ⟨w9, hb9⟩ := s
                          have hB9z : Below wz.heap.size wz w9 := hB8z.trans (hb9.mono (by have := hB8z.size; omega))
                          have hB9 : Below w.heap.size w w9 := hB.trans (hB9z.mono (by omega))
                          have HM9 := Lib.hid (HM.out.below hB9z)
                          have K9 := Lib.hid (K8.out.call hb9)
                          have y0 := (K9.out.at_ 0).trans rfl
                          have y1 := (K9.out.at_ 1).trans rfl
                          have y2 := (K9.out.at_ 2).trans rfl
                          have y3 := (K9.out.at_ 3).trans rfl
                          have y4 := (K9.out.at_ 4).trans rfl
                          have y5 := (K9.out.at_ 5).trans rfl
                          have hz9 := K9.out.lt
                          have hzw9 := hB9.size
                          clear v1 v2
                          go_wp2_with fail
                          refine (add_ok w.heap.size q y m _ HM9.out ⟨HKEPT.out, hfit.out.1, hfit.out.2⟩ hcnt HS.out).mono ?_
                          rintro e w10 ⟨y', rfl, hM10, hO10, hF10⟩
                          have hB10 : Below w.heap.size w w10 := hB9.trans (hO10.below hzw9 (fun i hi => by omega))
                          have HM10 := Lib.hid hM10
                          have HF10 := Lib.hid hF10
                          clear y0 y1 y2 y3 y4 y5 hM10 hF10 hO10
                          have HLN : Hid ((q.add m).data.length = q.data.length + L8) := Lib.hid (by
                            simp only [St.add, List.length_append]
                            rw [HREC.out, HL8.out])
                          have hL8 : 0 < L8 := by
                            rw [← HL8.out, ← HREC.out]
                            have := rec_len q.last q.sum m
                            omega
                          go_wp2
                          go_roundw
                          case rel => exact ⟨q.add m, y', by rw [HLN.out]; go_num, by rw [HLN.out]; omega, HM10.out, Lib.hid HM10.out.sep, Lib.hid (fun i hi => by
                            rcases HF10.out i hi with h | h
                            · omega
                            · omega), Lib.hid (by
                            rw [HE.out, readS_step HACC.out hcnt, List.drop_drop, HLN.out, HREC.out, HL8.out]), hB10⟩
                          case measure => simp [intOf]; omega
                        · have HNP : Hid (((strOfNums rec).toList == (strOfNums ((xs.drop q.data.length).take L8)).toList) = false) := Lib.hid (by
                            rw [str_inj HO8.out.reads.2 HTK.out.2, beq_eq_false_iff_ne]
                            intro h2
                            exact hpre (by rw [h2]; exact List.take_prefix _ _))
                          have v2 : ∀ s : Later w8.heap.size w8, (convert 23 9 (.slice (some (ad.add q.data.length)) L8 (c - q.data.length))).run Try.prog s.W = .ok (.string (strOfNums ((xs.drop q.data.length).take L8))) s.W := fun s => convert_bytes (P := Try.prog) (HTK.out.below s.h) (c - q.data.length) 23 5 Try.underlying23 Try.underlying5 9 Try.underlying9
                          have hnp := HNP.out
                          have HFIN : Hid (readS (st0 key) xs = q) := Lib.hid (by rw [HE.out, readS_stop (by rw [HACC0.out]; first | simp [hpre] | (rw [hrec]; simp [hpre]))])
                          clear hpre hrec hl8 hca
                          generalize strOfNums ((xs.drop q.data.length).take L8) = S2 at *
                          generalize strOfNums rec = S1 at *
                          go_wp2
                          refine wp_region_later (B := w8.heap.size) (w0 := w8) (Below.refl _ _) (by kernel_rfl) (by kernel_rfl) ?_
                          repeat (go_big_quiet_step (fail))
                          refine wpQuiet_nil ?_
                          intro _ hw'
                          obtain ⟨s, hw2⟩ := hw'
                          subst hw2
                          obtain ⟨w9, hb9⟩ := s
                          have hB9z : Below wz.heap.size wz w9 := hB8z.trans (hb9.mono (by have := hB8z.size; omega))
                          have hB9 : Below w.heap.size w w9 := hB.trans (hB9z.mono (by omega))
                          have HM9 := Lib.hid (HM.out.below hB9z)
                          have K9 := Lib.hid (K8.out.call hb9)
                          go_wp2
                          go_ret2
                          exact LReadEnd.mk_ HM9.out HFIN.out HF.out hB9
                      · have hdg : decide ((n : Int) - q.data.length < (L8 : Int)) = true := by rw [decide_eq_true_eq]; omega
                        have HFIN : Hid (readS (st0 key) xs = q) := Lib.hid (by
                          rw [HE.out, readS_stop]
                          rw [HACC0.out, if_neg]
                          rintro ⟨_, hp⟩
                          have h1 := hp.length_le
                          rw [List.length_drop, HL.out] at h1
                          first | omega | (rw [hrec, hl8] at h1; omega))
                        clear hrec hl8 hca
                        go_wp2
                        refine wp_region_later (B := w8.heap.size) (w0 := w8) (Below.refl _ _) (by kernel_rfl) (by kernel_rfl) ?_
                        repeat (go_big_quiet_step (fail))
                        refine wpQuiet_nil ?_
                        intro _ hw'
                        obtain ⟨s, hw2⟩ := hw'
                        subst hw2
                        obtain ⟨w9, hb9⟩ := s
                        have hB9z : Below wz.heap.size wz w9 := hB8z.trans (hb9.mono (by have := hB8z.size; omega))
                        have hB9 : Below w.heap.size w w9 := hB.trans (hB9z.mono (by omega))
                        have HM9 := Lib.hid (HM.out.below hB9z)
                        have K9 := Lib.hid (K8.out.call hb9)
                        go_wp2
                        go_ret2
                        exact LReadEnd.mk_ HM9.out HFIN.out HF.out hB9
                    · have hnm : (4096 : Int) ≤ y.nm := by have := HNM.out; omega
                      have HFIN : Hid (readS (st0 key) xs = q) := Lib.hid (by rw [HE.out, readS_full hcnt])
                      go_wp2
                      go_ret2
                      exact LReadEnd.mk_ HM6.out HFIN.out HF.out hB6

                · have hwr : IntKind.u64.wrap (q.last + (n3 : Int)) = q.last + (n3 : Int) - 18446744073709551616 := by rw [IntKind.wrap_u64]; omega
                  have HFIN : Hid (readS (st0 key) xs = q) := Lib.hid (by
                    rw [HE.out, HDROP.out, readS_stop (acc_look_none HM.out.ok.last0.1 (by rw [HLK.out, lookOf, if_pos (by simp only [List.getD_cons_zero, List.getD_cons_succ]; omega)]))])
                  go_wp2
                  refine wp_region_later (B := wy.heap.size) (w0 := wy) (Below.refl _ _) (by kernel_rfl) (by kernel_rfl) ?_
                  repeat (go_big_quiet_step ((first
                    | (go_at_call 26; with_reducible exact Calls.later (Nat.le_refl _) (mlast_any w.heap.size q y _ (HQ.out _))))))
                  refine wpQuiet_nil ?_
                  intro _ hw'
                  obtain ⟨s, hw2⟩ := hw'
                  subst hw2
                  obtain ⟨w2, hb2⟩ := s
                  have hB2 : Below wz.heap.size wz w2 := hB1.trans (hb2.mono (by have := hB1.size; omega))
                  have hB2w : Below w.heap.size w w2 := hB.trans (hB2.mono (by omega))
                  have HM2 := Lib.hid (HM.out.below hB2)
                  clear c0 c1 c2 c3
                  go_wp2
                  go_ret2
                  exact LReadEnd.mk_ HM2.out HFIN.out HF.out hB2w

              · have d2 : decide ((65535 : Int) < ((n2 : Nat) : Int)) = true := by rw [decide_eq_true_eq]; omega
                have HFIN : Hid (readS (st0 key) xs = q) := Lib.hid (by
                  rw [HE.out, HDROP.out, readS_stop (acc_look_none HM.out.ok.last0.1 (by rw [HLK.out, lookOf, if_pos (by simp only [List.getD_cons_zero, List.getD_cons_succ]; omega)]))])
                go_wp2
                refine wp_region_later (B := wy.heap.size) (w0 := wy) (Below.refl _ _) (by kernel_rfl) (by kernel_rfl) ?_
                repeat (go_big_quiet_step ((first
                  | (go_at_call 26; with_reducible exact Calls.later (Nat.le_refl _) (mlast_any w.heap.size q y _ (HQ.out _))))))
                refine wpQuiet_nil ?_
                intro _ hw'
                obtain ⟨s, hw2⟩ := hw'
                subst hw2
                obtain ⟨w2, hb2⟩ := s
                have hB2 : Below wz.heap.size wz w2 := hB1.trans (hb2.mono (by have := hB1.size; omega))
                have hB2w : Below w.heap.size w w2 := hB.trans (hB2.mono (by omega))
                have HM2 := Lib.hid (HM.out.below hB2)
                clear c0 c1 c2 c3
                go_wp2
                go_ret2
                exact LReadEnd.mk_ HM2.out HFIN.out HF.out hB2w

            · have d1 : decide ((65535 : Int) < ((n1 : Nat) : Int)) = true := by rw [decide_eq_true_eq]; omega
              have HFIN : Hid (readS (st0 key) xs = q) := Lib.hid (by
                rw [HE.out, HDROP.out, readS_stop (acc_look_none HM.out.ok.last0.1 (by rw [HLK.out, lookOf, if_pos (by simp only [List.getD_cons_zero, List.getD_cons_succ]; omega)]))])
              go_wp2
              refine wp_region_later (B := wy.heap.size) (w0 := wy) (Below.refl _ _) (by kernel_rfl) (by kernel_rfl) ?_
              repeat (go_big_quiet_step ((first
                | (go_at_call 26; with_reducible exact Calls.later (Nat.le_refl _) (mlast_any w.heap.size q y _ (HQ.out _))))))
              refine wpQuiet_nil ?_
              intro _ hw'
              obtain ⟨s, hw2⟩ := hw'
              subst hw2
              obtain ⟨w2, hb2⟩ := s
              have hB2 : Below wz.heap.size wz w2 := hB1.trans (hb2.mono (by have := hB1.size; omega))
              have hB2w : Below w.heap.size w w2 := hB.trans (hB2.mono (by omega))
              have HM2 := Lib.hid (HM.out.below hB2)
              clear c0 c1 c2 c3
              go_wp2
              go_ret2
              exact LReadEnd.mk_ HM2.out HFIN.out HF.out hB2w

          · have d0 : decide ((65535 : Int) < ((n0 : Nat) : Int)) = true := by rw [decide_eq_true_eq]; omega
            have HFIN : Hid (readS (st0 key) xs = q) := Lib.hid (by
              rw [HE.out, HDROP.out, readS_stop (acc_look_none HM.out.ok.last0.1 (by rw [HLK.out, lookOf, if_pos (by simp only [List.getD_cons_zero, List.getD_cons_succ]; omega)]))])
            go_wp2
            refine wp_region_later (B := wy.heap.size) (w0 := wy) (Below.refl _ _) (by kernel_rfl) (by kernel_rfl) ?_
            repeat (go_big_quiet_step ((first
              | (go_at_call 26; with_reducible exact Calls.later (Nat.le_refl _) (mlast_any w.heap.size q y _ (HQ.out _))))))
            refine wpQuiet_nil ?_
            intro _ hw'
            obtain ⟨s, hw2⟩ := hw'
            subst hw2
            obtain ⟨w2, hb2⟩ := s
            have hB2 : Below wz.heap.size wz w2 := hB1.trans (hb2.mono (by have := hB1.size; omega))
            have hB2w : Below w.heap.size w w2 := hB.trans (hB2.mono (by omega))
            have HM2 := Lib.hid (HM.out.below hB2)
            clear c0 c1 c2 c3
            go_wp2
            go_ret2
            exact LReadEnd.mk_ HM2.out HFIN.out HF.out hB2w


    · have HFIN : Hid (readS (st0 key) xs = q) := Lib.hid (by
        rw [HE.out, readS_stop]
        rw [List.drop_eq_nil_of_le (by rw [HL.out]; omega)]
        rfl)
      have hlt' : ¬ ((q.data.length : Int) < n) := by omega
      go_wp2
      go_ret2
      exact LReadEnd.mk_ HM.out HFIN.out HF.out hB
end Go.Proofs.Ythckmcpngpigkaa
