/-
  Texts: Rhj, Roa, Num.
-/
import Derived.Test.YtagpphelgghbpaaGreatAk24
import Derived.Test.YtagpphelgghbpaaGreatAk22
import Derived.Deep.QuietTactic
import Derived.BigQuiet
import Derived.Test.YtagpphelgghbpaaGreatAk12
import Derived.Test.YtagpphelgghbpaaGreatAk1
set_option linter.unusedSimpArgs false
set_option linter.unusedVariables false
namespace Go.Proofs.YtagpphelgghbpaaGreat
open Go.RowKit

def fltI (l : List Ob) (x : Int) : List Ob := l.filter fun o => decide (o.id = x)
theorem fltI_snoc {l : List Ob} {k : Nat} {p : Ob} (h : l[k]? = some p) (x : Int) : fltI (l.take (k + 1)) x = fltI (l.take k) x ++ (if p.id = x then [p] else []) := by
  unfold fltI
  rw [take_snoc h, List.filter_append]
  by_cases e : p.id = x <;> simp [e]
theorem fltI_one {l : List Ob} (hs : ∀ (i j : Nat) (x y : Ob), i < j → l[i]? = some x → l[j]? = some y → x.id < y.id) {o : Ob} (ho : o ∈ l) : fltI l o.id = [o] := by
  induction l with
  | nil => cases ho
  | cons a l ih =>
    have hs' : ∀ (i j : Nat) (x y : Ob), i < j → l[i]? = some x → l[j]? = some y → x.id < y.id := fun i j x y hij hx hy => hs (i + 1) (j + 1) x y (by omega) (by simpa using hx) (by simpa using hy)
    have hlt : ∀ p ∈ l, a.id < p.id := fun p hp => by
      obtain ⟨j, hj⟩ := List.getElem?_of_mem hp
      exact hs 0 (j + 1) a p (by omega) rfl (by simpa using hj)
    rcases List.mem_cons.1 ho with rfl | ho
    · unfold fltI
      rw [List.filter_cons_of_pos (by simp), List.filter_eq_nil_iff.2 (fun p hp => by have := hlt p hp; simp; omega)]
    · have h1 := hlt o ho
      have h2 := ih hs' ho
      unfold fltI at h2 ⊢
      rw [List.filter_cons_of_neg (by simp; omega), h2]
theorem fltI_le {l : List Ob} (hs : ∀ (i j : Nat) (x y : Ob), i < j → l[i]? = some x → l[j]? = some y → x.id < y.id) {o : Ob} (ho : o ∈ l) (k : Nat) : (fltI (l.take k) o.id).length ≤ 1 := by
  have h := (List.Sublist.filter (fun p : Ob => decide (p.id = o.id)) (List.take_sublist k l)).length_le
  have h1 : (fltI l o.id).length = 1 := by rw [fltI_one hs ho]; rfl
  unfold fltI at h1 ⊢
  omega
set_option maxRecDepth 100000 in
set_option maxHeartbeats 3200000 in
theorem robjs_any (b : Bd) (m : BdM) (s : Sl) (ids : List Int) (w : World) (h : BdR w b m) (hp : plcP b) (hl : Reads w 1 s.A ids.length (ics ids)) (hall : ∀ i ∈ ids, ∃ o ∈ b.objs, o.id = i) (hn : ids.length ≤ 500) :
    Calls Tryz.prog 75 #[.agg (b.cells m).toArray, .slice s.A ids.length s.c] w (SobEnd b.objs ids w) := by
  have HOK := Lib.hid (obs_ok hp)
  have HALL := Lib.hid hall
  obtain ⟨cs, hcs⟩ : ∃ cs, (b.cells m).toArray = cs := ⟨_, rfl⟩
  rw [hcs]
  obtain ⟨w1, hw1⟩ : ∃ x, w.alloc (.cells cs 33) = x := ⟨_, rfl⟩
  have HBOX : Hid (Blk w1 w.heap.size 33 cs) := Lib.hid (by rw [← hw1]; exact Blk.mk_ w _ _ _ rfl)
  have HB0 : Hid (Below w.heap.size w w1) := Lib.hid (by rw [← hw1]; exact (Below.refl _ _).alloc (Nat.le_refl _) _)
  obtain ⟨⟨OA, Oc⟩, hO⟩ : ∃ s, m.O = s := ⟨_, rfl⟩
  obtain ⟨⟨IA, Ic⟩, hI⟩ : ∃ t, s = t := ⟨_, rfl⟩
  subst hI
  obtain ⟨no, hno⟩ : ∃ n, b.objs.length = n := ⟨_, rfl⟩
  obtain ⟨ni, hni⟩ : ∃ n, ids.length = n := ⟨_, rfl⟩
  have hoo := h.Oo
  have HROW := Lib.hid h.O
  have E0 : Hid (cs[0]? = some (.slice OA no Oc)) := Lib.hid (by
    rw [← hcs]
    show some (m.O.v b.objs.length) = _
    rw [hO, hno]
    rfl)
  rw [hO, hno] at HROW hoo
  have hno9 : no ≤ 9223372036854775807 := by unfold Sl.ok at hoo; simp only at hoo; omega
  simp only [hni] at hl hn ⊢
  have HL := Lib.hid hl
  have HNI := Lib.hid hni
  have HNO := Lib.hid hno
  have HX0 : Hid (XOwns w1 w1.heap.size 46 12 none 0 0 (ocs ((ids.take 0).map (obI b.objs)))) := Lib.hid (XOwns.nil_ _ _ _ _)
  have HZ1 := Lib.hid (Nat.le_refl w1.heap.size)
  have HZ0 := Lib.hid HB0.out.size
  have HLT := Lib.hid HBOX.out.lt
  clear h hp hl hall hcs hO hno hni hoo
  go_enter Tryz.func75, Tryz.ntmps75
  go_wp2_with fail
  clear hw1
  go_loopw [5, 6] (fun a i W => ∃ (k : Nat) (A : Option Addr) (c : Nat), k ≤ ni ∧ i = .int .i64 k ∧ a = .slice A k c ∧ Hid (XOwns W w1.heap.size 46 12 A k c (ocs ((ids.take k).map (obI b.objs)))) ∧ Hid (Below w.heap.size w W) ∧ Hid (Blk W w.heap.size 33 cs) ∧ Hid (w1.heap.size ≤ W.heap.size)) (fun _ i _ => ni - (intOf i).toNat)
  case atStart => exact ⟨0, none, 0, Nat.zero_le _, rfl, rfl, HX0, HB0, HBOX, HZ1⟩
  case round =>
    obtain ⟨k, A, c, hk, rfl, rfl, HX, HB, HBL, HZ⟩ := hrel
    clear HX0 HB0 HBOX HZ1
    by_cases hkn : k < ni
    · have hkn' : (k : Int) < ni := by omega
      have HKN := Lib.hid hkn
      have hget := ith_get (xs := ids) (k := k) (by rw [HNI.out]; exact hkn)
      obtain ⟨x, hx⟩ : ∃ x, ith ids k = x := ⟨_, rfl⟩
      rw [hx] at hget
      have HGET := Lib.hid hget
      have HXE := Lib.hid hx
      clear hget hx
      obtain ⟨o, ho, hoi⟩ := HALL.out x (List.mem_of_getElem? HGET.out)
      have HOI := Lib.hid (show obI b.objs x = o by rw [← hoi]; exact obI_of HOK.out.2 ho)
      have HF1 : Hid (fltI b.objs x = [o]) := Lib.hid (by rw [← hoi]; exact fltI_one HOK.out.2 ho)
      have HFL : Hid (∀ j, (fltI (b.objs.take j) x).length ≤ 1) := Lib.hid (fun j => by rw [← hoi]; exact fltI_le HOK.out.2 ho j)
      clear ho hoi
      obtain ⟨L, hL⟩ : ∃ L, (ids.take k).map (obI b.objs) = L := ⟨_, rfl⟩
      have HLL : Hid (L.length = k) := Lib.hid (by rw [← hL, List.length_map, List.length_take, HNI.out]; omega)
      have HSP := Lib.hid (show (ids.take (k + 1)).map (obI b.objs) = L ++ [o] by rw [take_snoc HGET.out, List.map_append, List.map_cons, List.map_nil, HOI.out, hL])
      have HX' : Hid (XOwns wr w1.heap.size 46 12 A k c (ocs (L ++ fltI (b.objs.take 0) x))) := Lib.hid (by have h := HX.out; rw [hL] at h; rw [List.take_zero, show fltI [] x = [] from rfl, List.append_nil]; exact h)
      clear hL HX
      go_wp2_with fail
      go_loopw [5, 7] (fun a i W => ∃ (j n : Nat) (A : Option Addr) (c : Nat), j ≤ no ∧ n ≤ k + 1 ∧ i = .int .i64 j ∧ a = .slice A n c ∧ Hid (XOwns W w1.heap.size 46 12 A n c (ocs (L ++ fltI (b.objs.take j) x)) ∧ n = k + (fltI (b.objs.take j) x).length) ∧ Hid (Below w.heap.size w W) ∧ Hid (Blk W w.heap.size 33 cs) ∧ Hid (w1.heap.size ≤ W.heap.size)) (fun _ i _ => no - (intOf i).toNat)
      case atStart => exact ⟨0, k, A, c, Nat.zero_le _, by omega, rfl, rfl, Lib.hid ⟨HX'.out, rfl⟩, HB, HBL, HZ⟩
      case round =>
        obtain ⟨j, n, A, c, hj, hnk, rfl, rfl, HX, HB, HBL, HZ⟩ := hrel
        have b0 : wr.cell? ⟨w.heap.size, 0, none⟩ = some (.slice OA no Oc) := (HBL.out.at_ 0).trans E0.out
        by_cases hjn : j < no
        · have hjn' : (j : Int) < no := by omega
          have HJN := Lib.hid hjn
          obtain ⟨p, hp⟩ := get_of (l := b.objs) (k := j) (by rw [HNO.out]; exact hjn)
          have hrow := HROW.out.below HB.out
          obtain ⟨ao, rfl, hadl, c0, c1, c2, c3, c4, c5, c6, c7, c8, c9, c10, c11⟩ := obj_at hrow hp hjn
          obtain ⟨ad, rfl, -, d0⟩ := int_at (HL.out.below HB.out) HKN.out
          rw [HXE.out] at d0
          have HP := Lib.hid hp
          clear hrow hp hadl
          by_cases hpx : p.id = x
          · have hb : (p.id == x) = true := by simp [hpx]
            have HSN : Hid (fltI (b.objs.take (j + 1)) x = fltI (b.objs.take j) x ++ [p]) := Lib.hid (by rw [fltI_snoc HP.out, if_pos hpx])
            clear hpx
            have hnk1 : n + 1 ≤ k + 1 := by
              have h1 := HFL.out (j + 1)
              have h2 := HX.out.2
              rw [HSN.out, List.length_append, List.length_singleton] at h1
              omega
            go_wp2_with fail
            go_quiet (fail)
            obtain ⟨wq, hwq⟩ : ∃ z, wr.drewN nq = z := ⟨_, rfl⟩
            have hbq : Below wr.heap.size wr wq := by rw [← hwq]; exact below_drewN (Below.refl _ _) _
            have HXq := Lib.hid (HX.out.1.below hbq)
            have HBq := Lib.hid (below_call HB.out hbq HB.out.size)
            have HBLq := Lib.hid (HBL.out.call hbq)
            have HZq := Lib.hid (Nat.le_trans HZ.out hbq.size)
            have b0' : wq.cell? ⟨w.heap.size, 0, none⟩ = some (.slice (some ao) no Oc) := (HBLq.out.at_ 0).trans E0.out
            rw [hwq]
            clear hwq c0 c1 c2 c3 c4 c5 c6 c7 c8 c9 c10 c11 b0 d0
            obtain ⟨ao', ea, -, e0, e1, e2, e3, e4, e5, e6, e7, e8, e9, e10, e11⟩ := obj_at (HROW.out.below HBq.out) HP.out HJN.out
            injection ea with ea
            subst ea
            obtain ⟨w7, hw7⟩ : ∃ w7, wq.alloc (.cells #[.int .i64 p.id, .int .i64 p.card, .int .i64 p.own, .int .i64 p.pow, .int .i64 p.tou, .int .i64 p.dam, .int .i64 p.cnt, .int .i64 p.pp, .int .i64 p.pt, .bool p.tap, .bool p.sick, .bool p.doom] 46) = w7 := ⟨_, rfl⟩
            have HBK : Hid (Blk w7 wq.heap.size 46 #[.int .i64 p.id, .int .i64 p.card, .int .i64 p.own, .int .i64 p.pow, .int .i64 p.tou, .int .i64 p.dam, .int .i64 p.cnt, .int .i64 p.pp, .int .i64 p.pt, .bool p.tap, .bool p.sick, .bool p.doom]) := Lib.hid (by rw [← hw7]; exact Blk.mk_ _ _ _ _ rfl)
            have hal7 : Below wq.heap.size wq w7 := by rw [← hw7]; exact (Below.refl _ _).alloc (Nat.le_refl _) _
            have HX7 := Lib.hid (HXq.out.below hal7)
            have HB7 := Lib.hid (below_call HBq.out hal7 HBq.out.size)
            have HBL7 := Lib.hid (HBLq.out.call hal7)
            have HZ7 := Lib.hid (Nat.le_trans HZq.out hal7.size)
            clear hal7 hbq
            go_wp2_with (at_builtin; refine append_xr (w := w7) rfl (.tmp 32) (.tmp 38) 22 rfl w1.heap.size 46 _ 12 80 tinfo_objs Tryz.underlying22 rfl (by decide) A n c (ocs (L ++ fltI (b.objs.take j) x)) rfl HX7.out (some ⟨wq.heap.size, 0, none⟩) 1 1 (ocs [p]) rfl (fun h => by cases h) (reads_block HBK.out 12 1 rfl) (one_ocs _) (by omega) (by omega) HZ7.out ?_; intro A8 c8 w8 ho8 hb8)
            have HF8 : Hid (XOwns w8 w1.heap.size 46 12 A8 (n + 1) c8 (ocs (L ++ fltI (b.objs.take (j + 1)) x)) ∧ n + 1 = k + (fltI (b.objs.take (j + 1)) x).length) := Lib.hid ⟨by
              rw [HSN.out]
              (have h := ho8; rw [show ocs (L ++ fltI (b.objs.take j) x) ++ ocs [p] = ocs (L ++ (fltI (b.objs.take j) x ++ [p])) by simp [ocs]] at h; exact h), by rw [HSN.out, List.length_append, List.length_singleton]; have := HX.out.2; omega⟩
            have HB8 := Lib.hid (HB7.out.trans (hb8.mono HZ0.out))
            have HBL8 := Lib.hid (HBL7.out.below hb8 HLT.out)
            have HZ8 := Lib.hid (Nat.le_trans HZ7.out hb8.size)
            clear ho8 hb8 hw7
            go_wp2_with fail
            go_roundw
            case rel => exact ⟨j + 1, n + 1, A8, c8, HJN.out, hnk1, by go_num, rfl, HF8, HB8, HBL8, HZ8⟩
            case measure => simp [intOf]; have := HJN.out; omega
          · have hb : (p.id == x) = false := by simp [hpx]
            have HSN : Hid (fltI (b.objs.take (j + 1)) x = fltI (b.objs.take j) x) := Lib.hid (by rw [fltI_snoc HP.out, if_neg hpx, List.append_nil])
            clear hpx
            go_wp2_with fail
            go_quiet (fail)
            go_wp2_with fail
            go_roundw
            case rel => exact ⟨j + 1, n, A, c, HJN.out, hnk, by go_num, rfl, Lib.hid ⟨by rw [HSN.out]; exact HX.out.1.below (below_drewN (Below.refl _ _) _), by rw [HSN.out]; exact HX.out.2⟩, Lib.hid (below_drewN HB.out _), Lib.hid (HBL.out.call (below_drewN (Below.refl _ _) _)), HZ⟩
            case measure => simp [intOf]; have := HJN.out; omega
        · have HJE : Hid (j = no) := Lib.hid (by omega)
          have hjd : decide ((j : Int) < no) = false := decide_eq_false (by omega)
          have HXK : Hid (XOwns wr w1.heap.size 46 12 A n c (ocs (L ++ [o])) ∧ n = k + 1) := Lib.hid (by
            have h := HX.out
            rw [List.take_of_length_le (by rw [HNO.out, HJE.out]; exact Nat.le_refl _), HF1.out] at h
            exact h)
          clear hj
          go_wp2_with fail
          go_roundw
          case rel => exact ⟨k + 1, A, c, HKN.out, by go_num, by rw [HXK.out.2], Lib.hid (by have h := HXK.out.1; rw [HXK.out.2] at h; rw [HSP.out]; exact h), HB, HBL, HZ⟩
          case measure => simp [intOf]; have := HKN.out; omega
    · have HKE : Hid (k = ni) := Lib.hid (by omega)
      clear hk
      go_wp2_with fail
      go_ret
      refine ⟨A, c, by rw [HNI.out, HKE.out]; rfl, ?_, HB.out⟩
      have h := HX.out.more HZ0.out
      rw [List.take_of_length_le (by rw [HNI.out, HKE.out]; exact Nat.le_refl _)] at h
      rw [HNI.out, ← HKE.out]
      exact h

/-! ### Numbers in groups of seven bits -/
def numF : Nat → Nat → List Int
  | 0, n => [(n : Int)]
  | f + 1, n => if n < 128 then [(n : Int)] else ((n % 128 + 128 : Nat) : Int) :: numF f (n / 128)
def numS (n : Nat) : List Int := numF n n
theorem numF_enough : ∀ (f g n : Nat), n ≤ f → n ≤ g → numF f n = numF g n := by
  intro f
  induction f with
  | zero =>
    intro g n h _
    obtain rfl : n = 0 := by omega
    cases g <;> simp [numF]
  | succ f ih =>
    intro g n h hg
    cases g with
    | zero =>
      obtain rfl : n = 0 := by omega
      simp [numF]
    | succ g =>
      simp only [numF]
      split
      · rfl
      · rw [ih g (n / 128) (by omega) (by omega)]
theorem numS_lt {n : Nat} (h : n < 128) : numS n = [(n : Int)] := by
  unfold numS
  cases n with
  | zero => rfl
  | succ n => simp only [numF, if_pos h]
theorem numS_ge {n : Nat} (h : 128 ≤ n) : numS n = ((n % 128 + 128 : Nat) : Int) :: numS (n / 128) := by
  unfold numS
  obtain ⟨k, rfl⟩ : ∃ k, n = k + 1 := ⟨n - 1, by omega⟩
  rw [numF, if_neg (by omega), numF_enough k ((k + 1) / 128) ((k + 1) / 128) (by omega) (Nat.le_refl _)]
theorem numS_pos (n : Nat) : 1 ≤ (numS n).length := by
  rcases Nat.lt_or_ge n 128 with h | h
  · rw [numS_lt h]; simp
  · rw [numS_ge h]; simp
theorem numS_len : ∀ (k n : Nat), n < 128 ^ (k + 1) → (numS n).length ≤ k + 1 := by
  intro k
  induction k with
  | zero =>
    intro n h
    rw [numS_lt (by omega)]
    simp
  | succ k ih =>
    intro n h
    rcases Nat.lt_or_ge n 128 with h0 | h0
    · rw [numS_lt h0]; simp
    · rw [numS_ge h0]
      have := ih (n / 128) (by rw [Nat.div_lt_iff_lt_mul (by omega), ← Nat.pow_succ]; exact h)
      simp only [List.length_cons]
      omega
theorem numS_len10 {n : Nat} (h : n < 2 ^ 64) : (numS n).length ≤ 10 := numS_len 9 n (Nat.lt_trans h (by decide))

def getL : Nat → Nat → Nat → List Int → Nat × Nat
  | 0, _, _, _ => (0, 0)
  | _ + 1, _, _, [] => (0, 0)
  | f + 1, i, n, x :: xs => if (i = 9 ∧ 1 < x) ∨ (0 < i ∧ x = 0) then (0, 0) else if x < 128 then (n + x.toNat * 128 ^ i, i + 1) else getL f (i + 1) (n + (x.toNat % 128) * 128 ^ i) xs
def getS (xs : List Int) : Nat × Nat := getL 10 0 0 xs
theorem getL_num (ys : List Int) : ∀ (m i n : Nat), i ≤ 9 → n + m * 128 ^ i < 2 ^ 64 → (0 < i → 0 < m) → getL (10 - i) i n (numS m ++ ys) = (n + m * 128 ^ i, i + (numS m).length) := by
  intro m
  induction m using Nat.strongRecOn with
  | ind m ih =>
    intro i n hi hb hp
    obtain ⟨f, hf⟩ : ∃ f, 10 - i = f + 1 := ⟨9 - i, by omega⟩
    rw [hf]
    rcases Nat.lt_or_ge m 128 with h | h
    · rw [numS_lt h]
      simp only [List.cons_append, List.nil_append, getL]
      rw [if_neg, if_pos (by omega)]
      · simp
      · rintro (⟨rfl, h1⟩ | ⟨h1, h2⟩)
        · have : m * 128 ^ 9 < 2 ^ 64 := by omega
          have h2 : (2 : Nat) ^ 64 = 2 * 128 ^ 9 := by decide
          rw [h2] at this
          have := Nat.lt_of_mul_lt_mul_right this
          omega
        · have := hp h1
          omega
    · rw [numS_ge h]
      have hi9 : i ≠ 9 := by
        rintro rfl
        have : m * 128 ^ 9 < 2 ^ 64 := by omega
        have h2 : (2 : Nat) ^ 64 = 2 * 128 ^ 9 := by decide
        rw [h2] at this
        have := Nat.lt_of_mul_lt_mul_right this
        omega
      have hsplit : m * 128 ^ i = (m % 128) * 128 ^ i + (m / 128) * 128 ^ (i + 1) := by
        rw [Nat.pow_succ, Nat.mul_comm (128 ^ i) 128, ← Nat.mul_assoc, ← Nat.add_mul]
        congr 1
        omega
      simp only [List.cons_append, getL]
      rw [if_neg, if_neg (by omega)]
      · have hx : ((((m % 128 + 128 : Nat) : Int)).toNat % 128) = m % 128 := by omega
        rw [hx]
        have h1 := ih (m / 128) (by omega) (i + 1) (n + m % 128 * 128 ^ i) (by omega) (by rw [Nat.add_assoc, ← hsplit]; exact hb) (fun _ => by omega)
        rw [show 10 - (i + 1) = f by omega] at h1
        rw [h1, Nat.add_assoc, ← hsplit]
        simp only [List.length_cons, Prod.mk.injEq, true_and]
        omega
      · rintro (⟨h1, _⟩ | ⟨_, h2⟩)
        · exact hi9 h1
        · omega
theorem getS_num {n : Nat} (h : n < 2 ^ 64) (ys : List Int) : getS (numS n ++ ys) = (n, (numS n).length) := by
  have := getL_num ys n 0 0 (by omega) (by simpa using h) (fun h => absurd h (by omega))
  unfold getS
  simpa using this


def zig (n : Int) : Nat := if n < 0 then (-2 * n - 1).toNat else (2 * n).toNat
theorem zig_lt {n : Int} (h : wfI n) : zig n < 2 ^ 64 := by
  unfold wfI at h
  unfold zig
  split <;> omega
theorem zig_inj {a b : Int} (h : zig a = zig b) : a = b := by
  unfold zig at h
  split at h <;> split at h <;> omega
def vi (n : Int) : List Int := numS (zig n)
def vis (l : List Int) : List Int := l.flatMap vi
theorem vis_app (l m : List Int) : vis (l ++ m) = vis l ++ vis m := by simp [vis]
theorem vi_len {n : Int} (h : wfI n) : (vi n).length ≤ 10 := numS_len10 (zig_lt h)
theorem vis_len : ∀ {l : List Int}, (∀ x ∈ l, wfI x) → (vis l).length ≤ 10 * l.length
  | [], _ => by simp [vis]
  | x :: l, h => by
    have h1 := vi_len (h x (List.mem_cons_self ..))
    have h2 := vis_len (l := l) fun y hy => h y (List.mem_cons_of_mem _ hy)
    show (vi x ++ vis l).length ≤ _
    rw [List.length_append, List.length_cons]
    omega
theorem vis_inj : ∀ {l m : List Int}, (∀ x ∈ l, wfI x) → (∀ x ∈ m, wfI x) → vis l = vis m → l = m
  | [], [], _, _, _ => rfl
  | [], y :: m, _, _, h => by
    have h0 : [] = numS (zig y) ++ vis m := h
    have h1 := congrArg List.length h0
    have h2 := numS_pos (zig y)
    rw [List.length_append, List.length_nil] at h1
    omega
  | x :: l, [], _, _, h => by
    have h0 : numS (zig x) ++ vis l = [] := h
    have h1 := congrArg List.length h0
    have h2 := numS_pos (zig x)
    rw [List.length_append, List.length_nil] at h1
    omega
  | x :: l, y :: m, hl, hm, h => by
    have h0 : numS (zig x) ++ vis l = numS (zig y) ++ vis m := h
    have e1 := getS_num (zig_lt (hl x (List.mem_cons_self ..))) (vis l)
    have e2 := getS_num (zig_lt (hm y (List.mem_cons_self ..))) (vis m)
    rw [h0, e2] at e1
    injection e1 with e1 e3
    have hxy := zig_inj e1
    subst hxy
    rw [vis_inj (fun z hz => hl z (List.mem_cons_of_mem _ hz)) (fun z hz => hm z (List.mem_cons_of_mem _ hz)) (List.append_cancel_left h0)]
/-! ### The numbers of a view -/
def tf (b : Bool) : Int := if b then 1 else 0
def obN (o : Ob) : List Int := [o.id, o.card, o.own, o.pow, o.tou, o.dam, o.cnt, o.pp, o.pt, tf o.tap, tf o.sick, tf o.doom]
def obsN (l : List Ob) : List Int := (l.length : Int) :: l.flatMap obN
def tgN (t : Tg) : List Int := [t.id, t.pl]
def itN (x : It) : List Int := [x.pl, x.id, x.card, x.trg, (x.tgs.length : Int)] ++ x.tgs.flatMap tgN
def itsN (l : List It) : List Int := (l.length : Int) :: l.flatMap itN
def bkN (x : Bk) : List Int := [x.b, x.a]
def vsN (v : Vs) : List Int := [v.life, v.p0, v.p1, v.p2, v.p3, v.lib, v.hand] ++ (obsN v.fld ++ (obsN v.grv ++ [tf v.emp, tf v.ply, tf v.kpt, v.mul, v.act]))
def vwN (who : Int) (p : Pu) (hd : List Ob) : List Int := who :: (vsN p.v0 ++ (vsN p.v1 ++ (obsN hd ++ (itsN p.stk ++ (itsN p.que ++ ((p.att.length : Int) :: (p.att ++ ((p.blk.length : Int) :: (p.blk.flatMap bkN ++ [p.turn, p.actv, p.phs, p.hold, p.pas, -1, 0, 0, 0])))))))))
end Go.Proofs.YtagpphelgghbpaaGreat
