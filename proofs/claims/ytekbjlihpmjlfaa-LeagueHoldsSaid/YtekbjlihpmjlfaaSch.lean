/-
  Schedule.
-/
import Derived.Test.YtekbjlihpmjlfaaSchP
import Derived.Test.YtekbjlihpmjlfaaCrs
import Derived.Test.YtekbjlihpmjlfaaAppOp
import Derived.Deep.DeepCutAuto
set_option linter.unusedSimpArgs false
set_option linter.unusedVariables false
namespace Go.Proofs.Ytekbjlihpmjlfaa
open Go.RowKit

theorem Try.info55 : (Try.prog.info? 55).map (fun i => (i.zero, i.size, i.bytes)) = some (some (.slice none 0 0), 1, 24) := by kernel_rfl
theorem Try.info57 : (Try.prog.info? 57).map (fun i => (i.zero, i.size, i.bytes)) = some (some (.agg #[.int .i64 0, .int .i64 0]), 2, 16) := by kernel_rfl
set_option maxHeartbeats 800000 in
theorem duel_any (a b : Nat) (w : World) (ha : a ≤ 1000) (hb : b ≤ 1000) : Calls Try.prog 31 #[.int .i64 a, .int .i64 b] w fun e w' => e = .returned (.agg #[.int .i64 (D.of (dueN a b)).a, .int .i64 (D.of (dueN a b)).b]) ∧ Below w.heap.size w w' := by
  obtain ⟨lo, hlo⟩ : ∃ lo, min a b = lo := ⟨_, rfl⟩
  obtain ⟨hi, hhi⟩ : ∃ hi, max a b = hi := ⟨_, rfl⟩
  have e1 : min (a : Int) (b : Int) = (lo : Int) := by omega
  have e2 : max (a : Int) (b : Int) = (hi : Int) := by omega
  have h1 : lo ≤ 1000 := by omega
  have h2 : hi ≤ 1000 := by omega
  have hal : Hid (∀ cs, Below w.heap.size w (w.alloc (.cells cs 57))) := Lib.hid fun cs => (Below.refl _ _).alloc (Nat.le_refl _) _
  by_cases hp : (a + b) % 2 = 1
  · have HD : Hid (dueN a b = (hi, lo)) := Lib.hid (by unfold dueN; rw [if_pos hp, hlo, hhi])
    have hq : (((lo : Int) + hi) % 2 == 1) = true := by rw [beq_iff_eq]; omega
    clear hp hlo hhi
    go_enter Try.func31, Try.ntmps31
    go_wp2
    refine bodyPost_ret (v := .agg #[.int .i64 hi, .int .i64 lo]) (by simp [results, Try.results31, go_sem]) rfl ⟨?_, hal.out _⟩
    rw [HD.out]; rfl
  · have HD : Hid (dueN a b = (lo, hi)) := Lib.hid (by unfold dueN; rw [if_neg hp, hlo, hhi])
    have hq : (((lo : Int) + hi) % 2 == 1) = false := by rw [beq_eq_false_iff_ne]; omega
    clear hp hlo hhi
    go_enter Try.func31, Try.ntmps31
    go_wp2
    refine bodyPost_ret (v := .agg #[.int .i64 lo, .int .i64 hi]) (by simp [results, Try.results31, go_sem]) rfl ⟨?_, hal.out _⟩
    rw [HD.out]; rfl

/-! ### The schedule's memory -/
theorem dcells_len (l : List D) : (dcells l).length = l.length * 2 := flatMap_len (enc := D.cells) (fun _ => rfl) l
theorem dcells_one (l : List D) : ∀ u ∈ dcells l, u.oneCell' = true := by
  intro u hu
  simp only [dcells, List.mem_flatMap] at hu
  obtain ⟨d, _, hd⟩ := hu
  simp [D.cells] at hd
  rcases hd with rfl | rfl <;> rfl
def outD (G C : Nat → Nat) (n k : Nat) (v : Value) (M : Nat) : List Value := (List.range M).map fun i => if i < k then .slice (some ⟨G i, 0, none⟩) (schS n i).length (C i) else if i = k then v else .slice none 0 0
theorem outD_at {G C : Nat → Nat} {n k M : Nat} {v : Value} (h : k < M) : (outD G C n k v M)[k]? = some v := by
  unfold outD
  rw [List.getElem?_map, List.getElem?_range h]
  simp
theorem outD_in {G C : Nat → Nat} {n k M i : Nat} {v : Value} (h : i < M) (hk : i < k) : (outD G C n k v M)[i]? = some (.slice (some ⟨G i, 0, none⟩) (schS n i).length (C i)) := by
  unfold outD
  rw [List.getElem?_map, List.getElem?_range h]
  simp [hk]
theorem outD_set {G C : Nat → Nat} {n k M : Nat} {v v' : Value} (h : k < M) : (outD G C n k v M).set k v' = outD G C n k v' M := by
  refine List.ext_getElem? fun i => ?_
  rcases Nat.lt_or_ge i M with hi | hi
  · rw [List.getElem?_set]
    unfold outD
    simp only [List.length_map, List.length_range, List.getElem?_map, List.getElem?_range hi, Option.map_some]
    by_cases hik : k = i
    · subst hik; simp [h]
    · rw [if_neg hik]
      by_cases h1 : i < k
      · rw [if_pos h1, if_pos h1]
      · rw [if_neg h1, if_neg h1, if_neg (by omega), if_neg (by omega)]
  · rw [List.getElem?_eq_none (by simp [outD]; exact hi), List.getElem?_eq_none (by simp [outD]; exact hi)]
theorem outD_next {G C : Nat → Nat} {n k M g c : Nat} : outD G C n k (.slice (some ⟨g, 0, none⟩) (schS n k).length c) M = outD (updF G k g) (updF C k c) n (k + 1) (.slice none 0 0) M := by
  unfold outD updF
  refine List.map_congr_left fun i _ => ?_
  by_cases h1 : i < k
  · rw [if_pos h1, if_pos (by omega), if_neg (by omega), if_neg (by omega)]
  · rw [if_neg h1]
    by_cases h2 : i = k
    · subst h2; rw [if_pos rfl, if_pos (by omega), if_pos rfl, if_pos rfl]
    · rw [if_neg h2, if_neg (by omega)]
      split <;> rfl
structure SchM (B gO M k : Nat) (G C : Nat → Nat) (n : Nat) (A : Option Addr) (q c : Nat) (cur : List D) (W : World) : Prop where
  O : XOwns W B 55 1 (some ⟨gO, 0, none⟩) M M (outD G C n k (.slice A q c) M)
  I : ∀ i, i < k → XOwns W B 57 2 (some ⟨G i, 0, none⟩) (schS n i).length (C i) (dcells (schS n i))
  cur_ : XOwns W B 57 2 A q c (dcells cur)
  lt : ∀ i, i < k → ∀ g, blkOf A = some g → G i < g
  inc : ∀ i j, i < j → j < k → G i < G j
section
variable {B gO M k : Nat} {G C : Nat → Nat} {n : Nat} {A : Option Addr} {q c : Nat} {cur : List D} {W W' : World}
theorem SchM.below (h : SchM B gO M k G C n A q c cur W) (hb : Below W.heap.size W W') : SchM B gO M k G C n A q c cur W' := ⟨h.O.below hb, fun i hi => (h.I i hi).below hb, h.cur_.below hb, h.lt, h.inc⟩
theorem SchM.ne (h : SchM B gO M k G C n A q c cur W) {i : Nat} (hi : i < k) : blkOf (some (⟨G i, 0, none⟩ : Addr)) = none ∨ blkOf (some (⟨G i, 0, none⟩ : Addr)) ≠ blkOf A := .inr fun e => by
  have := h.lt i hi (G i) e.symm
  omega
theorem SchM.turn (h : SchM B gO M k G C n A q c cur W) (hg : W.grownBy W' (blkOf A)) {cur' : List D} (ho : XOwns W' B 57 2 A q c (dcells cur')) : SchM B gO M k G C n A q c cur' W' :=
  ⟨h.O.grown hg (h.O.apart h.cur_ (by decide)), fun i hi => (h.I i hi).grown hg (h.ne hi), ho, h.lt, h.inc⟩
theorem SchM.app (h : SchM B gO M k G C n A q c cur W) (hk : k < M) (hg : W.grownBy W' (blkOf A)) {g c2 : Nat} {d : D} (ho : XOwns W' B 57 2 (some ⟨g, 0, none⟩) (q + 1) c2 (dcells (cur ++ [d]))) (hi : blkOf A = some g ∨ g = W.heap.size) :
    SchM B gO M k G C n (some ⟨g, 0, none⟩) (q + 1) c2 (cur ++ [d]) (W'.setCell ⟨gO, k, none⟩ (.slice (some ⟨g, 0, none⟩) (q + 1) c2)) := by
  have hO := h.O.grown hg (h.O.apart h.cur_ (by decide))
  refine ⟨?_, fun i hi2 => ?_, ?_, fun i hi2 g' hg' => ?_, h.inc⟩
  · have := hO.setX k (.slice (some ⟨g, 0, none⟩) (q + 1) c2)
    rwa [outD_set hk] at this
  · refine ((h.I i hi2).grown hg (h.ne hi2)).put ?_
    rcases ((h.I i hi2).grown hg (h.ne hi2)).apart hO (by decide) with h1 | h1
    · cases h1
    · exact h1
  · refine ho.put ?_
    rcases ho.apart hO (by decide) with h1 | h1
    · cases h1
    · exact h1
  · injection hg' with hg'
    have e : g = g' := hg'
    subst e
    rcases hi with h1 | h1
    · exact h.lt i hi2 g h1
    · have := ((h.I i hi2).lt (G i) rfl).2
      omega
theorem SchM.next {g : Nat} (h : SchM B gO M k G C n (some ⟨g, 0, none⟩) (schS n k).length c (schS n k) W) : SchM B gO M (k + 1) (updF G k g) (updF C k c) n none 0 0 [] W := by
  refine ⟨by rw [← outD_next]; exact h.O, fun i hi => ?_, XOwns.nil_ _ _ _ _, (fun i hi g hg => by cases hg), fun i j hij hj => ?_⟩
  · unfold updF
    by_cases hik : i = k
    · subst hik; rw [if_pos rfl, if_pos rfl]; exact h.cur_
    · rw [if_neg hik, if_neg hik]; exact h.I i (by omega)
  · unfold updF
    rw [if_neg (show i ≠ k by omega)]
    by_cases hjk : j = k
    · rw [if_pos hjk]; exact h.lt i (by omega) g rfl
    · rw [if_neg hjk]; exact h.inc i j hij (by omega)
theorem SchM.cell (h : SchM B gO M k G C n A q c cur W) (hk : k < M) : W.cell? ⟨gO, k, none⟩ = some (.slice A q c) ∧ W.frozen? ⟨gO, k, none⟩ = false ∧ gO < W.heap.size := by
  obtain ⟨g', hg, _, h2, hc, hf⟩ := h.O.cell (outD_at (G := G) (C := C) (n := n) (v := .slice A q c) hk)
  injection hg with hg
  injection hg with hg
  subst hg
  exact ⟨hc, hf, h2⟩
end
/-- What Schedule hands back. -/
def SchEnd (n M : Nat) (w : World) (e : Ending) (w' : World) : Prop := ∃ gO G C, e = .returned (.tuple #[.slice (some ⟨gO, 0, none⟩) M M, .int .i64 0]) ∧ SchM w.heap.size gO M M G C n none 0 0 [] w' ∧ Below w.heap.size w w'
set_option maxHeartbeats 800000 in
theorem schedule_bad (n : Int) (w : World) (h : n < 2 ∨ 40 < n) : Calls Try.prog 18 #[.int .i64 n] w fun e w' => e = .returned (.tuple #[.slice none 0 0, .int .i64 2]) ∧ w = w' := by
  rcases Int.lt_or_le n 2 with h1 | h1
  · clear h
    go_enter Try.func18, Try.ntmps18
    go_wp2
    go_ret2
    exact ⟨rfl, rfl⟩
  · have h2 : 40 < n := by omega
    have h3 : decide (n < 2) = false := decide_eq_false (by omega)
    clear h h1
    go_enter Try.func18, Try.ntmps18
    go_wp2
    go_ret2
    exact ⟨rfl, rfl⟩
theorem rawS_snoc {n r k : Nat} : rawS n r (k + 1) = rawS n r k ++ [D.of (dueN ((r + (k + 1)) % (evN n - 1)) ((r + (evN n - 1) - (k + 1)) % (evN n - 1)))] := by
  unfold rawS rawK
  rw [List.range_succ]
  simp

set_option maxRecDepth 100000 in
set_option maxHeartbeats 3200000 in
theorem schedule_ok (n : Nat) (w : World) (hn : 2 ≤ n ∧ n ≤ 40) : Calls Try.prog 18 #[.int .i64 n] w (SchEnd n (evN n - 1) w) := by
  obtain ⟨hn1, hn2⟩ := hn
  have t1 : decide ((n : Int) < 2) = false := decide_eq_false (by omega)
  have t2 : decide ((40 : Int) < n) = false := decide_eq_false (by omega)
  have HALL : Hid (∀ r, r < evN n - 1 → okN n r = true) := Lib.hid (all_ok n (by omega) hn1)
  obtain ⟨E, hE⟩ : ∃ E, evN n = E := ⟨_, rfl⟩
  obtain ⟨M, hM⟩ : ∃ M, E - 1 = M := ⟨_, rfl⟩
  have hEn : n ≤ E ∧ E ≤ 40 ∧ E % 2 = 0 ∧ n + n % 2 = E := by unfold evN at hE; omega
  have HE := Lib.hid hE
  have HM := Lib.hid hM
  rw [hE] at HALL ⊢
  rw [hM] at HALL ⊢
  have em : (n : Int) + (n : Int) % 2 = (E : Int) := by omega
  have em1 : (E : Int) - 1 = (M : Int) := by omega
  have hM0 : 1 ≤ M ∧ M ≤ 39 := by omega
  obtain ⟨hMl, hMu⟩ := hM0
  obtain ⟨hE1, hE2, hE3, hE4⟩ := hEn
  clear hE
  go_enter Try.func18, Try.ntmps18
  go_wp2_with (at_make; refine make_k _ rfl (.tmp 19) (.tmp 19) 47 rfl w.heap.size 55 (.slice none 0 0) 1 24 Try.info55 Try.underlying47 rfl (by decide) .i64 .i64 _ _ M rfl rfl rfl rfl ?_ ?_ ?_ ?_; omega; omega; exact Nat.le_refl _; intro w2 ho2 hb2)
  rw [rep_one _ _ rfl] at ho2
  have HC0 : Hid (SchM w.heap.size w.heap.size M 0 (fun _ => 0) (fun _ => 0) n none 0 0 [] w2) := Lib.hid ⟨by (have h := ho2; rwa [show List.replicate M (Value.slice none 0 0) = outD (fun _ => 0) (fun _ => 0) n 0 (.slice none 0 0) M by (unfold outD; rw [← rep_map]; refine List.map_congr_left fun i _ => ?_; rw [if_neg (Nat.not_lt_zero _)]; split <;> rfl)] at h), (fun i hi => absurd hi (by omega)), XOwns.nil_ _ _ _ _, (fun i hi => absurd hi (by omega)), fun i j _ hj => absurd hj (by omega)⟩
  clear ho2
  obtain ⟨gO, hgO⟩ : ∃ g, w.heap.size = g := ⟨_, rfl⟩
  have HG := Lib.hid hgO
  have HB2 : Hid (Below gO w w2) := Lib.hid (by rw [← hgO]; exact hb2)
  rw [hgO] at HC0 ⊢
  clear hb2 hgO
  go_loopw [23] (fun i W => ∃ (r : Nat) (G C : Nat → Nat), r ≤ M ∧ i = .int .i64 r ∧ Hid (SchM gO gO M r G C n none 0 0 [] W) ∧ Hid (Below gO w W)) (fun i _ => M - (intOf i).toNat)
  case atStart => exact ⟨0, _, _, Nat.zero_le _, rfl, HC0, HB2⟩
  case round =>
    obtain ⟨r, G, C, hr, rfl, HC, HB⟩ := hrel
    clear HC0 HB2
    by_cases hlt : r < M
    · have hlt' : (r : Int) < M := by omega
      --@@ROUND
      have hok := HALL.out r hlt
      have HOK := Lib.hid hok
      have hr38 : r ≤ 39 := by omega
      clear hok
      go_upto_if 28 with fail
      go_cut [28] (fun b W => ∃ (A : Option Addr) (q c : Nat), q ≤ 1 ∧ Hid (SchM gO gO M r G C n A q c (rawS n r 0) W) ∧ Hid (Below gO w W))
      case first =>
        by_cases hev : E = n
        · have hbv : ((E : Int) == n) = true := by rw [beq_iff_eq]; omega
          have HR0 : Hid (rawS n r 0 = [] ++ [D.of (dueN M r)]) := Lib.hid (by unfold rawS rawK; rw [HE.out, if_pos hev, HM.out]; simp)
          obtain ⟨A, hA⟩ : ∃ A : Option Addr, A = none := ⟨_, rfl⟩
          obtain ⟨q, hq⟩ : ∃ q : Nat, q = 0 := ⟨_, rfl⟩
          obtain ⟨c, hc⟩ : ∃ c : Nat, c = 0 := ⟨_, rfl⟩
          have HCA : Hid (SchM gO gO M r G C n A q c [] wr) := Lib.hid (by rw [hA, hq, hc]; exact HC.out)
          have hq1 : q ≤ 0 := by omega
          have hwm : IntKind.i64.wrap ((E : Int) - 1) = (M : Int) := by rw [em1]; exact IntWalk.i64_in _ (by omega)
          clear hA hq hc hev
          go_wp2
          obtain ⟨k1, k1f, k1l⟩ := HCA.out.cell hlt
          have x0 : ∀ s : Later wr.heap.size wr, s.W.cell? ⟨gO, r, none⟩ = some (.slice A q c) := fun s => (s.h.cell (p := ⟨gO, r, none⟩) k1l).trans k1
          have hwz : gO ≤ wr.heap.size := by omega
          refine wp_region_late (Ph (fun w' => ∃ s : Later wr.heap.size wr, w' = s.W) (fun _ => True)) [11] [0,1,2,3,4,5,6,7,8] (.one 9 [] (.one 10 [] (.one 11 [12] (.one 13 [] .done)))) (by kernel_rfl) (by kernel_rfl) (fun d _ _ _ _ h => by cases d <;> exact h) ⟨⟨_, (Below.refl _ _).drew⟩, rfl⟩ ?_
          refine quiet_as (C' := (fun w' => ∃ s : Later wr.heap.size wr, w' = s.W)) rfl ?_
          simp only [opsAt, List.getElem?_toArray, List.getElem?_cons_succ, List.getElem?_cons_zero]
          repeat (go_big_quiet_step (fail))
          refine wpQuiet_nil ?_
          refine eff_as (C' := (fun w' => ∃ s : Later wr.heap.size wr, w' = s.W)) rfl ?_
          (refine eff_lit rfl rfl (fun K hK => ?_))
          go_big_op
          refine (duel_any M r _ (by omega) (by omega)).mono ?_
          rintro e w5 ⟨rfl, hb5⟩
          have hB5 : Below wr.heap.size wr w5 := (Below.refl _ _).drew.trans hb5
          have hz5 := hB5.size
          refine hK _ _ ⟨⟨_, hB5⟩, rfl⟩ ?_
          clear hK K x0
          simp only [opsAt, List.getElem?_toArray, List.getElem?_cons_succ, List.getElem?_cons_zero]
          repeat (go_big_quiet_step (fail))
          refine wpQuiet_nil ?_
          refine eff_as (C' := (fun w' => ∃ s : Later wr.heap.size wr, w' = s.W)) rfl ?_
          (refine eff_lit rfl rfl (fun K hK => ?_))
          go_big_op
          obtain ⟨dd, hdd⟩ : ∃ dd, D.of (dueN M r) = dd := ⟨_, rfl⟩
          have HDD := Lib.hid hdd
          rw [hdd]
          have hB6 : Below wr.heap.size wr (w5.alloc (.cells #[.int .i64 dd.a, .int .i64 dd.b] 57)) := hB5.alloc hz5 _
          have HBL := Lib.hid (Blk.mk_ w5 57 #[.int .i64 dd.a, .int .i64 dd.b] _ rfl)
          have HC6 := Lib.hid (HCA.out.below hB6)
          refine hK _ _ ⟨⟨_, hB6⟩, rfl⟩ ?_
          clear hK K hdd
          simp only [opsAt, List.getElem?_toArray, List.getElem?_cons_succ, List.getElem?_cons_zero]
          repeat (go_big_quiet_step (fail))
          refine wpQuiet_nil ?_
          refine eff_as (C' := fun _ => True) rfl ?_
          (refine eff_lit rfl rfl (fun K hK => ?_))
          refine append_x_op (w := (w5.alloc (.cells #[.int .i64 dd.a, .int .i64 dd.b] 57))) (.tmp 34) (.tmp 39) 55 rfl gO 57 (.agg #[.int .i64 0, .int .i64 0]) 2 16 Try.info57 Try.underlying55 rfl (by decide) A q c (dcells ([] : List D)) rfl HC6.out.cur_ (some ⟨w5.heap.size, 0, none⟩) 1 1 (dcells [dd]) rfl (reads_block HBL.out 2 1 rfl) (dcells_one _) (by decide) (by omega) (by omega) (by have := hB6.size; omega) _ rfl ?_
          intro g7 c7 w7 ho7 hg7 hi7 hlt7
          simp only [Act.put, List.setIfInBounds_toArray, List.set_cons_succ, List.set_cons_zero]
          have HC8 := Lib.hid (HC6.out.app hlt hg7 (g := g7) (c2 := c7) (d := dd) (by have h := ho7; rwa [show dcells ([] : List D) ++ dcells [dd] = dcells (([] : List D) ++ [dd]) by simp [dcells]] at h) hi7)
          have HB8 : Hid (Below gO w (w7.setCell ⟨gO, r, none⟩ (.slice (some ⟨g7, 0, none⟩) (q + 1) c7))) := Lib.hid (((HB.out.trans (hB6.mono hwz)).trans (grown_below hg7 (by have := hB6.size; omega) (fun i hi => (HC6.out.cur_.lt i hi).1))).setCell (p := ⟨gO, r, none⟩) (Nat.le_refl _) _)
          have HO7 := Lib.hid (HC6.out.O.grown hg7 (HC6.out.O.apart HC6.out.cur_ (by decide)))
          obtain ⟨g8, hg8, _, k2l, k2, k2f⟩ := HO7.out.cell (outD_at (G := G) (C := C) (n := n) (v := .slice A q c) hlt)
          injection hg8 with hg8
          injection hg8 with hg8
          subst hg8
          refine hK _ _ trivial ?_
          clear hK K ho7 hg7 hi7
          simp only [opsAt, List.getElem?_toArray, List.getElem?_cons_succ, List.getElem?_cons_zero]
          repeat (go_big_quiet_step (fail))
          refine wpQuiet_nil ?_
          refine eff_as (C' := fun _ => True) rfl ?_
          (refine eff_lit rfl rfl (fun K hK => ?_))
          go_big_op
          refine hK _ _ trivial ?_
          clear hK K k2 k2f k2l k1 k1f k1l
          simp only [opsAt, List.getElem?_toArray, List.getElem?_cons_succ, List.getElem?_cons_zero]
          refine wpQuiet_nil ?_
          refine effs_done ?_
          generalize w7.setCell ⟨gO, r, none⟩ (.slice (some ⟨g7, 0, none⟩) (q + 1) c7) = w8 at *
          go_wp2
          go_meet
          case rel => exact ⟨some ⟨g7, 0, none⟩, q + 1, c7, by omega, Lib.hid (by rw [HR0.out, HDD.out]; exact HC8.out), HB8⟩
        · have hbv : ((E : Int) == n) = false := by rw [beq_eq_false_iff_ne]; omega
          have HR0 : Hid (rawS n r 0 = []) := Lib.hid (by unfold rawS rawK; rw [HE.out, if_neg hev]; rfl)
          clear hev
          go_wp2
          go_meet
          case rel => exact ⟨none, 0, 0, by omega, Lib.hid (by rw [HR0.out]; exact HC.out), HB⟩
      case rest =>
        obtain ⟨A0, q0, c0, hq0, HC1, HB1⟩ := hcut
        generalize wc = wz at *
        obtain ⟨H, hH⟩ : ∃ H, E / 2 = H := ⟨_, rfl⟩
        have eH : (E : Int) / 2 = (H : Int) := by omega
        have hH1 : 1 ≤ H ∧ H ≤ 20 := by omega
        obtain ⟨hHl, hHu⟩ := hH1
        have HHH := Lib.hid hH
        have hz1 := HB1.out.size
        clear HC HB hH
        go_wp2
        go_loopw [7] (fun i W => ∃ (k : Nat) (A : Option Addr) (q c : Nat), k + 1 ≤ H ∧ i = .int .i64 ((k + 1 : Nat) : Int) ∧ q ≤ k + 1 ∧ Hid (SchM gO gO M r G C n A q c (rawS n r k) W) ∧ Hid (Below gO w W)) (fun i _ => H - (intOf i).toNat)
        case atStart => exact ⟨0, A0, q0, c0, hHl, rfl, by omega, HC1, HB1⟩
        case round =>
          obtain ⟨k, A, q, c, hk, rfl, hqk, HC, HB⟩ := hrel
          clear HC1 HB1
          by_cases hlt2 : k + 1 < H
          · have hlt2' : ((k + 1 : Nat) : Int) < H := by omega
            obtain ⟨kk, hkk⟩ : ∃ kk, k + 1 = kk := ⟨_, rfl⟩
            rw [hkk] at hlt2' ⊢
            have hk1 : 1 ≤ kk ∧ kk ≤ 19 ∧ kk < M := by omega
            obtain ⟨hkl, hku, hkM⟩ := hk1
            obtain ⟨X, hX⟩ : ∃ X, (r + kk) % M = X := ⟨_, rfl⟩
            obtain ⟨Z, hZ⟩ : ∃ Z, r + M - kk = Z := ⟨_, rfl⟩
            obtain ⟨Y, hY⟩ : ∃ Y, Z % M = Y := ⟨_, rfl⟩
            have hXl : X ≤ 1000 := by have := Nat.mod_lt (r + kk) (show 0 < M by omega); omega
            have hYl : Y ≤ 1000 := by have := Nat.mod_lt Z (show 0 < M by omega); omega
            have HSN : Hid (rawS n r kk = rawS n r k ++ [D.of (dueN X Y)]) := Lib.hid (by rw [← hkk, rawS_snoc, HE.out, HM.out, hkk, hX, hZ, hY])
            have f1 : IntKind.i64.wrap ((r : Int) + kk) = ((r + kk : Nat) : Int) := by rw [IntWalk.i64_in _ (by omega)]; omega
            have f2 : IntKind.i64.wrap ((E : Int) - 1) = (M : Int) := by rw [em1]; exact IntWalk.i64_in _ (by omega)
            have f3 : (((r + kk : Nat) : Int)).tmod (M : Int) = (X : Int) := by rw [← hX, Int.tmod_eq_emod_of_nonneg (by omega)]; simp
            obtain ⟨d1, hd1⟩ : ∃ d1 : Int, (r : Int) - kk = d1 := ⟨_, rfl⟩
            have f4 : IntKind.i64.wrap ((r : Int) - kk) = d1 := by rw [hd1]; exact IntWalk.i64_in _ (by omega)
            obtain ⟨d2, hd2⟩ : ∃ d2 : Int, d1 + E = d2 := ⟨_, rfl⟩
            have f5 : IntKind.i64.wrap (d1 + E) = d2 := by rw [hd2]; exact IntWalk.i64_in _ (by omega)
            have f6 : IntKind.i64.wrap (d2 - 1) = (Z : Int) := by rw [IntWalk.i64_in _ (by omega)]; omega
            have f7 : ((Z : Int)).tmod (M : Int) = (Y : Int) := by rw [← hY, Int.tmod_eq_emod_of_nonneg (by omega)]; simp
            have hMz : ((M : Int) == 0) = false := by rw [beq_eq_false_iff_ne]; omega
            have HKK := Lib.hid hkk
            generalize ((r + kk : Nat) : Int) = s1 at *
            clear hX hZ hY hd1 hd2 hkk
            go_wp2
            obtain ⟨k1, k1f, k1l⟩ := HC.out.cell hlt
            have x0 : ∀ s : Later wr.heap.size wr, s.W.cell? ⟨gO, r, none⟩ = some (.slice A q c) := fun s => (s.h.cell (p := ⟨gO, r, none⟩) k1l).trans k1
            have hwz : gO ≤ wr.heap.size := by omega
            refine wp_region_late (Ph (fun w' => ∃ s : Later wr.heap.size wr, w' = s.W) (fun _ => True)) [23] [0,1,2,3,4,5,6,7,8,9,10,11,12,13,14,15,16,17,18,19,20] (.one 21 [] (.one 22 [] (.one 23 [24] (.one 25 [] .done)))) (by kernel_rfl) (by kernel_rfl) (fun d _ _ _ _ h => by cases d <;> exact h) ⟨⟨_, (Below.refl _ _).drew⟩, rfl⟩ ?_
            refine quiet_as (C' := (fun w' => ∃ s : Later wr.heap.size wr, w' = s.W)) rfl ?_
            simp only [opsAt, List.getElem?_toArray, List.getElem?_cons_succ, List.getElem?_cons_zero]
            repeat (go_big_quiet_step (fail))
            refine wpQuiet_nil ?_
            refine eff_as (C' := (fun w' => ∃ s : Later wr.heap.size wr, w' = s.W)) rfl ?_
            (refine eff_lit rfl rfl (fun K hK => ?_))
            go_big_op
            refine (duel_any X Y _ (by omega) (by omega)).mono ?_
            rintro e w5 ⟨rfl, hb5⟩
            have hB5 : Below wr.heap.size wr w5 := (Below.refl _ _).drew.trans hb5
            have hz5 := hB5.size
            refine hK _ _ ⟨⟨_, hB5⟩, rfl⟩ ?_
            clear hK K x0
            simp only [opsAt, List.getElem?_toArray, List.getElem?_cons_succ, List.getElem?_cons_zero]
            repeat (go_big_quiet_step (fail))
            refine wpQuiet_nil ?_
            refine eff_as (C' := (fun w' => ∃ s : Later wr.heap.size wr, w' = s.W)) rfl ?_
            (refine eff_lit rfl rfl (fun K hK => ?_))
            go_big_op
            obtain ⟨dd, hdd⟩ : ∃ dd, D.of (dueN X Y) = dd := ⟨_, rfl⟩
            have HDD := Lib.hid hdd
            rw [hdd]
            have hB6 : Below wr.heap.size wr (w5.alloc (.cells #[.int .i64 dd.a, .int .i64 dd.b] 57)) := hB5.alloc hz5 _
            have HBL := Lib.hid (Blk.mk_ w5 57 #[.int .i64 dd.a, .int .i64 dd.b] _ rfl)
            have HC6 := Lib.hid (HC.out.below hB6)
            refine hK _ _ ⟨⟨_, hB6⟩, rfl⟩ ?_
            clear hK K hdd
            simp only [opsAt, List.getElem?_toArray, List.getElem?_cons_succ, List.getElem?_cons_zero]
            repeat (go_big_quiet_step (fail))
            refine wpQuiet_nil ?_
            refine eff_as (C' := fun _ => True) rfl ?_
            (refine eff_lit rfl rfl (fun K hK => ?_))
            refine append_x_op (w := (w5.alloc (.cells #[.int .i64 dd.a, .int .i64 dd.b] 57))) (.tmp 53) (.tmp 70) 55 rfl gO 57 (.agg #[.int .i64 0, .int .i64 0]) 2 16 Try.info57 Try.underlying55 rfl (by decide) A q c (dcells (rawS n r k)) rfl HC6.out.cur_ (some ⟨w5.heap.size, 0, none⟩) 1 1 (dcells [dd]) rfl (reads_block HBL.out 2 1 rfl) (dcells_one _) (by decide) (by omega) (by omega) (by have := hB6.size; omega) _ rfl ?_
            intro g7 c7 w7 ho7 hg7 hi7 hlt7
            simp only [Act.put, List.setIfInBounds_toArray, List.set_cons_succ, List.set_cons_zero]
            have HC8 := Lib.hid (HC6.out.app hlt hg7 (g := g7) (c2 := c7) (d := dd) (by have h := ho7; rwa [show dcells (rawS n r k) ++ dcells [dd] = dcells ((rawS n r k) ++ [dd]) by simp [dcells]] at h) hi7)
            have HB8 : Hid (Below gO w (w7.setCell ⟨gO, r, none⟩ (.slice (some ⟨g7, 0, none⟩) (q + 1) c7))) := Lib.hid (((HB.out.trans (hB6.mono hwz)).trans (grown_below hg7 (by have := hB6.size; omega) (fun i hi => (HC6.out.cur_.lt i hi).1))).setCell (p := ⟨gO, r, none⟩) (Nat.le_refl _) _)
            have HO7 := Lib.hid (HC6.out.O.grown hg7 (HC6.out.O.apart HC6.out.cur_ (by decide)))
            obtain ⟨g8, hg8, _, k2l, k2, k2f⟩ := HO7.out.cell (outD_at (G := G) (C := C) (n := n) (v := .slice A q c) hlt)
            injection hg8 with hg8
            injection hg8 with hg8
            subst hg8
            refine hK _ _ trivial ?_
            clear hK K ho7 hg7 hi7
            simp only [opsAt, List.getElem?_toArray, List.getElem?_cons_succ, List.getElem?_cons_zero]
            repeat (go_big_quiet_step (fail))
            refine wpQuiet_nil ?_
            refine eff_as (C' := fun _ => True) rfl ?_
            (refine eff_lit rfl rfl (fun K hK => ?_))
            go_big_op
            refine hK _ _ trivial ?_
            clear hK K k2 k2f k2l k1 k1f k1l
            simp only [opsAt, List.getElem?_toArray, List.getElem?_cons_succ, List.getElem?_cons_zero]
            refine wpQuiet_nil ?_
            refine effs_done ?_
            generalize w7.setCell ⟨gO, r, none⟩ (.slice (some ⟨g7, 0, none⟩) (q + 1) c7) = w8 at *
            go_wp2
            go_roundw
            case rel => exact ⟨kk, some ⟨g7, 0, none⟩, q + 1, c7, by omega, by go_num, by have := HKK.out; omega, Lib.hid (by rw [HSN.out, HDD.out]; exact HC8.out), HB8⟩
            case measure => simp [intOf]; omega
          · obtain rfl : H = k + 1 := by omega
            have hlt3 : decide (((k + 1 : Nat) : Int) < ((k + 1 : Nat) : Int)) = false := decide_eq_false (by omega)
            have HRW : Hid (rawS n r k = rawS n r (evN n / 2 - 1)) := Lib.hid (by rw [HE.out, HHH.out]; rfl)
            obtain ⟨k1, _, _⟩ := HC.out.cell hlt
            have hql : (rawS n r k).length = q := by have := HC.out.cur_.len; rw [dcells_len] at this; omega
            have HPM := Lib.hid (sch_perm HOK.out)
            have hq0' : 0 < q := by
              rw [← hql]
              rcases Nat.eq_zero_or_pos k with h0 | h0
              · subst h0
                have : E = n := by omega
                unfold rawS rawK
                rw [HE.out, if_pos this]
                simp
              · obtain ⟨k', rfl⟩ : ∃ k', k = k' + 1 := ⟨k - 1, by omega⟩
                rw [rawS_snoc]; simp
            obtain ⟨g, hA, -, -, -, -⟩ := HC.out.cur_.cell (j := 0) (u := (dcells (rawS n r k))[0]'(by rw [dcells_len]; omega)) (List.getElem?_eq_getElem _)
            subst hA
            have HQL := Lib.hid hql
            clear hql
            go_wp2_with fail
            refine (sortduels_any gO g q c (rawS n r k) _ HC.out.cur_ HQL.out (by omega)).mono ?_
            rintro e w7 ⟨rfl, l7, hp7, hs7, ho7, hg7⟩
            have HP7 := Lib.hid hp7
            have HS7 := Lib.hid hs7
            have HC7 := Lib.hid (HC.out.turn (show wr.grownBy w7 (blkOf (some ⟨g, 0, none⟩)) from hg7) ho7)
            have HB7 := Lib.hid (HB.out.trans (grown_below (show wr.grownBy w7 (blkOf (some ⟨g, 0, none⟩)) from hg7) (by have := HB.out.size; have := HG.out; omega) (fun i hi => by injection hi with hi; have e : g = i := hi; have := (HC.out.cur_.lt g rfl).1; omega)))
            clear hp7 hs7 ho7 hg7
            go_wp2
            go_roundw
            have HLE : Hid (l7 = schS n r) := Lib.hid (by
              have := sch_of (n := n) (r := r) HOK.out (d := (rawS n r k).toArray) (d' := l7.toArray) (by simpa using HRW.out) HP7.out HS7.out
              simpa using this)
            have HQ2 : Hid (q = (schS n r).length) := Lib.hid (by rw [← HPM.out.length_eq, ← HRW.out]; exact HQL.out.symm)
            case rel => exact ⟨r + 1, updF G r g, updF C r c, by omega, by go_num, Lib.hid (by
              have h := HC7.out
              rw [HLE.out] at h
              have e := HQ2.out
              subst e
              exact h.next), HB7⟩
            case measure => simp [intOf]; omega
    · obtain rfl : r = M := by omega
      go_wp2
      go_ret2
      exact ⟨gO, G, C, rfl, by rw [HG.out]; exact HC.out, by rw [HG.out]; exact HB.out⟩
end Go.Proofs.Ytekbjlihpmjlfaa
