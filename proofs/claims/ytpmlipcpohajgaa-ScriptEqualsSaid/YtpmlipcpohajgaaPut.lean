/-
  script.put: the search for the shortest bytes.
-/
import Derived.Test.YtpmlipcpohajgaaFull
import Derived.Test.YtpmlipcpohajgaaBlk
import Derived.Test.YtpmlipcpohajgaaBits
import Derived.Deep.QuietTactic
import Derived.BigQuiet
import Derived.Laws.BitsAllLaws
import Derived.WalkMore
import Derived.Deep.LoopGhost
import Derived.Deep.RegionLaw
set_option linter.unusedSimpArgs false
set_option linter.unusedVariables false
namespace Go.Proofs.Ytpmlipcpohajgaa
open Go.RowKit

/-- What may follow the first byte. -/
def tailS (o : OpV) (t : Nat) : List Int :=
  if t = 0 then [] else if t = 1 then [o.n % 256] else if t = 2 then [o.m % 256] else if t = 3 then [o.n % 256, o.m % 256] else if t = 4 then [o.n / 256 % 256, o.n % 256] else (o.d.length : Int) % 256 :: o.d

/-- The q-th of the bytes that are tried: the first byte with q % 16, then the (q / 16)-th tail. -/
def candS (o : OpV) (q : Nat) : List Int := ((16 * o.c + (q % 16 : Nat)) % 256) :: tailS o (q / 16)
def okQ (o : OpV) (q : Nat) : Bool := decide ((candS o q).length ≤ (opS (candS o q)).2) && opEq (opS (candS o q)).1 o && fullB (candS o q)
def putQ (o : OpV) : Option Nat := (List.range 96).find? (okQ o)
def PutPost (o : OpV) (w : World) (e : Ending) (w' : World) : Prop :=
  (∃ A n c, e = .returned (.slice A n c) ∧ (putQ o = none → A = none ∧ n = 0 ∧ c = 0) ∧ ∀ q, putQ o = some q → BOwns w' w.heap.size 5 A n c (candS o q)) ∧ Below w.heap.size w w'

theorem tailS_bytes (o : OpV) (ho : IsBytes o.d) (t : Nat) : IsBytes (tailS o t) := by
  unfold tailS
  intro x hx
  split at hx
  · cases hx
  split at hx
  · simp at hx; omega
  split at hx
  · simp at hx; omega
  split at hx
  · simp at hx; omega
  split at hx
  · simp at hx; omega
  · rcases List.mem_cons.1 hx with rfl | hx
    · omega
    · exact ho x hx

theorem index_arr (a0 a1 a2 a3 a4 a5 : Value) (t : Nat) (ht : t < 6) (W : World) :
    (Instr.index 77 (.agg #[a0, a1, a2, a3, a4, a5]) (.int .i64 (t : Int))).run Try.prog W = .ok (#[a0, a1, a2, a3, a4, a5].getD t undef) W := by
  match t, ht with
  | 0, _ => simp [Instr.index, run_underlying Try.underlying77, asIntOf, go_sem]
  | 1, _ => simp [Instr.index, run_underlying Try.underlying77, asIntOf, go_sem]
  | 2, _ => simp [Instr.index, run_underlying Try.underlying77, asIntOf, go_sem]
  | 3, _ => simp [Instr.index, run_underlying Try.underlying77, asIntOf, go_sem]
  | 4, _ => simp [Instr.index, run_underlying Try.underlying77, asIntOf, go_sem]
  | 5, _ => simp [Instr.index, run_underlying Try.underlying77, asIntOf, go_sem]

theorem putQ_found {o : OpV} {q : Nat} (hq : q < 96) (h : okQ o q = true) (hN : ∀ r, r < q → okQ o r = false) : putQ o = some q := by
  unfold putQ
  rw [List.find?_range_eq_some]
  exact ⟨h, List.mem_range.2 hq, fun j hj => by rw [hN j hj]; rfl⟩
theorem putQ_none {o : OpV} (hN : ∀ r, r < 96 → okQ o r = false) : putQ o = none := by
  unfold putQ
  rw [List.find?_eq_none]
  intro x hx
  rw [hN x (List.mem_range.1 hx)]
  decide

theorem BOwns.cap {w : World} {base : Nat} {e : TypeId} {A : Option Addr} {n cap : Nat} {xs : List Int} (h : BOwns w base e A n cap xs) : n ≤ cap ∧ cap ≤ maxLen := by
  rcases h.1.2 with ⟨h0, hn⟩ | ⟨g, c, cur, h1, _, _, h4, h5, _⟩
  · injection h0 with h0 h1 h2
    subst h2
    exact ⟨by omega, Nat.zero_le _⟩
  · injection h1 with _ _ h3
    subst h3
    exact ⟨h4, h5⟩
theorem BOwns.block_lt {w : World} {base : Nat} {e : TypeId} {A : Option Addr} {n cap : Nat} {xs : List Int} (h : BOwns w base e A n cap xs) : ∀ ad, A = some ad → base ≤ ad.block ∧ ad.block < w.heap.size := by
  intro ad hA
  subst hA
  exact h.1.lt ad.block rfl
theorem BOwns.rd {w : World} {base : Nat} {e : TypeId} {A : Option Addr} {n cap : Nat} {xs : List Int} (h : BOwns w base e A n cap xs) : Rd (w.alloc (.cells #[.slice A n cap] 54)) (w.heap.size + 1) w.heap.size xs := by
  have hc := h.cap
  unfold maxLen at hc
  refine ⟨⟨by omega, by simp⟩, A, n, cap, by simp, World.frozen?_alloc_new w _ 54 0, h.reads.alloc _, hc.1, hc.2, h.2.2, fun _ ad e => ?_⟩
  have := (h.block_lt ad e).2
  omega
theorem Blk.bytes {w : World} {g : Nat} {xs : List Int} (h : Blk w g 5 (bys xs).toArray) (hx : IsBytes xs) (n : Nat) (hn : xs.length = n) : BReads w (some ⟨g, 0, none⟩) n xs :=
  ⟨⟨by simp [bys, hn], fun _ => ⟨_, rfl, h.lt, fun j u hu => by rw [add_at', h.at_]; simpa using hu⟩⟩, hx⟩
theorem BOwns.past {w w' : World} {base : Nat} {e : TypeId} {A : Option Addr} {n cap : Nat} {xs : List Int} {o : Obj} (h : BOwns w base e A n cap xs) (hg : (w.alloc o).grownBy w' (some w.heap.size)) : BOwns w' base e A n cap xs := by
  have h1 := h.alloc o
  refine ⟨h1.1.kept hg ?_, h1.2⟩
  rcases hv : (Value.slice A n cap).ownBlock with _ | b
  · exact .inl rfl
  · refine .inr (fun e => ?_)
    injection e with e
    have := (h.1.lt b hv).2
    omega

set_option maxRecDepth 100000 in
set_option maxHeartbeats 1600000 in
theorem put_any (o : OpV) (A : Option Addr) (cap : Nat) (w : World) (hx : BReads w A o.d.length o.d) (hA : A = none → cap = 0) (hd : o.d.length ≤ 100000) :
    Calls Try.prog 23 #[.agg #[.int .i64 o.k, .int .i64 o.c, .int .i64 o.n, .int .i64 o.m, .slice A o.d.length cap]] w (PutPost o w) := by
  have HX : Hid (∀ W, Below w.heap.size w W → BReads W A o.d.length o.d) := fun W h => hx.below h
  have HA := Lib.hid hA
  have HTB := Lib.hid (tailS_bytes o hx.2)
  clear hx hA
  generalize hL : o.d.length = L at *
  have HL := Lib.hid hL
  clear hL
  go_enter Try.func23, Try.ntmps23
  go_wp2
  go_step3
  go_wp2
  go_quiet (fail)
  go_wp2_with (at_builtin; refine append_bytes _ rfl (.tmp 39) (.tmp 41) 22 rfl (w.heap.size + 6) 5 Try.info5 Try.underlying22 (some ⟨w.heap.size + 6, 0, none⟩) 1 1 [(L : Int) % 256] rfl ?_ A L cap o.d rfl HA.out (HX.out _ (by (focus (repeat' (first | (with_reducible exact Below.refl _ _) | (with_reducible assumption) | (with_reducible refine Below.alloc ?_ ?_ _) | (with_reducible refine below_drewN ?_ _) | (with_reducible refine Below.drew ?_) | (with_reducible refine Below.setCell ?_ ?_ _) | omega | (simp; done) | (simp; omega)))))) ?_ ?_ ?_; (exact BOwns.lit _ _ _ [(L : Int) % 256] _ _ (by intro z hz; simp at hz; omega) (by simp) rfl (by omega) (by omega)); omega; (focus (first | omega | (simp only [World.size_alloc]; done) | (simp only [World.size_alloc]; omega) | (simp; done) | (simp; omega))); intro A5 c5 w1 ho5 hb5)
  have hB1 : Below w.heap.size w w1 := Below.trans (by (focus (repeat' (first | (with_reducible exact Below.refl _ _) | (with_reducible assumption) | (with_reducible refine Below.alloc ?_ ?_ _) | (with_reducible refine below_drewN ?_ _) | (with_reducible refine Below.drew ?_) | (with_reducible refine Below.setCell ?_ ?_ _) | omega | (simp; done) | (simp; omega))))) (hb5.mono (by omega))
  have hz1 : w.heap.size + 7 ≤ w1.heap.size := by have := hb5.size; simp at this; omega
  have k0 := keep_at hb5 w.heap.size (by omega)
  have HBo : Hid (Blk w1 w.heap.size 33 #[.int .i64 o.k, .int .i64 o.c, .int .i64 o.n, .int .i64 o.m, .slice A L cap]) := Lib.hid (Blk.below (t := 33) (by exact ((((((((Blk.mk_ w _ _ _ rfl).drewN nq).alloc _).alloc _).alloc _).alloc _).alloc _).alloc _)) hb5 (by omega))
  have HT : Hid (∀ t, t < 6 → ∃ (Ai : Option Addr) (ni ci : Nat), #[Value.slice (some ⟨w.heap.size + 1, 0, none⟩) 0 0, .slice (some ⟨w.heap.size + 1 + 1, 0, none⟩) 1 1, .slice (some ⟨w.heap.size + 1 + 1 + 1, 0, none⟩) 1 1, .slice (some ⟨w.heap.size + 1 + 1 + 1 + 1, 0, none⟩) 2 2, .slice (some ⟨w.heap.size + 1 + 1 + 1 + 1 + 1, 0, none⟩) 2 2, .slice A5 (1 + L) c5].getD t undef = .slice Ai ni ci ∧ (∀ W, Below w1.heap.size w1 W → BReads W Ai ni (tailS o t)) ∧ (Ai = none → ci = 0) ∧ ni ≤ 100001) := Lib.hid fun t ht => by
    have hbs := HTB.out
    match t, ht with
    | 0, _ => exact ⟨_, _, _, rfl, fun W _ => ⟨⟨rfl, fun h => absurd h (by omega)⟩, hbs 0⟩, (fun h => by cases h), by omega⟩
    | 1, _ => exact ⟨_, _, _, rfl, fun W h => (Blk.bytes (xs := [o.n % 256]) (Blk.below (t := 5) (by exact (((((Blk.mk_ _ 5 _ _ (by simp)).alloc _).alloc _).alloc _).alloc _)) hb5 (by omega)) (hbs 1) 1 rfl).below h, (fun h => by cases h), by omega⟩
    | 2, _ => exact ⟨_, _, _, rfl, fun W h => (Blk.bytes (xs := [o.m % 256]) (Blk.below (t := 5) (by exact ((((Blk.mk_ _ 5 _ _ (by simp)).alloc _).alloc _).alloc _)) hb5 (by omega)) (hbs 2) 1 rfl).below h, (fun h => by cases h), by omega⟩
    | 3, _ => exact ⟨_, _, _, rfl, fun W h => (Blk.bytes (xs := [o.n % 256, o.m % 256]) (Blk.below (t := 5) (by exact (((Blk.mk_ _ 5 _ _ (by simp)).alloc _).alloc _)) hb5 (by omega)) (hbs 3) 2 rfl).below h, (fun h => by cases h), by omega⟩
    | 4, _ => exact ⟨_, _, _, rfl, fun W h => (Blk.bytes (xs := [o.n / 256 % 256, o.n % 256]) (Blk.below (t := 5) (by exact ((Blk.mk_ _ 5 _ _ (by simp)).alloc _)) hb5 (by omega)) (hbs 4) 2 rfl).below h, (fun h => by cases h), by omega⟩
    | 5, _ => exact ⟨_, _, _, rfl, fun W h => by
        have := (ho5.reads).below h
        rw [← HL.out] at this ⊢
        exact this, ho5.2.2, by omega⟩
  clear hb5 ho5 k0
  go_step3
  have hidx := fun (t : Nat) (ht : t < 6) (W : World) => index_arr (.slice (some ⟨w.heap.size + 1, 0, none⟩) 0 0) (.slice (some ⟨w.heap.size + 1 + 1, 0, none⟩) 1 1) (.slice (some ⟨w.heap.size + 1 + 1 + 1, 0, none⟩) 1 1) (.slice (some ⟨w.heap.size + 1 + 1 + 1 + 1, 0, none⟩) 2 2) (.slice (some ⟨w.heap.size + 1 + 1 + 1 + 1 + 1, 0, none⟩) 2 2) (.slice A5 (1 + L) c5) t ht W
  have HI := Lib.hid hidx
  clear hidx
  go_wp2
  obtain ⟨W0, hW0⟩ : ∃ W, W = w1.alloc (.cells #[.slice (some ⟨w.heap.size + 1, 0, none⟩) 0 0, .slice (some ⟨w.heap.size + 1 + 1, 0, none⟩) 1 1, .slice (some ⟨w.heap.size + 1 + 1 + 1, 0, none⟩) 1 1, .slice (some ⟨w.heap.size + 1 + 1 + 1 + 1, 0, none⟩) 2 2, .slice (some ⟨w.heap.size + 1 + 1 + 1 + 1 + 1, 0, none⟩) 2 2, .slice A5 (1 + L) c5] 77) := ⟨_, rfl⟩
  have hb01 : Below w1.heap.size w1 W0 := hW0 ▸ Below.alloc (Below.refl _ _) (Nat.le_refl _) _
  have hz01 : W0.heap.size = w1.heap.size + 1 := by rw [hW0]; simp
  rw [← hW0]
  clear hW0
  go_loopg [7, 45] 6 (fun k v i W => ∃ t : Nat, t + k = 6 ∧ i = .int .i64 t ∧ v = .slice none 0 0 ∧ Hid (∀ q, q < 16 * t → okQ o q = false) ∧ Below W0.heap.size W0 W)
  case atStart => exact ⟨0, by omega, rfl, rfl, Lib.hid (fun q h => absurd h (by omega)), Below.refl _ _⟩
  case round =>
    obtain ⟨t, htk, rfl, rfl, HN, hBW⟩ := hrel
    by_cases ht : t < 6
    · obtain ⟨Ai, ni, ci, hA, hR, hAi, hni⟩ := HT.out t ht
      have hidx := HI.out t ht
      rw [hA] at hidx
      have HR := Lib.hid hR
      have HAi := Lib.hid hAi
      have ht' : (t : Int) < 6 := by omega
      clear hA hR hAi
      generalize gk = k0 at *
      generalize wr = wo at *
      go_wp2
      go_loopg [7, 48] 16 (fun k v i W => ∃ f : Nat, f + k = 16 ∧ i = .int .i64 f ∧ v = .slice none 0 0 ∧ Hid (∀ q, q < 16 * t + f → okQ o q = false) ∧ Below W0.heap.size W0 W)
      case atStart => exact ⟨0, by omega, rfl, rfl, HN, hBW⟩
      case round =>
        obtain ⟨f, hfk, rfl, rfl, HF, hBr⟩ := hrel
        have hzr := hBr.size
        by_cases hf : f < 16
        · have hf' : (f : Int) < 16 := by omega
          have HBr : Hid (Blk wr w.heap.size 33 #[.int .i64 o.k, .int .i64 o.c, .int .i64 o.n, .int .i64 o.m, .slice A L cap]) := Lib.hid (((HBo.out.call hb01).below hBr (by omega)))
          have r1 := (HBr.out.at_ 1).trans rfl
          have hB1r : Below w1.heap.size w1 wr := hb01.trans (hBr.mono (by omega))
          have hBwr : Below w.heap.size w wr := hB1.trans (hB1r.mono (by omega))
          have hzw : w.heap.size + 7 ≤ wr.heap.size := by omega
          have hfb := first_byte o.c f hf
          obtain ⟨x0, hx0⟩ : ∃ x : Int, x = (16 * o.c + (f : Int)) % 256 := ⟨_, rfl⟩
          have HQ : Hid (candS o (16 * t + f) = x0 :: tailS o t) := Lib.hid (by
            unfold candS
            rw [show (16 * t + f) % 16 = f from by omega, show (16 * t + f) / 16 = t from by omega, hx0])
          have hxb : 0 ≤ x0 ∧ x0 ≤ 255 := by omega
          rw [← hx0] at hfb
          clear hx0
          go_wp2_with (at_builtin; refine append_bytes _ rfl (.tmp 57) (.tmp 58) 22 rfl wr.heap.size 5 Try.info5 Try.underlying22 (some ⟨wr.heap.size, 0, none⟩) 1 1 [x0] rfl ?_ Ai ni ci (tailS o t) rfl HAi.out (HR.out _ (Below.trans hB1r (by (focus (repeat' (first | (with_reducible exact Below.refl _ _) | (with_reducible assumption) | (with_reducible refine Below.alloc ?_ ?_ _) | (with_reducible refine below_drewN ?_ _) | (with_reducible refine Below.drew ?_) | (with_reducible refine Below.setCell ?_ ?_ _) | omega | (simp; done) | (simp; omega))))))) ?_ ?_ ?_; (exact BOwns.lit _ _ _ [x0] _ _ (by intro z hz; simp at hz; omega) rfl rfl (by omega) (by omega)); omega; (focus (first | omega | (simp only [World.size_alloc]; done) | (simp only [World.size_alloc]; omega) | (simp; done) | (simp; omega))); intro Bb cb w2 ho2 hb2)
          have ho2' : BOwns w2 wr.heap.size 5 Bb (1 + ni) cb (x0 :: tailS o t) := by simpa using ho2
          have hb2' : Below wr.heap.size wr w2 := Below.trans (by (focus (repeat' (first | (with_reducible exact Below.refl _ _) | (with_reducible assumption) | (with_reducible refine Below.alloc ?_ ?_ _) | (with_reducible refine below_drewN ?_ _) | (with_reducible refine Below.drew ?_) | (with_reducible refine Below.setCell ?_ ?_ _) | omega | (simp; done) | (simp; omega))))) hb2
          clear ho2 hb2
          generalize hbb : x0 :: tailS o t = b at *
          clear hbb
          refine (op_any (w2.heap.size + 1) w2.heap.size b _ ho2'.rd).mono ?_
          rintro e w4 ⟨A3, n3, c3, rfl, ho3, hR4, hg4⟩
          have hl3 := ho3.length
          subst hl3
          obtain ⟨_, A6, n6, c6, hc6, _, hr6, _⟩ := hR4
          have hl6 := hr6.length
          rw [List.length_drop] at hl6
          have hz2 := hb2'.size
          have hz4 : w2.heap.size + 1 ≤ w4.heap.size := by have := hg4.size; simp at this; omega
          have hB4 : Below w2.heap.size w2 w4 := only_below hg4 (by (focus (repeat' (first | (with_reducible exact Below.refl _ _) | (with_reducible assumption) | (with_reducible refine Below.alloc ?_ ?_ _) | (with_reducible refine below_drewN ?_ _) | (with_reducible refine Below.drew ?_) | (with_reducible refine Below.setCell ?_ ?_ _) | omega | (simp; done) | (simp; omega))))) (by simp) (Nat.le_refl _)
          have hBr4 : Below wr.heap.size wr w4 := hb2'.trans (hB4.mono (by omega))
          have HB4 : Hid (BOwns w4 wr.heap.size 5 Bb (1 + ni) cb b) := Lib.hid (ho2'.past hg4)
          have H4 : Hid (∀ W, Below w4.heap.size w4 W → BReads W Bb (1 + ni) b) := fun W h => (HB4.out.below h).reads
          have H3 : Hid (∀ W, Below w4.heap.size w4 W → BReads W A3 (opS b).1.d.length (opS b).1.d) := fun W h => (ho3.below h).reads
          have HO4 := HBr.out.below hBr4 (by omega)
          have hBw4 : Below w.heap.size w w4 := hBwr.trans (hBr4.mono (by omega))
          have hB04 : Below W0.heap.size W0 w4 := hBr.trans (hBr4.mono (by omega))
          have HX4 : Hid (∀ W, Below w4.heap.size w4 W → BReads W A L o.d) := fun W h => HX.out W (hBw4.trans (h.mono (by omega)))
          have hz4a : w2.heap.size < w4.heap.size := by omega
          have hz4b : w.heap.size < w4.heap.size := by omega
          have q0 := (HO4.at_ 0).trans rfl
          have q1 := (HO4.at_ 1).trans rfl
          have q2 := (HO4.at_ 2).trans rfl
          have q3 := (HO4.at_ 3).trans rfl
          have q4 := (HO4.at_ 4).trans rfl
          have HK : Hid (okQ o (16 * t + f) = (decide (b.length ≤ (opS b).2) && opEq (opS b).1 o && fullB b)) := Lib.hid (by unfold okQ; rw [HQ.out])
          clear HO4 hr6 ho3 hg4 ho2' r1 hfb hB1r
          generalize (opS b).1 = v at *
          generalize (opS b).2 = j at *
          by_cases hn6 : n6 = 0
          · have HJ : Hid (decide (b.length ≤ j) = true) := Lib.hid (by simp; omega)
            subst hn6
            cases hE : opEq v o with
            | true =>
              have HE := Lib.hid hE
              clear hE
              cases hU : fullB b with
              | true =>
                have HU := Lib.hid hU
                clear hU
                have HPQ : Hid (putQ o = some (16 * t + f)) := Lib.hid (putQ_found (by omega) (by rw [HK.out, HJ.out, HE.out, HU.out]; rfl) HF.out)
                go_wp2_with (first | (go_at_call 15; refine (equal_any v o A3 A _ _ _ _ _ (H3.out _ (by (focus (repeat' (first | (with_reducible exact Below.refl _ _) | (with_reducible assumption) | (with_reducible refine Below.alloc ?_ ?_ _) | (with_reducible refine below_drewN ?_ _) | (with_reducible refine Below.drew ?_) | (with_reducible refine Below.setCell ?_ ?_ _) | omega | (simp; done) | (simp; omega)))))) (HX4.out _ (by (focus (repeat' (first | (with_reducible exact Below.refl _ _) | (with_reducible assumption) | (with_reducible refine Below.alloc ?_ ?_ _) | (with_reducible refine below_drewN ?_ _) | (with_reducible refine Below.drew ?_) | (with_reducible refine Below.setCell ?_ ?_ _) | omega | (simp; done) | (simp; omega))))))).mono ?_; rintro e w5 ⟨rfl, hb5⟩; rw [HE.out]; have hB5 : Below w4.heap.size w4 w5 := Below.trans (by (focus (repeat' (first | (with_reducible exact Below.refl _ _) | (with_reducible assumption) | (with_reducible refine Below.alloc ?_ ?_ _) | (with_reducible refine below_drewN ?_ _) | (with_reducible refine Below.drew ?_) | (with_reducible refine Below.setCell ?_ ?_ _) | omega | (simp; done) | (simp; omega))))) (hb5.mono (by (focus (first | omega | (simp only [World.size_alloc]; done) | (simp only [World.size_alloc]; omega) | (simp; done) | (simp; omega)))))) | (go_at_call 33; refine (full_any Bb (1 + ni) cb b _ (H4.out w5 hB5) (by omega) (by omega)).mono ?_; rintro e w6 ⟨rfl, rfl⟩; rw [HU.out]))
                rw [Exit.noGoto_ret]
                go_ret
                exact ⟨⟨Bb, 1 + ni, cb, rfl, (fun h => by rw [HPQ.out] at h; cases h), fun q hq => by
                  rw [HPQ.out] at hq
                  injection hq with hq
                  subst hq
                  rw [HQ.out]
                  exact (HB4.out.below hB5).more (by omega)⟩, hBw4.trans (hB5.mono (by omega))⟩
              | false =>
                have HU := Lib.hid hU
                clear hU
                have HFQ : Hid (okQ o (16 * t + f) = false) := Lib.hid (by rw [HK.out, HU.out]; simp)
                go_wp2_with (first | (go_at_call 15; refine (equal_any v o A3 A _ _ _ _ _ (H3.out _ (by (focus (repeat' (first | (with_reducible exact Below.refl _ _) | (with_reducible assumption) | (with_reducible refine Below.alloc ?_ ?_ _) | (with_reducible refine below_drewN ?_ _) | (with_reducible refine Below.drew ?_) | (with_reducible refine Below.setCell ?_ ?_ _) | omega | (simp; done) | (simp; omega)))))) (HX4.out _ (by (focus (repeat' (first | (with_reducible exact Below.refl _ _) | (with_reducible assumption) | (with_reducible refine Below.alloc ?_ ?_ _) | (with_reducible refine below_drewN ?_ _) | (with_reducible refine Below.drew ?_) | (with_reducible refine Below.setCell ?_ ?_ _) | omega | (simp; done) | (simp; omega))))))).mono ?_; rintro e w5 ⟨rfl, hb5⟩; rw [HE.out]; have hB5 : Below w4.heap.size w4 w5 := Below.trans (by (focus (repeat' (first | (with_reducible exact Below.refl _ _) | (with_reducible assumption) | (with_reducible refine Below.alloc ?_ ?_ _) | (with_reducible refine below_drewN ?_ _) | (with_reducible refine Below.drew ?_) | (with_reducible refine Below.setCell ?_ ?_ _) | omega | (simp; done) | (simp; omega))))) (hb5.mono (by (focus (first | omega | (simp only [World.size_alloc]; done) | (simp only [World.size_alloc]; omega) | (simp; done) | (simp; omega)))))) | (go_at_call 33; refine (full_any Bb (1 + ni) cb b _ (H4.out w5 hB5) (by omega) (by omega)).mono ?_; rintro e w6 ⟨rfl, rfl⟩; rw [HU.out]))
                go_roundg (gk - 1)
                case measure => omega
                case rel => exact ⟨f + 1, by omega, by go_num, rfl, Lib.hid (fun q hq => by
                  rcases Nat.lt_or_ge q (16 * t + f) with h | h
                  · exact HF.out q h
                  · obtain rfl : q = 16 * t + f := by omega
                    exact HFQ.out), (hB04.trans (hB5.mono (by omega)))⟩
            | false =>
              have HE := Lib.hid hE
              clear hE
              have HFQ : Hid (okQ o (16 * t + f) = false) := Lib.hid (by rw [HK.out, HE.out]; simp)
              go_wp2_with (first | (go_at_call 15; refine (equal_any v o A3 A _ _ _ _ _ (H3.out _ (by (focus (repeat' (first | (with_reducible exact Below.refl _ _) | (with_reducible assumption) | (with_reducible refine Below.alloc ?_ ?_ _) | (with_reducible refine below_drewN ?_ _) | (with_reducible refine Below.drew ?_) | (with_reducible refine Below.setCell ?_ ?_ _) | omega | (simp; done) | (simp; omega)))))) (HX4.out _ (by (focus (repeat' (first | (with_reducible exact Below.refl _ _) | (with_reducible assumption) | (with_reducible refine Below.alloc ?_ ?_ _) | (with_reducible refine below_drewN ?_ _) | (with_reducible refine Below.drew ?_) | (with_reducible refine Below.setCell ?_ ?_ _) | omega | (simp; done) | (simp; omega))))))).mono ?_; rintro e w5 ⟨rfl, hb5⟩; rw [HE.out]; have hB5 : Below w4.heap.size w4 w5 := Below.trans (by (focus (repeat' (first | (with_reducible exact Below.refl _ _) | (with_reducible assumption) | (with_reducible refine Below.alloc ?_ ?_ _) | (with_reducible refine below_drewN ?_ _) | (with_reducible refine Below.drew ?_) | (with_reducible refine Below.setCell ?_ ?_ _) | omega | (simp; done) | (simp; omega))))) (hb5.mono (by (focus (first | omega | (simp only [World.size_alloc]; done) | (simp only [World.size_alloc]; omega) | (simp; done) | (simp; omega)))))) | fail)
              go_roundg (gk - 1)
              case measure => omega
              case rel => exact ⟨f + 1, by omega, by go_num, rfl, Lib.hid (fun q hq => by
                rcases Nat.lt_or_ge q (16 * t + f) with h | h
                · exact HF.out q h
                · obtain rfl : q = 16 * t + f := by omega
                  exact HFQ.out), (hB04.trans (hB5.mono (by omega)))⟩
          · have hnq : ((n6 : Int) == 0) = false := beq_eq_false_iff_ne.2 (by omega)
            have HFQ : Hid (okQ o (16 * t + f) = false) := Lib.hid (by rw [HK.out, decide_eq_false (by omega)]; rfl)
            go_wp2
            go_roundg (gk - 1)
            case measure => omega
            case rel => exact ⟨f + 1, by omega, by go_num, rfl, Lib.hid (fun q hq => by
              rcases Nat.lt_or_ge q (16 * t + f) with h | h
              · exact HF.out q h
              · obtain rfl : q = 16 * t + f := by omega
                exact HFQ.out), (Below.trans hB04 (by (focus (repeat' (first | (with_reducible exact Below.refl _ _) | (with_reducible assumption) | (with_reducible refine Below.alloc ?_ ?_ _) | (with_reducible refine below_drewN ?_ _) | (with_reducible refine Below.drew ?_) | (with_reducible refine Below.setCell ?_ ?_ _) | omega | (simp; done) | (simp; omega))))))⟩
        · obtain rfl : f = 16 := by omega
          go_wp2
          go_roundg (k0 - 1)
          case measure => omega
          case rel => exact ⟨t + 1, by omega, by go_num, rfl, Lib.hid (fun q hq => HF.out q (by omega)), hBr⟩
    · obtain rfl : t = 6 := by omega
      have HPN : Hid (putQ o = none) := Lib.hid (putQ_none (fun r hr => HN.out r (by omega)))
      go_wp2
      rw [Exit.noGoto_ret]
      go_ret
      exact ⟨⟨none, 0, 0, rfl, (fun _ => ⟨rfl, rfl, rfl⟩), fun q hq => by rw [HPN.out] at hq; cases hq⟩, hB1.trans ((hb01.trans (hBW.mono (by omega))).mono (by omega))⟩

end Go.Proofs.Ytpmlipcpohajgaa
