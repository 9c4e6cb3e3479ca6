/-
  New, Rounds, Duels.
-/
import Derived.Test.YtngcmihaheiigaaSml
set_option linter.unusedSimpArgs false
set_option linter.unusedVariables false
namespace Go.Proofs.Ytngcmihaheiigaa
open Go.RowKit

theorem toList_made (z : Value) (hz : z.cells = #[z]) (n : Nat) : (madeCells z.cells n).toList = List.replicate n z := by
  rw [hz]
  exact toList_madeCells_one z n
theorem make_x {P : Program} (w : World) {ops : Array Oper} {rest : List Oper} {o : Oper} {a : Act} {Q : Exit → Act → World → Prop}
    (hg : o.guard = none) (l c : Operand) (t : TypeId) (hop : o.op = Op.makeSlice t l c)
    (base : Nat) (e : TypeId) (z : Value) (bytes : Nat) (hrow : (P.info? e).map (fun i => (i.zero, i.size, i.bytes)) = some (some z, 1, bytes)) (ht : P.underlying t = some (.slice e)) (hzc : z.cells = #[z])
    (kl kc : IntKind) (L C : Int) (n : Nat) (hl : a.eval l = .int kl L) (hc : a.eval c = .int kc C) (hL : L = (n : Int)) (hC : C = (n : Int)) (b2 : n ≤ 1000000) (b3 : bytes ≤ 1000) (b4 : base ≤ w.heap.size)
    (hK : ∀ w', XOwns w' base e 1 (some ⟨w.heap.size, 0, none⟩) n n (List.replicate n z) → Below w.heap.size w w' → wpList P ops Q rest (a.put o.dst (.slice (some ⟨w.heap.size, 0, none⟩) n n)) w') :
    wpList P ops Q (o :: rest) a w := by
  obtain ⟨i0, hi, hz0, hz1, hz2⟩ := info_parts hrow
  have hb : n * bytes ≤ 1000000 * 1000 := Nat.mul_le_mul b2 b3
  refine wpList_make_full w hg l c t hop base e i0 z 1 ht hi hz0 hz1 kl kc L C n hl hc hL hC (by rw [hz2, Nat.mul_comm]; omega) (by unfold maxLen; omega) b4 ?_
  intro w' ho hgr
  rw [Nat.mul_one, toList_made z hzc] at ho
  exact hK w' ⟨ho, fun h => by cases h⟩ ((Below.refl _ _).grown hgr (Nat.le_refl _) (fun k hk => by cases hk))

def ts0 (n : Nat) : TS := ⟨n, [], [], false⟩
theorem ts0_ok {n : Nat} (h : 2 ≤ n ∧ n ≤ 14) : (ts0 n).WF := ⟨h, rfl, by simp [ts0], (fun _ h => by cases h), (fun k l s h => by simp [ts0] at h), fun h => by cases h⟩
theorem met0 (n : Nat) : MetOk n (List.replicate n 0) [] := by
  refine ⟨by simp, fun a ha => ⟨0, by simp [List.getElem?_replicate, ha], by omega, fun b _ => ?_⟩⟩
  simp [metS]

set_option maxHeartbeats 400000 in
theorem new_bad (n : Int) (w : World) (h : n < 2 ∨ 14 < n) : Calls Try.prog 9 #[.int .i64 n] w fun e w' => e = .returned (.tuple #[.pointer none, .int .i64 2]) ∧ w = w' := by
  rcases Int.lt_or_le n 2 with h1 | h1
  · go_enter Try.func9, Try.ntmps9
    go_wp2
    go_ret2
    exact ⟨rfl, rfl⟩
  · have h1' : ¬ n < 2 := by omega
    have h2 : 14 < n := by omega
    clear h h1
    go_enter Try.func9, Try.ntmps9
    go_wp2
    go_ret2
    exact ⟨rfl, rfl⟩
def NewEnd (n : Nat) (w : World) (e : Ending) (w' : World) : Prop := ∃ g x, e = .returned (.tuple #[.pointer (some ⟨g, 0, none⟩), .int .i64 0]) ∧ Tn w' w.heap.size g (ts0 n) x ∧ Below w.heap.size w w'
set_option maxHeartbeats 400000 in
theorem new_ok (n : Nat) (w : World) (h : 2 ≤ n ∧ n ≤ 14) : Calls Try.prog 9 #[.int .i64 n] w (NewEnd n w) := by
  have h1 : ¬ (n : Int) < 2 := by omega
  have h2 : ¬ (14 : Int) < n := by omega
  have h3 : n ≤ 14 := h.2
  have H := Lib.hid h
  clear h
  go_enter Try.func9, Try.ntmps9
  go_wp2_with (at_make; refine make_x _ rfl (.tmp 10) (.tmp 10) 55 rfl w.heap.size 67 (.int .u16 0) 2 Try.info67 Try.underlying55 rfl .i64 .i64 _ _ n rfl rfl rfl rfl ?_ ?_ ?_ ?_; omega; omega; exact Nat.le_refl _; intro w1 ho1 hb1)
  go_ret2
  have hb2 : Below w1.heap.size w1 (w1.alloc (.cells #[.slice (some ⟨w.heap.size, 0, none⟩) n n, .slice none 0 0, .slice none 0 0, .bool false] 57)) := (Below.refl _ _).alloc (Nat.le_refl _) _
  refine ⟨w1.heap.size, ⟨some ⟨w.heap.size, 0, none⟩, n, List.replicate n 0, none, 0, [], none, 0, []⟩, rfl, ⟨Blk.mk_ _ _ _ _ rfl, hb1.size, ?_, XOwns.nil_ _ _ _ _, XOwns.nil_ _ _ _ _, (fun k s l h => by simp at h), (fun k s l h => by simp at h), (fun j k s t _ h => by simp at h), met0 n, ts0_ok H.out⟩, hb1.trans (hb2.mono hb1.size)⟩
  have := ho1.below hb2
  simpa [mcs, ts0] using this

set_option maxHeartbeats 400000 in
theorem rounds_any (B p : Nat) (st : TS) (x : TC) (w : World) (h : Tn w B p st x) : Calls Try.prog 21 #[.pointer (some ⟨p, 0, none⟩)] w fun e w' => e = .returned (.int .i64 st.rounds.length) ∧ w = w' := by
  have x1 := (h.blk.at_ 1).trans rfl
  have HT := Lib.hid h
  clear h
  go_enter Try.func21, Try.ntmps21
  go_wp2_with (go_at_call 25; refine (none_f B p st x _ HT.out).mono ?_; rintro e w1 ⟨rfl, rfl⟩)
  go_ret
  exact ⟨rfl, rfl⟩

set_option maxHeartbeats 400000 in
theorem duels_out (B p : Nat) (st : TS) (x : TC) (k : Int) (w : World) (h : Tn w B p st x) (hk : k < 0 ∨ st.rounds.length ≤ k) : Calls Try.prog 22 #[.pointer (some ⟨p, 0, none⟩), .int .i64 k] w fun e w' => e = .returned (.slice none 0 0) ∧ w = w' := by
  have x1 := (h.blk.at_ 1).trans rfl
  have HT := Lib.hid h
  clear h
  rcases Int.lt_or_le k 0 with h0 | h0
  · go_enter Try.func22, Try.ntmps22
    go_wp2_with (go_at_call 25; refine (none_f B p st x _ HT.out).mono ?_; rintro e w1 ⟨rfl, rfl⟩)
    go_ret
    exact ⟨rfl, rfl⟩
  · have h1 : decide (k < 0) = false := decide_eq_false (by omega)
    have h2 : (st.rounds.length : Int) ≤ k := by omega
    clear hk h0
    go_enter Try.func22, Try.ntmps22
    go_wp2_with (go_at_call 25; refine (none_f B p st x _ HT.out).mono ?_; rintro e w1 ⟨rfl, rfl⟩)
    go_ret
    exact ⟨rfl, rfl⟩
set_option maxHeartbeats 400000 in
theorem duels_in (B p : Nat) (st : TS) (x : TC) (k : Nat) (l : List D) (w : World) (h : Tn w B p st x) (hl : st.rounds[k]? = some l) : Calls Try.prog 22 #[.pointer (some ⟨p, 0, none⟩), .int .i64 k] w fun e w' => ∃ A c, e = .returned (.slice A l.length c) ∧ XOwns w' w.heap.size 33 2 A l.length c (dcells l) ∧ Below w.heap.size w w' := by
  have x1 := (h.blk.at_ 1).trans rfl
  have hk : k < st.rounds.length := (List.getElem?_eq_some_iff.1 hl).1
  obtain ⟨s, hs⟩ : ∃ s, x.rs[k]? = some s := ⟨_, List.getElem?_eq_getElem (by rw [h.rs_len]; exact hk)⟩
  have hi := h.ird k s l hs hl
  obtain ⟨g, hg, _, _, hc, _⟩ := h.rds.cell (j := k) (u := s.v) (by simp [svs, hs])
  rw [hg] at x1
  have hsn : s.n = l.length := by have := hi.len; rw [dcells_len] at this; omega
  have HI := Lib.hid hi
  have hlen : l.length ≤ 100000 := by
    have h1 := (h.ok.rnd l (List.mem_of_getElem? hl)).2.length_eq
    have h2 := h.ok.n0
    have h3 : l.length ≤ (plist l).length := by
      unfold plist
      have : ∀ m : List D, m.length ≤ (m.flatMap D.pl).length := by
        intro m
        induction m with
        | nil => simp
        | cons d m ih =>
          simp only [List.flatMap_cons, List.length_append, List.length_cons]
          have : 1 ≤ d.pl.length := by unfold D.pl; split <;> simp
          omega
      exact this l
    have h4 : (rangeI st.n).length = st.n := by simp [rangeI]
    omega
  have HT := Lib.hid h
  obtain ⟨sA, sn, sc⟩ := s
  simp only [Sl.v] at hc hsn
  subst hsn
  have h0 : decide ((k : Int) < 0) = false := decide_eq_false (by omega)
  have h1 : decide ((st.rounds.length : Int) ≤ k) = false := decide_eq_false (by omega)
  have h1' : (k : Int) < st.rounds.length := by omega
  clear h hl hs hi hk
  go_enter Try.func22, Try.ntmps22
  go_wp2_with (first
    | (go_at_call 25; refine (none_f B p st x _ HT.out).mono ?_; rintro e w1 ⟨rfl, rfl⟩)
    | (go_at_call 27; refine (clone27 sA l.length sc (dcells l) _ HI.out.reads (dcells_one _) HI.out.2 hlen).mono ?_; rintro e w2 ⟨A2, c2, rfl, ho2, hb2⟩)
    | fail)
  go_ret
  exact ⟨A2, c2, rfl, ho2, hb2⟩
end Go.Proofs.Ytngcmihaheiigaa
