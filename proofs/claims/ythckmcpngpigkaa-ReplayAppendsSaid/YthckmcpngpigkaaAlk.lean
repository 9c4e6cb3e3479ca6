/-
  The law's alike: a replay and the model in one state.
-/
import Derived.Test.YthckmcpngpigkaaEqs
set_option linter.unusedSimpArgs false
set_option linter.unusedVariables false
namespace Go.Proofs.Ythckmcpngpigkaa
open Go.RowKit

/-- A clone of structs, still writable. -/
def OwnM (W : World) (B : Nat) (A : Option Addr) (n : Nat) : Prop := 0 < n → ∃ g cs, A = some ⟨g, 0, none⟩ ∧ B ≤ g ∧ Blk W g 41 cs ∧ n * 6 ≤ cs.size
/-- A clone of bytes, still writable. -/
def OwnB (W : World) (B : Nat) (A : Option Addr) (n : Nat) : Prop := 0 < n → ∃ g cs, A = some ⟨g, 0, none⟩ ∧ B ≤ g ∧ Blk W g 5 cs ∧ ∀ j, j < n → ∃ v, cs[j]? = some (.int .u8 v)
theorem OwnM.of {w : World} {B : Nat} {A : Option Addr} {n c : Nat} {xs : List Value} (h : XOwns w B 41 6 A n c xs) : OwnM w B A n := by
  intro hn
  rcases h.1.2 with ⟨_, h0⟩ | ⟨g, cap, cur, h1, h2, h3, h4, h5, h6, _⟩
  · omega
  · injection h1 with h1
    exact ⟨g, cur, h1, h2, h3, by rw [h6]; exact Nat.mul_le_mul_right 6 h4⟩
theorem OwnB.of {w : World} {B : Nat} {A : Option Addr} {n c : Nat} {xs : List Int} (h : BOwns w B 5 A n c xs) : OwnB w B A n := by
  intro hn
  have hl := h.length
  rcases h.1.2 with ⟨_, h0⟩ | ⟨g, cap, cur, h1, h2, h3, h4, h5, h6, h7⟩
  · omega
  · injection h1 with h1
    refine ⟨g, cur, h1, h2, h3, fun j hj => ⟨nth xs j, ?_⟩⟩
    have h8 : (cur.toList.take (n * 1))[j]? = (bys xs)[j]? := by rw [h7]
    rw [List.getElem?_take_of_lt (by omega)] at h8
    rw [← Array.getElem?_toList, h8, bys, List.getElem?_map, List.getElem?_eq_getElem (by omega)]
    simp [nth, List.getD, List.getElem?_eq_getElem (show j < xs.length by omega)]
theorem OwnM.below {w W : World} {B : Nat} {A : Option Addr} {n : Nat} (h : OwnM w B A n) (hb : Below w.heap.size w W) : OwnM W B A n := fun hn => by
  obtain ⟨g, cs, h1, h2, h3, h4⟩ := h hn
  exact ⟨g, cs, h1, h2, h3.call hb, h4⟩
theorem OwnB.below {w W : World} {B : Nat} {A : Option Addr} {n : Nat} (h : OwnB w B A n) (hb : Below w.heap.size w W) : OwnB W B A n := fun hn => by
  obtain ⟨g, cs, h1, h2, h3, h4⟩ := h hn
  exact ⟨g, cs, h1, h2, h3.call hb, h4⟩

theorem OwnM.more {w : World} {B B' : Nat} {A : Option Addr} {n : Nat} (h : OwnM w B A n) (hb : B' ≤ B) : OwnM w B' A n := fun hn => by
  obtain ⟨g, cs, h1, h2, h3, h4⟩ := h hn
  exact ⟨g, cs, h1, by omega, h3, h4⟩
theorem OwnB.more {w : World} {B B' : Nat} {A : Option Addr} {n : Nat} (h : OwnB w B A n) (hb : B' ≤ B) : OwnB w B' A n := fun hn => by
  obtain ⟨g, cs, h1, h2, h3, h4⟩ := h hn
  exact ⟨g, cs, h1, by omega, h3, h4⟩
theorem mequal_same (A B : Option Addr) (n c c' : Nat) (l : List MoveV) (w : World) (hx : Reads w 6 A n (mcells l)) (hy : Reads w 6 B n (mcells l)) (hn : n ≤ 4096) :
    Calls Try.prog 36 #[.slice A n c, .slice B n c'] w fun e w' => e = .returned (.bool true) ∧ Below w.heap.size w w' := by
  have := mequal_any A B n c n c' l l w hx hy (by omega) (by omega)
  rw [(movesEq_iff l l).2 rfl] at this
  exact this

theorem OwnM.put {w : World} {B : Nat} {A : Option Addr} {n g : Nat} {cs : Array Value} (hA : A = some ⟨g, 0, none⟩) (hg : B ≤ g) (hk : Blk w g 41 cs) (hs : n * 6 ≤ cs.size) (i : Nat) (u : Value) : OwnM (w.setCell ⟨g, i, none⟩ u) B A n :=
  fun _ => ⟨g, cs.setIfInBounds i u, hA, hg, hk.put i u, by simpa using hs⟩
theorem OwnB.far {w : World} {B : Nat} {A : Option Addr} {n g : Nat} {cs : Array Value} (h : OwnB w B A n) (hk : Blk w g 41 cs) (i : Nat) (u : Value) : OwnB (w.setCell ⟨g, i, none⟩ u) B A n := by
  intro hn
  obtain ⟨g', cs', h1, h2, h3, h4⟩ := h hn
  refine ⟨g', cs', h1, h2, h3.far (fun e => ?_) u, h4⟩
  have e' : g' = g := e
  subst e'
  unfold Blk at h3 hk
  rw [h3] at hk
  injection hk with hk
  injection hk with _ hk
  cases hk
theorem OwnB.put {w : World} {B : Nat} {A : Option Addr} {n g : Nat} {cs : Array Value} (hA : A = some ⟨g, 0, none⟩) (hg : B ≤ g) (hk : Blk w g 5 cs) (hs : ∀ j, j < n → ∃ v, cs[j]? = some (.int .u8 v)) (i : Nat) (v : Int) : OwnB (w.setCell ⟨g, i, none⟩ (.int .u8 v)) B A n := by
  refine fun _ => ⟨g, cs.setIfInBounds i (.int .u8 v), hA, hg, hk.put i _, fun j hj => ?_⟩
  obtain ⟨u, hu⟩ := hs j hj
  have hjs : j < cs.size := (Array.getElem?_eq_some_iff.1 hu).1
  rcases Nat.decEq i j with h | h
  · exact ⟨u, by rw [Array.getElem?_setIfInBounds_ne h]; exact hu⟩
  · subst h
    exact ⟨v, by rw [Array.getElem?_setIfInBounds_self_of_lt hjs]⟩

set_option maxRecDepth 100000 in
set_option maxHeartbeats 1600000 in
theorem alike_any (B p g : Nat) (q : St) (x : RpC) (y : MdC) (w : World) (h : Rp w B p q x) (hm : Md w g q y) : Calls Try.prog 17 #[.pointer (some ⟨p, 0, none⟩), .pointer (some ⟨g, 0, none⟩)] w fun e w' => e = .returned (.bool true) ∧ Below w.heap.size w w' := by
  have HR : Hid (∀ W, Below w.heap.size w W → Rp W B p q x) := Lib.hid fun W hb => h.below hb
  have HM : Hid (∀ W, Below w.heap.size w W → Md W g q y) := Lib.hid fun W hb => hm.below hb
  have HN := Lib.hid hm.nm_eq
  have HNB : q.mv.length ≤ 4096 := h.ok.cnt
  have HDB : q.data.length ≤ 98304 := by have := h.ok.len; omega
  clear h hm
  go_enter Try.func17, Try.ntmps17
  go_wp2_with (first
    | (go_at_call 34; refine (moves_any B p q x _ (HR.out _ (by (focus (repeat' (first | (with_reducible exact Below.refl _ _) | (with_reducible assumption) | (with_reducible refine Below.alloc ?_ ?_ _) | (with_reducible refine below_drewN ?_ _) | (with_reducible refine Below.drew ?_) | (with_reducible refine Below.setCell ?_ ?_ _) | omega | (simp; done) | (simp; omega))))))).mono ?_; rintro e w1 ⟨A1, c1, rfl, ho1, hb1⟩; have HO1 := Lib.hid ho1; have hB1 : Below w.heap.size w w1 := Below.trans (by (focus (repeat' (first | (with_reducible exact Below.refl _ _) | (with_reducible assumption) | (with_reducible refine Below.alloc ?_ ?_ _) | (with_reducible refine below_drewN ?_ _) | (with_reducible refine Below.drew ?_) | (with_reducible refine Below.setCell ?_ ?_ _) | omega | (simp; done) | (simp; omega))))) (hb1.mono (by (focus (first | omega | (simp only [World.size_alloc]; done) | (simp only [World.size_alloc]; omega) | (simp; done) | (simp; omega))))); clear ho1)
    | (go_at_call 16; refine (bytes_any B p q x _ (HR.out _ hB1)).mono ?_; rintro e w2 ⟨A2, c2, rfl, ho2, hb2⟩; have HO2 := Lib.hid ho2; have hB2 := below_call hB1 hb2 hB1.size; clear ho2)
    | fail)
  have hz1 := hB1.size
  have hz2 := hB2.size
  have hzz := hb2.size
  have HO1' := Lib.hid (HO1.out.below hb2)
  have HRL : Hid (∀ s : Later w2.heap.size w2, Rp s.W B p q x) := Lib.hid fun s => HR.out _ (hB2.trans (s.h.mono hz2))
  have HML : Hid (∀ s : Later w2.heap.size w2, Md s.W g q y) := Lib.hid fun s => HM.out _ (hB2.trans (s.h.mono hz2))
  have HMM : Hid (∀ s : Later w2.heap.size w2, Reads s.W 6 y.M q.mv.length (mcells q.mv)) := Lib.hid fun s => by have := (HML.out s).mv.1; rw [HN.out] at this; exact this
  have HRM : Hid (∀ s : Later w2.heap.size w2, Reads s.W 6 A1 q.mv.length (mcells q.mv)) := Lib.hid fun s => HO1'.out.reads.below s.h
  have y0 : ∀ s : Later w2.heap.size w2, s.W.cell? ⟨g, 0, none⟩ = some (.int .u32 q.key) := fun s => ((HML.out s).blk.at_ 0).trans rfl
  have y1 : ∀ s : Later w2.heap.size w2, s.W.cell? ⟨g, 1, none⟩ = some (.slice y.M q.mv.length y.cm) := fun s => ((HML.out s).blk.at_ 1).trans (by rw [HN.out]; rfl)
  have y3 : ∀ s : Later w2.heap.size w2, s.W.cell? ⟨g, 3, none⟩ = some (.slice y.D y.nd y.cd) := fun s => ((HML.out s).blk.at_ 3).trans rfl
  have y4 : ∀ s : Later w2.heap.size w2, s.W.cell? ⟨g, 4, none⟩ = some (.int .u32 q.sum) := fun s => ((HML.out s).blk.at_ 4).trans rfl
  have v1 : ∀ s : Later w2.heap.size w2, (convert 23 9 (.slice A2 q.data.length c2)).run Try.prog s.W = .ok (.string (strOfNums q.data)) s.W := fun s => convert_bytes (P := Try.prog) (HO2.out.reads.below s.h) c2 23 5 Try.underlying23 Try.underlying5 9 Try.underlying9
  have v2 : ∀ s : Later w2.heap.size w2, (convert 23 9 (.slice y.D y.nd y.cd)).run Try.prog s.W = .ok (.string (strOfNums q.data)) s.W := fun s => convert_bytes (P := Try.prog) (HML.out s).data.1 y.cd 23 5 Try.underlying23 Try.underlying5 9 Try.underlying9
  refine wp_region_later (B := w2.heap.size) (w0 := w2) (Below.refl _ _) (by kernel_rfl) (by kernel_rfl) ?_
  repeat (go_big_quiet_step ((first
    | (go_at_call 15; with_reducible exact Calls.later_same (len_any B p q x _ (HRL.out _)))
    | (go_at_call 35; with_reducible exact Calls.later_same (key_any B p q x _ (HRL.out _)))
    | (go_at_call 20; with_reducible exact Calls.later (by simp) (rsum_any B p q x _ (HRL.out _)))
    | (go_at_call 36; with_reducible exact Calls.later (by simp) (mequal_same A1 y.M q.mv.length c1 y.cm q.mv _ (HRM.out _) (HMM.out _) HNB)))))
  refine wpQuiet_nil ?_
  intro _ hw'
  obtain ⟨s, hw2⟩ := hw'
  subst hw2
  obtain ⟨w3, hb3⟩ := s
  clear y0 y1 y3 y4 v1 v2 HRL HML HMM HRM
  have hB3 : Below w.heap.size w w3 := hB2.trans (hb3.mono hz2)
  have HM3 := Lib.hid (OwnM.of ((HO1'.out.below hb3)))
  have HB3 := Lib.hid ((OwnB.of HO2.out).below hb3)
  clear HO1 HO1' HO2
  have hz3 := hB3.size
  go_wp2
  go_loopw [7] (fun i W => ∃ k : Nat, k ≤ q.mv.length ∧ i = .int .i64 k ∧ OwnM W w.heap.size A1 q.mv.length ∧ OwnB W w.heap.size A2 q.data.length ∧ Below w.heap.size w W) (fun i _ => q.mv.length - (intOf i).toNat)
  case atStart => exact ⟨0, Nat.zero_le _, rfl, (HM3.out.more (by omega)), (HB3.out.more (by omega)), hB3⟩
  case round =>
    obtain ⟨k, hk, rfl, hM, hBB, hB⟩ := hrel
    by_cases hlt : k < q.mv.length
    · have hlt' : (k : Int) < q.mv.length := by omega
      obtain ⟨g1, cs, rfl, hg1, hk1, hs1⟩ := hM (by omega)
      obtain ⟨v, hv⟩ : ∃ v, cs[k * 6]? = some v := ⟨_, Array.getElem?_eq_getElem (by omega)⟩
      have hcell : wr.cell? ⟨g1, k * 6, none⟩ = some v := (hk1.at_ (k * 6)).trans hv
      have hfree := hk1.free (k * 6)
      have HK1 := Lib.hid hk1
      have HS1 := Lib.hid hs1
      have HBB := Lib.hid hBB
      clear hM hk1 hs1 hBB hv HM3 HB3
      go_wp2
      go_roundw
      case rel => exact ⟨k + 1, by omega, by go_num, OwnM.put rfl hg1 HK1.out HS1.out _ _, HBB.out.far HK1.out _ _, hB.setCell (p := ⟨g1, _, none⟩) hg1 _⟩
      case measure => simp [intOf]; omega
    · obtain rfl : k = q.mv.length := by omega
      clear HM3 HB3 hM
      go_wp2
      go_loopw [8] (fun i W => ∃ k : Nat, k ≤ q.data.length ∧ i = .int .i64 k ∧ OwnB W w.heap.size A2 q.data.length ∧ Below w.heap.size w W) (fun i _ => q.data.length - (intOf i).toNat)
      case atStart => exact ⟨0, Nat.zero_le _, rfl, hBB, hB⟩
      case round =>
        clear hBB hB
        obtain ⟨k, hk, rfl, hBB, hB⟩ := hrel
        by_cases hlt : k < q.data.length
        · have hlt' : (k : Int) < q.data.length := by omega
          obtain ⟨g1, cs, rfl, hg1, hk1, hs1⟩ := hBB (by omega)
          obtain ⟨v, hv⟩ := hs1 k hlt
          have hcell : wr.cell? ⟨g1, k, none⟩ = some (.int .u8 v) := (hk1.at_ k).trans hv
          have hfree := hk1.free k
          have HK1 := Lib.hid hk1
          have HS1 := Lib.hid hs1
          clear hBB hk1 hs1 hv
          go_wp2
          go_roundw
          case rel => exact ⟨k + 1, by omega, by go_num, OwnB.put rfl hg1 HK1.out HS1.out _ _, hB.setCell (p := ⟨g1, _, none⟩) hg1 _⟩
          case measure => simp [intOf]; omega
        · obtain rfl : k = q.data.length := by omega
          have hz := hB.size
          have HMr := Lib.hid (HM.out _ hB)
          have hNE : Nonempty (In (fun W => Md W g q y)) := ⟨⟨_, HMr.out⟩⟩
          have y3 : ∀ s : In (fun W => Md W g q y), s.W.cell? ⟨g, 3, none⟩ = some (.slice y.D y.nd y.cd) := fun s => (s.h.blk.at_ 3).trans rfl
          have v2 : ∀ s : In (fun W => Md W g q y), (convert 23 9 (.slice y.D y.nd y.cd)).run Try.prog s.W = .ok (.string (strOfNums q.data)) s.W := fun s => convert_bytes (P := Try.prog) s.h.data.1 y.cd 23 5 Try.underlying23 Try.underlying5 9 Try.underlying9
          clear hBB
          go_wp2
          refine wp_region_sched (fun w' => ∃ s : In (fun W => Md W g q y), w' = s.W) [0,3,4,5,6,7] (.one 1 [] (.one 2 [8,9] .done)) (by kernel_rfl) (by kernel_rfl) (fun d _ _ _ _ h => by cases d <;> exact h) ⟨⟨_, HM.out _ hB.drew⟩, rfl⟩ ?_
          simp only [opsAt, List.getElem?_toArray, List.getElem?_cons_succ, List.getElem?_cons_zero]
          repeat (go_big_quiet_step (fail))
          refine wpQuiet_nil ?_
          (refine eff_lit rfl rfl (fun K hK => ?_))
          go_big_op
          refine (bytes_any B p q x _ (HR.out _ hB.drew)).mono ?_
          rintro e w6 ⟨A6, c6, rfl, ho6, hb6⟩
          have hB6 : Below w.heap.size w w6 := Below.trans hB.drew (hb6.mono hz)
          have h6 := convert_bytes (P := Try.prog) ho6.reads c6 23 5 Try.underlying23 Try.underlying5 9 Try.underlying9
          clear ho6 hb6
          refine hK _ _ ⟨⟨_, HM.out _ hB6⟩, rfl⟩ ?_
          clear hK K
          simp only [opsAt, List.getElem?_toArray, List.getElem?_cons_succ, List.getElem?_cons_zero]
          refine wpQuiet_nil ?_
          (refine eff_lit rfl rfl (fun K hK => ?_))
          go_big_op
          refine hK _ _ ⟨⟨_, HM.out _ hB6⟩, rfl⟩ ?_
          clear hK K
          simp only [opsAt, List.getElem?_toArray, List.getElem?_cons_succ, List.getElem?_cons_zero]
          repeat (go_big_quiet_step (fail))
          refine wpQuiet_nil ?_
          refine effs_done ?_
          clear y3 v2 h6 hNE
          go_wp2
          go_ret
          exact ⟨rfl, hB6⟩
end Go.Proofs.Ythckmcpngpigkaa
