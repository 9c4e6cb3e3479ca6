/-
  Things that were done, in memory; the judges of bound and of its reference.
-/
import Derived.Test.YtleckpoppmecdaaBounds
import Derived.Deep.LoopGhost
set_option linter.unusedSimpArgs false
set_option linter.unusedVariables false
namespace Go.Proofs.Ytleckpoppmecdaa
open Go.RowKit

/-- A thing that was done, as the judges see it: the packets (their lengths ls), how many moves. -/
structure DidR where
  (sA : Option Addr)
  (sn sc : Nat)
  (mA : Option Addr)
  (mn mc : Nat)
  (ls : List Nat)

def SentAt (w : World) (d : DidR) : Prop :=
  d.ls.length = d.sn ∧ (0 < d.sn → ∃ h, d.sA = some ⟨h, 0, none⟩ ∧ h < w.heap.size ∧ ∀ j, j < d.sn → w.cell? ⟨h, j * 2, none⟩ = some (.int .i64 0) ∧ ∃ a c, w.cell? ⟨h, j * 2 + 1, none⟩ = some (.slice a (d.ls.getD j 0) c))
def DidAt (w : World) (g o : Nat) (d : DidR) : Prop :=
  w.cell? ⟨g, o, none⟩ = some (.int .i64 0) ∧ w.cell? ⟨g, o + 1, none⟩ = some (.int .i64 0) ∧ w.cell? ⟨g, o + 2, none⟩ = some (.int .i64 0) ∧ w.cell? ⟨g, o + 3, none⟩ = some (.slice none 0 0) ∧
  w.cell? ⟨g, o + 4, none⟩ = some (.int .i64 0) ∧ w.cell? ⟨g, o + 5, none⟩ = some (.int .i64 0) ∧ w.cell? ⟨g, o + 6, none⟩ = some (.slice d.sA d.sn d.sc) ∧ w.cell? ⟨g, o + 7, none⟩ = some (.slice d.mA d.mn d.mc) ∧
  w.cell? ⟨g, o + 8, none⟩ = some (.int .i64 0) ∧ w.cell? ⟨g, o + 9, none⟩ = some (.int .u64 0)
def DidsAt (w : World) (A : Option Addr) (n : Nat) (ds : List DidR) : Prop :=
  ds.length = n ∧ (∀ d ∈ ds, SentAt w d ∧ d.ls.sum ≤ 4000000000000000000 ∧ d.sn ≤ 4000000000000000000) ∧ (0 < n → ∃ g, A = some ⟨g, 0, none⟩ ∧ g < w.heap.size ∧ ∀ i d, ds[i]? = some d → DidAt w g (i * 10) d)

def badB (c : Cfg) (d : DidR) : Bool := decide (bytI c < d.ls.sum) || decide (movI c < d.mn)
def judgeI (c : Cfg) : List DidR → Int → Int
  | [], _ => -1
  | d :: r, i => if badB c d = true then i else judgeI c r (i + 1)

theorem SentAt.below {w w' : World} {d : DidR} (h : SentAt w d) (hb : Below w.heap.size w w') : SentAt w' d :=
  ⟨h.1, fun hn => by
    obtain ⟨g, e, hg, hc⟩ := h.2 hn
    refine ⟨g, e, Nat.lt_of_lt_of_le hg hb.size, fun j hj => ?_⟩
    obtain ⟨h1, a, c, h2⟩ := hc j hj
    exact ⟨(keep_at hb g hg _).trans h1, a, c, (keep_at hb g hg _).trans h2⟩⟩
theorem DidAt.below {w w' : World} {g o : Nat} {d : DidR} (h : DidAt w g o d) (hg : g < w.heap.size) (hb : Below w.heap.size w w') : DidAt w' g o d := by
  obtain ⟨h0, h1, h2, h3, h4, h5, h6, h7, h8, h9⟩ := h
  have k := keep_at hb g hg
  exact ⟨(k _).trans h0, (k _).trans h1, (k _).trans h2, (k _).trans h3, (k _).trans h4, (k _).trans h5, (k _).trans h6, (k _).trans h7, (k _).trans h8, (k _).trans h9⟩
theorem DidsAt.below {w w' : World} {A : Option Addr} {n : Nat} {ds : List DidR} (h : DidsAt w A n ds) (hb : Below w.heap.size w w') : DidsAt w' A n ds :=
  ⟨h.1, fun d hd => ⟨(h.2.1 d hd).1.below hb, (h.2.1 d hd).2⟩, fun hn => by
    obtain ⟨g, e, hg, hc⟩ := h.2.2 hn
    exact ⟨g, e, Nat.lt_of_lt_of_le hg hb.size, fun i d hi => (hc i d hi).below hg hb⟩⟩

set_option maxHeartbeats 800000 in
theorem judge_ok (c : Cfg) (A : Option Addr) (n cap : Nat) (ds : List DidR) (w : World) (h : okB c = true) (hd : DidsAt w A n ds) (hn : n ≤ 4096) :
    Calls Try.prog 25 #[.agg #[.int .i64 c.l, .int .i64 c.m, .int .i64 c.a, .int .i64 c.o, .int .i64 c.t, .int .i64 c.c, .int .u64 c.rope, .int .u64 c.bank, .int .u64 c.bonus, .int .u64 c.most, .int .i64 c.str, .int .u64 c.gr, .string c.s0, .string c.s1, .int .i64 c.mi, .int .i64 c.ke], .slice A n cap] w fun e w' => e = .returned (.tuple #[.int .i64 (judgeI c ds 0), .int .i64 0]) ∧ Below w.heap.size w w' := by
  have HD : Hid (∀ W, Below w.heap.size w W → DidsAt W A n ds) := fun W hW => hd.below hW
  have HN := Lib.hid hn
  clear hd
  go_enter Try.func25, Try.ntmps25
  go_wp2_with (first
    | (go_at_call 22; refine (bmoves_any c _).mono ?_; rintro e w1 ⟨rfl, hb1⟩; have hk1 := keep_at hb1 w.heap.size (by simp); have hB1 : Below w.heap.size w w1 := below_call (by (focus (repeat' (first | (with_reducible exact Below.refl _ _) | (with_reducible assumption) | (with_reducible refine Below.alloc ?_ ?_ _) | (with_reducible refine below_drewN ?_ _) | (with_reducible refine Below.drew ?_) | (with_reducible refine Below.setCell ?_ ?_ _) | omega | (simp; done) | (simp; omega))))) hb1 (by (focus (first | omega | (simp only [World.size_alloc]; done) | (simp only [World.size_alloc]; omega) | (simp; done) | (simp; omega)))); have hZ1 : w.heap.size < w1.heap.size := (by have := hb1.size; simp at this; omega); clear hb1)
    | (go_at_call 23; refine (bbytes_any c _).mono ?_; rintro e w2 ⟨rfl, hb2⟩; have hk2 := keep_at hb2 w.heap.size hZ1; have hB2 : Below w.heap.size w w2 := below_call hB1 hb2 hB1.size; have hZ2 : w.heap.size < w2.heap.size := (by have := hb2.size; omega); clear hb2)
    | fail)
  go_loopg [35] n (fun k i W => ∃ j : Nat, j + k = n ∧ i = .int .i64 j ∧ Below w.heap.size w W ∧ w.heap.size < W.heap.size ∧ judgeI c ds 0 = judgeI c (ds.drop j) j)
  case atStart => exact ⟨0, by omega, rfl, hB2, hZ2, rfl⟩
  case round =>
    obtain ⟨j, hj, rfl, hB, hZ, hJ⟩ := hrel
    have hDs := HD.out wr hB
    by_cases hjn : j < n
    · obtain ⟨g, rfl, hg, hc⟩ := hDs.2.2 (by omega)
      have hl := hDs.1
      have hjd : j < ds.length := by omega
      obtain ⟨hs, hsum⟩ := hDs.2.1 ds[j] (List.getElem_mem hjd)
      have hdr : ds.drop j = ds[j] :: ds.drop (j + 1) := List.drop_eq_getElem_cons hjd
      obtain ⟨h0, h1, h2, h3, h4, h5, h6, h7, h8, h9⟩ := hc j ds[j] (List.getElem?_eq_getElem hjd)
      have HJ := Lib.hid hJ
      have HDR := Lib.hid hdr
      have HS := Lib.hid hs
      have HSUM := Lib.hid hsum
      clear hJ hdr hs hsum hDs hc
      generalize ds[j] = d at *
      generalize wr = wo at *
      generalize gk = ko at *
      have HSW : Hid (∀ W, Below wo.heap.size wo W → SentAt W d) := fun W hW => HS.out.below hW
      go_wp2
      go_loopg [11, 43] d.sn (fun k x i W => ∃ p : Nat, p + k = d.sn ∧ i = .int .i64 p ∧ x = .int .i64 ((d.ls.take p).sum : Nat) ∧ Below wo.heap.size wo W ∧ wo.heap.size < W.heap.size ∧ W.cell? ⟨wo.heap.size, 7, none⟩ = some (.slice d.mA d.mn d.mc))
      case atStart => exact ⟨0, by omega, rfl, rfl, (Below.refl _ _).alloc (Nat.le_refl _) _, by simp, by simp⟩
      case round =>
        obtain ⟨p, hp, rfl, rfl, hBi, hZi, h77⟩ := hrel
        obtain ⟨hsl, hsc⟩ := HSW.out wr hBi
        by_cases hps : p < d.sn
        · obtain ⟨hb, hA, hhb, hcell⟩ := hsc (by omega)
          obtain ⟨q1, qa, qc, q2⟩ := hcell p hps
          have hsum : (d.ls.take (p + 1)).sum = (d.ls.take p).sum + d.ls.getD p 0 := by
            rw [List.take_add_one, List.sum_append]
            simp [List.getElem?_eq_getElem (show p < d.ls.length by omega), List.getD]
          have hle : (d.ls.take (p + 1)).sum ≤ d.ls.sum := by
            have := List.take_append_drop (p + 1) d.ls
            calc (d.ls.take (p + 1)).sum ≤ (d.ls.take (p + 1)).sum + (d.ls.drop (p + 1)).sum := Nat.le_add_right _ _
              _ = d.ls.sum := by rw [← List.sum_append, this]
          have hS := HSUM.out.1
          have e1 : wrap64 ((((d.ls.take p).sum : Nat) : Int) + ((d.ls[p]'(by omega) : Nat) : Int)) = (((d.ls.take (p + 1)).sum : Nat) : Int) := by
            rw [hsum]
            simp only [wrap64, List.getD, List.getElem?_eq_getElem (show p < d.ls.length by omega), Option.getD_some] at *
            omega
          have E1 := Lib.hid e1
          clear e1
          have hlt : p < 9223372036854775806 := by have := HSUM.out.2; omega
          clear hcell hsc hsum hle hS
          go_wp2
          go_roundg (gk - 1)
          case measure => omega
          case rel => exact ⟨p + 1, by omega, by go_num, congrArg (Value.int .i64) E1.out, by (focus (repeat' (first | (with_reducible exact Below.refl _ _) | (with_reducible assumption) | (with_reducible refine Below.alloc ?_ ?_ _) | (with_reducible refine below_drewN ?_ _) | (with_reducible refine Below.drew ?_) | (with_reducible refine Below.setCell ?_ ?_ _) | omega | (simp; done) | (simp; omega)))), by (focus (first | omega | (simp only [World.size_alloc]; done) | (simp only [World.size_alloc]; omega) | (simp; done) | (simp; omega))), by rw [World.cell?_alloc_lt _ _ _ hZi]; exact h77⟩
        · have hpe : (d.ls.take p).sum = d.ls.sum := by rw [List.take_of_length_le (by omega)]
          rw [hpe]
          clear hpe hsc hsl
          have hJ := HJ.out
          rw [HDR.out, judgeI] at hJ
          by_cases hb1 : bytI c < (d.ls.sum : Nat)
          · have hbad : badB c d = true := by simp [badB, hb1]
            rw [if_pos hbad] at hJ
            have HJ2 := Lib.hid hJ
            clear hJ hbad
            go_wp2
            go_returns
            refine ⟨?_, ?_⟩
            · rw [HJ2.out]; rfl
            · exact below_call hB hBi hB.size
          · by_cases hb2 : movI c < (d.mn : Int)
            · have hbad : badB c d = true := by simp [badB, hb2]
              rw [if_pos hbad] at hJ
              have HJ2 := Lib.hid hJ
              clear hJ hbad
              go_wp2
              go_returns
              refine ⟨?_, ?_⟩
              · rw [HJ2.out]; rfl
              · exact below_call hB hBi hB.size
            · have hbad : ¬ badB c d = true := by simp [badB, hb1, hb2]
              rw [if_neg hbad] at hJ
              have HJ2 := Lib.hid hJ
              clear hJ hbad
              go_wp2
              go_roundg (ko - 1)
              case measure => omega
              case rel => exact ⟨j + 1, by omega, by go_num, below_call hB hBi hB.size, by omega, by rw [HJ2.out]; rfl⟩
    · have hJ := hJ
      rw [List.drop_eq_nil_of_le (by have := hDs.1; omega), judgeI] at hJ
      have HJ2 := Lib.hid hJ
      clear hJ hDs
      go_wp2
      go_returns
      refine ⟨?_, hB⟩
      rw [HJ2.out]; rfl

end Go.Proofs.Ytleckpoppmecdaa
