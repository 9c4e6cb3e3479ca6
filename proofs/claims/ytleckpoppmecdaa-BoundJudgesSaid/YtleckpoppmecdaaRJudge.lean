/-
  The judge of the reference.
-/
import Derived.Test.YtleckpoppmecdaaDids
import Derived.Deep.RegionHeld3
import Derived.Deep.QuietTactic
import Derived.BigQuiet
import Derived.BigRegion
set_option linter.unusedSimpArgs false
set_option linter.unusedVariables false
namespace Go.Proofs.Ytleckpoppmecdaa
open Go.RowKit

set_option maxHeartbeats 800000 in
theorem rjudge_any (c : Cfg) (A : Option Addr) (n cap : Nat) (ds : List DidR) (w : World) (h : okB c = true) (hd : DidsAt w A n ds) (hn : n ≤ 100000) :
    Calls Try.prog 14 #[.agg #[.int .i64 c.l, .int .i64 c.m, .int .i64 c.a, .int .i64 c.o, .int .i64 c.t, .int .i64 c.c, .int .u64 c.rope, .int .u64 c.bank, .int .u64 c.bonus, .int .u64 c.most, .int .i64 c.str, .int .u64 c.gr, .string c.s0, .string c.s1, .int .i64 c.mi, .int .i64 c.ke], .slice A n cap] w fun e w' => e = .returned (.int .i64 (judgeI c ds 0)) ∧ Below w.heap.size w w' := by
  have HD : Hid (∀ W, Below w.heap.size w W → DidsAt W A n ds) := fun W hW => hd.below hW
  have HG : Hid (0 < n → ∃ g, A = some ⟨g, 0, none⟩ ∧ g < w.heap.size) := fun hn => by
    obtain ⟨g, e, hg, _⟩ := hd.2.2 hn
    exact ⟨g, e, hg⟩
  have HN := Lib.hid hn
  clear hd
  go_enter Try.func14, Try.ntmps14
  go_wp2
  go_loopg [5] n (fun k i W => ∃ j : Nat, j + k = n ∧ i = .int .i64 j ∧ (W.cell? ⟨w.heap.size, 0, none⟩ = some (.int .i64 c.l) ∧ W.cell? ⟨w.heap.size, 1, none⟩ = some (.int .i64 c.m) ∧ W.cell? ⟨w.heap.size, 2, none⟩ = some (.int .i64 c.a) ∧ W.cell? ⟨w.heap.size, 3, none⟩ = some (.int .i64 c.o) ∧ W.cell? ⟨w.heap.size, 4, none⟩ = some (.int .i64 c.t) ∧ W.cell? ⟨w.heap.size, 5, none⟩ = some (.int .i64 c.c) ∧ W.cell? ⟨w.heap.size, 6, none⟩ = some (.int .u64 c.rope) ∧ W.cell? ⟨w.heap.size, 7, none⟩ = some (.int .u64 c.bank) ∧ W.cell? ⟨w.heap.size, 8, none⟩ = some (.int .u64 c.bonus) ∧ W.cell? ⟨w.heap.size, 9, none⟩ = some (.int .u64 c.most) ∧ W.cell? ⟨w.heap.size, 10, none⟩ = some (.int .i64 c.str) ∧ W.cell? ⟨w.heap.size, 11, none⟩ = some (.int .u64 c.gr) ∧ W.cell? ⟨w.heap.size, 12, none⟩ = some (.string c.s0) ∧ W.cell? ⟨w.heap.size, 13, none⟩ = some (.string c.s1) ∧ W.cell? ⟨w.heap.size, 14, none⟩ = some (.int .i64 c.mi) ∧ W.cell? ⟨w.heap.size, 15, none⟩ = some (.int .i64 c.ke) ∧ w.heap.size + 1 ≤ W.heap.size ∧ Below w.heap.size w W) ∧ judgeI c ds 0 = judgeI c (ds.drop j) j)
  case atStart =>
    refine ⟨0, by omega, rfl, ⟨?_, ?_, ?_, ?_, ?_, ?_, ?_, ?_, ?_, ?_, ?_, ?_, ?_, ?_, ?_, ?_, ?_, ?_⟩, rfl⟩ <;> first | (simp; done) | (focus (repeat' (first | (with_reducible exact Below.refl _ _) | (with_reducible assumption) | (with_reducible refine Below.alloc ?_ ?_ _) | (with_reducible refine below_drewN ?_ _) | (with_reducible refine Below.drew ?_) | (with_reducible refine Below.setCell ?_ ?_ _) | omega | (simp; done) | (simp; omega))))
  case round =>
    obtain ⟨j, hj, rfl, ⟨h0, h1, h2, h3, h4, h5, h6, h7, h8, h9, h10, h11, h12, h13, h14, h15, hZ, hB⟩, hJ⟩ := hrel
    have hDs := HD.out wr hB
    by_cases hjn : j < n
    · obtain ⟨g, rfl, hgw⟩ := HG.out (by omega)
      obtain ⟨g', hg'e, hg, hc⟩ := hDs.2.2 (by omega)
      have hgg : g = g' := by simpa using hg'e
      subst hgg
      clear hg'e
      have hl := hDs.1
      have hjd : j < ds.length := by omega
      obtain ⟨hs, hsum⟩ := hDs.2.1 ds[j] (List.getElem_mem hjd)
      have hdr : ds.drop j = ds[j] :: ds.drop (j + 1) := List.drop_eq_getElem_cons hjd
      obtain ⟨d0, d1, d2, d3, d4, d5, d6, d7, d8, d9⟩ := hc j ds[j] (List.getElem?_eq_getElem hjd)
      have HJ := Lib.hid hJ
      have HDR := Lib.hid hdr
      have HS := Lib.hid hs
      have HSUM := Lib.hid hsum
      clear hJ hdr hs hsum hDs hc
      generalize ds[j] = d at *
      generalize wr = wo at *
      generalize gk = ko at *
      have HE : Hid (wo.cell? ⟨w.heap.size, 0, none⟩ = some (.int .i64 c.l) ∧ wo.cell? ⟨w.heap.size, 1, none⟩ = some (.int .i64 c.m) ∧ wo.cell? ⟨w.heap.size, 2, none⟩ = some (.int .i64 c.a) ∧ wo.cell? ⟨w.heap.size, 3, none⟩ = some (.int .i64 c.o) ∧ wo.cell? ⟨w.heap.size, 4, none⟩ = some (.int .i64 c.t) ∧ wo.cell? ⟨w.heap.size, 5, none⟩ = some (.int .i64 c.c) ∧ wo.cell? ⟨w.heap.size, 6, none⟩ = some (.int .u64 c.rope) ∧ wo.cell? ⟨w.heap.size, 7, none⟩ = some (.int .u64 c.bank) ∧ wo.cell? ⟨w.heap.size, 8, none⟩ = some (.int .u64 c.bonus) ∧ wo.cell? ⟨w.heap.size, 9, none⟩ = some (.int .u64 c.most) ∧ wo.cell? ⟨w.heap.size, 10, none⟩ = some (.int .i64 c.str) ∧ wo.cell? ⟨w.heap.size, 11, none⟩ = some (.int .u64 c.gr) ∧ wo.cell? ⟨w.heap.size, 12, none⟩ = some (.string c.s0) ∧ wo.cell? ⟨w.heap.size, 13, none⟩ = some (.string c.s1) ∧ wo.cell? ⟨w.heap.size, 14, none⟩ = some (.int .i64 c.mi) ∧ wo.cell? ⟨w.heap.size, 15, none⟩ = some (.int .i64 c.ke) ∧ w.heap.size + 1 ≤ wo.heap.size ∧ Below w.heap.size w wo) := ⟨h0, h1, h2, h3, h4, h5, h6, h7, h8, h9, h10, h11, h12, h13, h14, h15, hZ, hB⟩
      have HK : Hid (∀ W W' : World, (W.cell? ⟨g, j * 10 + 7, none⟩ = some (.slice d.mA d.mn d.mc) ∧ W.cell? ⟨w.heap.size, 0, none⟩ = some (.int .i64 c.l) ∧ W.cell? ⟨w.heap.size, 1, none⟩ = some (.int .i64 c.m) ∧ W.cell? ⟨w.heap.size, 2, none⟩ = some (.int .i64 c.a) ∧ W.cell? ⟨w.heap.size, 3, none⟩ = some (.int .i64 c.o) ∧ W.cell? ⟨w.heap.size, 4, none⟩ = some (.int .i64 c.t) ∧ W.cell? ⟨w.heap.size, 5, none⟩ = some (.int .i64 c.c) ∧ W.cell? ⟨w.heap.size, 6, none⟩ = some (.int .u64 c.rope) ∧ W.cell? ⟨w.heap.size, 7, none⟩ = some (.int .u64 c.bank) ∧ W.cell? ⟨w.heap.size, 8, none⟩ = some (.int .u64 c.bonus) ∧ W.cell? ⟨w.heap.size, 9, none⟩ = some (.int .u64 c.most) ∧ W.cell? ⟨w.heap.size, 10, none⟩ = some (.int .i64 c.str) ∧ W.cell? ⟨w.heap.size, 11, none⟩ = some (.int .u64 c.gr) ∧ W.cell? ⟨w.heap.size, 12, none⟩ = some (.string c.s0) ∧ W.cell? ⟨w.heap.size, 13, none⟩ = some (.string c.s1) ∧ W.cell? ⟨w.heap.size, 14, none⟩ = some (.int .i64 c.mi) ∧ W.cell? ⟨w.heap.size, 15, none⟩ = some (.int .i64 c.ke) ∧ w.heap.size + 1 ≤ W.heap.size ∧ Below w.heap.size w W) → Below W.heap.size W W' → (W'.cell? ⟨g, j * 10 + 7, none⟩ = some (.slice d.mA d.mn d.mc) ∧ W'.cell? ⟨w.heap.size, 0, none⟩ = some (.int .i64 c.l) ∧ W'.cell? ⟨w.heap.size, 1, none⟩ = some (.int .i64 c.m) ∧ W'.cell? ⟨w.heap.size, 2, none⟩ = some (.int .i64 c.a) ∧ W'.cell? ⟨w.heap.size, 3, none⟩ = some (.int .i64 c.o) ∧ W'.cell? ⟨w.heap.size, 4, none⟩ = some (.int .i64 c.t) ∧ W'.cell? ⟨w.heap.size, 5, none⟩ = some (.int .i64 c.c) ∧ W'.cell? ⟨w.heap.size, 6, none⟩ = some (.int .u64 c.rope) ∧ W'.cell? ⟨w.heap.size, 7, none⟩ = some (.int .u64 c.bank) ∧ W'.cell? ⟨w.heap.size, 8, none⟩ = some (.int .u64 c.bonus) ∧ W'.cell? ⟨w.heap.size, 9, none⟩ = some (.int .u64 c.most) ∧ W'.cell? ⟨w.heap.size, 10, none⟩ = some (.int .i64 c.str) ∧ W'.cell? ⟨w.heap.size, 11, none⟩ = some (.int .u64 c.gr) ∧ W'.cell? ⟨w.heap.size, 12, none⟩ = some (.string c.s0) ∧ W'.cell? ⟨w.heap.size, 13, none⟩ = some (.string c.s1) ∧ W'.cell? ⟨w.heap.size, 14, none⟩ = some (.int .i64 c.mi) ∧ W'.cell? ⟨w.heap.size, 15, none⟩ = some (.int .i64 c.ke) ∧ w.heap.size + 1 ≤ W'.heap.size ∧ Below w.heap.size w W')) := by
        intro W W' ⟨k7, h0, h1, h2, h3, h4, h5, h6, h7, h8, h9, h10, h11, h12, h13, h14, h15, hz, hB⟩ hb
        have hz' := hb.size
        have c0 := keep_at hb (w.heap.size) (by omega)
        exact ⟨(keep_at hb g (by omega) _).trans k7, (c0 _).trans h0, (c0 _).trans h1, (c0 _).trans h2, (c0 _).trans h3, (c0 _).trans h4, (c0 _).trans h5, (c0 _).trans h6, (c0 _).trans h7, (c0 _).trans h8, (c0 _).trans h9, (c0 _).trans h10, (c0 _).trans h11, (c0 _).trans h12, (c0 _).trans h13, (c0 _).trans h14, (c0 _).trans h15, by omega, below_call hB hb (by omega)⟩
      go_wp2
      go_loopg [6, 7] d.sn (fun k x i W => ∃ p : Nat, p + k = d.sn ∧ i = .int .i64 p ∧ x = .int .i64 ((d.ls.take p).sum : Nat) ∧ W = wo)
      case atStart => exact ⟨0, by omega, rfl, rfl, rfl⟩
      case round =>
        obtain ⟨p, hp, rfl, rfl, rfl⟩ := hrel
        obtain ⟨hsl, hsc⟩ := HS.out
        by_cases hps : p < d.sn
        · obtain ⟨hb, hA, hhb, hcell⟩ := hsc (by omega)
          obtain ⟨q1, qa, qc, q2⟩ := hcell p hps
          have hsum : (d.ls.take (p + 1)).sum = (d.ls.take p).sum + d.ls.getD p 0 := by
            rw [List.take_add_one, List.sum_append]
            simp [List.getElem?_eq_getElem (show p < d.ls.length by omega), List.getD]
          have hle : (d.ls.take (p + 1)).sum ≤ d.ls.sum := by
            have := List.take_append_drop (p + 1) d.ls
            calc (d.ls.take (p + 1)).sum ≤ (d.ls.take (p + 1)).sum + (d.ls.drop (p + 1)).sum := Nat.le_add_right _ _
              _ = d.ls.sum := by rw [← List.sum_append, this]
          have hS := HSUM.out.1
          have e1 : wrap64 ((((d.ls.take p).sum : Nat) : Int) + ((d.ls[p]'(by omega) : Nat) : Int)) = (((d.ls.take (p + 1)).sum : Nat) : Int) := by
            rw [hsum]
            simp only [wrap64, List.getD, List.getElem?_eq_getElem (show p < d.ls.length by omega), Option.getD_some] at *
            omega
          have E1 := Lib.hid e1
          clear e1
          have hlt : p < 9223372036854775806 := by have := HSUM.out.2; omega
          clear hcell hsc hsum hle hS
          go_wp2
          go_roundg (gk - 1)
          case measure => omega
          case rel => exact ⟨p + 1, by omega, by go_num, congrArg (Value.int .i64) E1.out, rfl⟩
        · have hpe : (d.ls.take p).sum = d.ls.sum := by rw [List.take_of_length_le (by omega)]
          rw [hpe]
          clear hpe hsc hsl
          have hJ := HJ.out
          rw [HDR.out, judgeI] at hJ
          by_cases hb2 : movI c < (d.mn : Int)
          · have hbad : badB c d = true := by simp [badB, hb2]
            rw [if_pos hbad] at hJ
            have HJ2 := Lib.hid hJ
            clear hJ hbad
            go_wp2
            refine wp_region_held_drew (S := fun W => W.cell? ⟨g, j * 10 + 7, none⟩ = some (.slice d.mA d.mn d.mc) ∧ W.cell? ⟨w.heap.size, 0, none⟩ = some (.int .i64 c.l) ∧ W.cell? ⟨w.heap.size, 1, none⟩ = some (.int .i64 c.m) ∧ W.cell? ⟨w.heap.size, 2, none⟩ = some (.int .i64 c.a) ∧ W.cell? ⟨w.heap.size, 3, none⟩ = some (.int .i64 c.o) ∧ W.cell? ⟨w.heap.size, 4, none⟩ = some (.int .i64 c.t) ∧ W.cell? ⟨w.heap.size, 5, none⟩ = some (.int .i64 c.c) ∧ W.cell? ⟨w.heap.size, 6, none⟩ = some (.int .u64 c.rope) ∧ W.cell? ⟨w.heap.size, 7, none⟩ = some (.int .u64 c.bank) ∧ W.cell? ⟨w.heap.size, 8, none⟩ = some (.int .u64 c.bonus) ∧ W.cell? ⟨w.heap.size, 9, none⟩ = some (.int .u64 c.most) ∧ W.cell? ⟨w.heap.size, 10, none⟩ = some (.int .i64 c.str) ∧ W.cell? ⟨w.heap.size, 11, none⟩ = some (.int .u64 c.gr) ∧ W.cell? ⟨w.heap.size, 12, none⟩ = some (.string c.s0) ∧ W.cell? ⟨w.heap.size, 13, none⟩ = some (.string c.s1) ∧ W.cell? ⟨w.heap.size, 14, none⟩ = some (.int .i64 c.mi) ∧ W.cell? ⟨w.heap.size, 15, none⟩ = some (.int .i64 c.ke) ∧ w.heap.size + 1 ≤ W.heap.size ∧ Below w.heap.size w W) (by kernel_rfl) ?_ (fun hHeld => ?_)
            · (try dsimp only)
              (first
                | assumption
                | exact HK.out _ _ (by assumption) hb
                | (refine ⟨?_, ?_, ?_, ?_, ?_, ?_, ?_, ?_, ?_, ?_, ?_, ?_, ?_, ?_, ?_, ?_, ?_, ?_, ?_⟩ <;> first | assumption | (simp; done) | (focus (repeat' (first | (with_reducible exact Below.refl _ _) | (with_reducible assumption) | (with_reducible refine Below.alloc ?_ ?_ _) | (with_reducible refine below_drewN ?_ _) | (with_reducible refine Below.drew ?_) | (with_reducible refine Below.setCell ?_ ?_ _) | omega | (simp; done) | (simp; omega)))))
                | (obtain ⟨g0, g1, g2, g3, g4, g5, g6, g7, g8, g9, g10, g11, g12, g13, g14, g15, g16, g17, g18⟩ := HK.out _ _ (by assumption) hb; assumption)
                | (simp; done)
                | (focus (repeat' (first | (with_reducible exact Below.refl _ _) | (with_reducible assumption) | (with_reducible refine Below.alloc ?_ ?_ _) | (with_reducible refine below_drewN ?_ _) | (with_reducible refine Below.drew ?_) | (with_reducible refine Below.setCell ?_ ?_ _) | omega | (simp; done) | (simp; omega)))))
            refine wpAnyH_take (i := 0) (v := ?_) rfl (by kernel_rfl) (by kernel_rfl) (by kernel_rfl) (fun _ _ _ h => h) (Or.inl ⟨by rfl, ?_⟩) (by assumption) ?_
            case refine_2 =>
              intro w hSw
              (try dsimp only at hSw)
              go_simp
              all_goals (with_reducible rfl)
            try simp only [Act.put, List.getElem_toArray, List.getElem_cons_zero, List.getElem_cons_succ, List.setIfInBounds_toArray, List.set_cons_zero, List.set_cons_succ]
            refine wpAnyH_take (i := 1) (v := ?_) rfl (by kernel_rfl) (by kernel_rfl) (by kernel_rfl) (fun _ _ _ h => h) (Or.inl ⟨by rfl, ?_⟩) (by assumption) ?_
            case refine_2 =>
              intro w hSw
              (try dsimp only at hSw)
              go_simp
              all_goals (with_reducible rfl)
            try simp only [Act.put, List.getElem_toArray, List.getElem_cons_zero, List.getElem_cons_succ, List.setIfInBounds_toArray, List.set_cons_zero, List.set_cons_succ]
            refine wpAnyH_take (i := 2) (v := ?_) rfl (by kernel_rfl) (by kernel_rfl) (by kernel_rfl) (fun _ _ _ h => h) (Or.inl ⟨by rfl, ?_⟩) (by assumption) ?_
            case refine_2 =>
              intro w hSw
              (try dsimp only at hSw)
              go_simp
              all_goals (with_reducible rfl)
            try simp only [Act.put, List.getElem_toArray, List.getElem_cons_zero, List.getElem_cons_succ, List.setIfInBounds_toArray, List.set_cons_zero, List.set_cons_succ]
            refine wpAnyH_take (i := 3) (v := ?_) rfl (by kernel_rfl) (by kernel_rfl) (by kernel_rfl) (fun _ _ _ h => h) (Or.inl ⟨by rfl, ?_⟩) (by assumption) ?_
            case refine_2 =>
              intro w hSw
              (try dsimp only at hSw)
              go_simp
              all_goals (with_reducible rfl)
            try simp only [Act.put, List.getElem_toArray, List.getElem_cons_zero, List.getElem_cons_succ, List.setIfInBounds_toArray, List.set_cons_zero, List.set_cons_succ]
            refine wpAnyH_take (i := 4) (v := ?_) rfl (by kernel_rfl) (by kernel_rfl) (by kernel_rfl) (fun _ _ _ h => h) (Or.inl ⟨by rfl, ?_⟩) (by assumption) ?_
            case refine_2 =>
              intro w hSw
              (try dsimp only at hSw)
              go_simp
              all_goals (with_reducible rfl)
            try simp only [Act.put, List.getElem_toArray, List.getElem_cons_zero, List.getElem_cons_succ, List.setIfInBounds_toArray, List.set_cons_zero, List.set_cons_succ]
            refine wpAnyH_take (i := 5) (v := ?_) rfl (by kernel_rfl) (by kernel_rfl) (by kernel_rfl) (fun _ _ _ h => h) (Or.inl ⟨by rfl, ?_⟩) (by assumption) ?_
            case refine_2 =>
              intro w hSw
              (try dsimp only at hSw)
              go_simp
              all_goals (with_reducible rfl)
            try simp only [Act.put, List.getElem_toArray, List.getElem_cons_zero, List.getElem_cons_succ, List.setIfInBounds_toArray, List.set_cons_zero, List.set_cons_succ]
            refine wpAnyH_take (i := 6) (v := ?_) rfl (by kernel_rfl) (by kernel_rfl) (by kernel_rfl) (fun _ _ _ h => h) (Or.inl ⟨by rfl, ?_⟩) (by assumption) ?_
            case refine_2 =>
              intro w hSw
              (try dsimp only at hSw)
              go_simp
              all_goals (with_reducible rfl)
            try simp only [Act.put, List.getElem_toArray, List.getElem_cons_zero, List.getElem_cons_succ, List.setIfInBounds_toArray, List.set_cons_zero, List.set_cons_succ]
            refine wpAnyH_ready (rs := [7]) (by kernel_rfl) (by simp) ?_
            refine AllReadyH.cons rfl (fun K hK => ?_) AllReadyH.nil
            go_simp
            (go_at_call 11; refine (rmoves_any c _ h).mono ?_; rintro e w' ⟨rfl, hb⟩)
            try go_wp2_with fail
            refine hK.out _ _ ?_ (fun hHeld => ?_)
            · (try dsimp only)
              (first
                | assumption
                | exact HK.out _ _ (by assumption) hb
                | (refine ⟨?_, ?_, ?_, ?_, ?_, ?_, ?_, ?_, ?_, ?_, ?_, ?_, ?_, ?_, ?_, ?_, ?_, ?_, ?_⟩ <;> first | assumption | (simp; done) | (focus (repeat' (first | (with_reducible exact Below.refl _ _) | (with_reducible assumption) | (with_reducible refine Below.alloc ?_ ?_ _) | (with_reducible refine below_drewN ?_ _) | (with_reducible refine Below.drew ?_) | (with_reducible refine Below.setCell ?_ ?_ _) | omega | (simp; done) | (simp; omega)))))
                | (obtain ⟨g0, g1, g2, g3, g4, g5, g6, g7, g8, g9, g10, g11, g12, g13, g14, g15, g16, g17, g18⟩ := HK.out _ _ (by assumption) hb; assumption)
                | (simp; done)
                | (focus (repeat' (first | (with_reducible exact Below.refl _ _) | (with_reducible assumption) | (with_reducible refine Below.alloc ?_ ?_ _) | (with_reducible refine below_drewN ?_ _) | (with_reducible refine Below.drew ?_) | (with_reducible refine Below.setCell ?_ ?_ _) | omega | (simp; done) | (simp; omega)))))
            clear hK K
            try simp only [Act.put, List.getElem_toArray, List.getElem_cons_zero, List.getElem_cons_succ, List.setIfInBounds_toArray, List.set_cons_zero, List.set_cons_succ]
            refine wpAnyH_take (i := 8) (v := ?_) rfl (by kernel_rfl) (by kernel_rfl) (by kernel_rfl) (fun _ _ _ h => h) (Or.inl ⟨by rfl, ?_⟩) (by assumption) ?_
            case refine_2 =>
              intro w hSw
              (try dsimp only at hSw)
              go_simp
              all_goals (with_reducible rfl)
            try simp only [Act.put, List.getElem_toArray, List.getElem_cons_zero, List.getElem_cons_succ, List.setIfInBounds_toArray, List.set_cons_zero, List.set_cons_succ]
            refine wpAnyH_take (i := 9) (v := ?_) rfl (by kernel_rfl) (by kernel_rfl) (by kernel_rfl) (fun _ _ _ h => h) (Or.inl ⟨by rfl, ?_⟩) (by assumption) ?_
            case refine_2 =>
              intro w hSw
              (try dsimp only at hSw)
              go_simp
              all_goals (with_reducible rfl)
            try simp only [Act.put, List.getElem_toArray, List.getElem_cons_zero, List.getElem_cons_succ, List.setIfInBounds_toArray, List.set_cons_zero, List.set_cons_succ]
            refine wpAnyH_take (i := 10) (v := undef) rfl (by kernel_rfl) (by kernel_rfl) (by kernel_rfl) (fun _ _ _ h => h) (Or.inr ⟨by rfl, rfl⟩) (by assumption) ?_
            try simp only [Act.put, List.getElem_toArray, List.getElem_cons_zero, List.getElem_cons_succ, List.setIfInBounds_toArray, List.set_cons_zero, List.set_cons_succ]
            refine wpAnyH_take (i := 11) (v := undef) rfl (by kernel_rfl) (by kernel_rfl) (by kernel_rfl) (fun _ _ _ h => h) (Or.inr ⟨by rfl, rfl⟩) (by assumption) ?_
            try simp only [Act.put, List.getElem_toArray, List.getElem_cons_zero, List.getElem_cons_succ, List.setIfInBounds_toArray, List.set_cons_zero, List.set_cons_succ]
            refine wpAnyH_take (i := 12) (v := undef) rfl (by kernel_rfl) (by kernel_rfl) (by kernel_rfl) (fun _ _ _ h => h) (Or.inr ⟨by rfl, rfl⟩) (by assumption) ?_
            try simp only [Act.put, List.getElem_toArray, List.getElem_cons_zero, List.getElem_cons_succ, List.setIfInBounds_toArray, List.set_cons_zero, List.set_cons_succ]
            refine wpAnyH_take (i := 13) (v := undef) rfl (by kernel_rfl) (by kernel_rfl) (by kernel_rfl) (fun _ _ _ h => h) (Or.inr ⟨by rfl, rfl⟩) (by assumption) ?_
            try simp only [Act.put, List.getElem_toArray, List.getElem_cons_zero, List.getElem_cons_succ, List.setIfInBounds_toArray, List.set_cons_zero, List.set_cons_succ]
            refine wpAnyH_take (i := 14) (v := ?_) rfl (by kernel_rfl) (by kernel_rfl) (by kernel_rfl) (fun _ _ _ h => h) (Or.inl ⟨by rfl, ?_⟩) (by assumption) ?_
            case refine_2 =>
              intro w hSw
              (try dsimp only at hSw)
              go_simp
              all_goals (with_reducible rfl)
            try simp only [Act.put, List.getElem_toArray, List.getElem_cons_zero, List.getElem_cons_succ, List.setIfInBounds_toArray, List.set_cons_zero, List.set_cons_succ]
            refine wpAnyH_done (by kernel_rfl) ?_ _
            obtain ⟨_, g0, g1, g2, g3, g4, g5, g6, g7, g8, g9, g10, g11, g12, g13, g14, g15, hz', hB'⟩ := hHeld
            go_wp2
            go_returns
            refine ⟨?_, hB'⟩
            rw [HJ2.out]; rfl
          · have hbad : badB c d = decide (bytI c < (d.ls.sum : Nat)) := by simp [badB, hb2]
            rw [hbad] at hJ
            have HJ2 := Lib.hid hJ
            have hdec : decide (movI c < (d.mn : Int)) = false := by simp [hb2]
            clear hJ hbad
            go_wp2
            first
            | (go_region_held3 (fun W => W.cell? ⟨g, j * 10 + 7, none⟩ = some (.slice d.mA d.mn d.mc) ∧ W.cell? ⟨w.heap.size, 0, none⟩ = some (.int .i64 c.l) ∧ W.cell? ⟨w.heap.size, 1, none⟩ = some (.int .i64 c.m) ∧ W.cell? ⟨w.heap.size, 2, none⟩ = some (.int .i64 c.a) ∧ W.cell? ⟨w.heap.size, 3, none⟩ = some (.int .i64 c.o) ∧ W.cell? ⟨w.heap.size, 4, none⟩ = some (.int .i64 c.t) ∧ W.cell? ⟨w.heap.size, 5, none⟩ = some (.int .i64 c.c) ∧ W.cell? ⟨w.heap.size, 6, none⟩ = some (.int .u64 c.rope) ∧ W.cell? ⟨w.heap.size, 7, none⟩ = some (.int .u64 c.bank) ∧ W.cell? ⟨w.heap.size, 8, none⟩ = some (.int .u64 c.bonus) ∧ W.cell? ⟨w.heap.size, 9, none⟩ = some (.int .u64 c.most) ∧ W.cell? ⟨w.heap.size, 10, none⟩ = some (.int .i64 c.str) ∧ W.cell? ⟨w.heap.size, 11, none⟩ = some (.int .u64 c.gr) ∧ W.cell? ⟨w.heap.size, 12, none⟩ = some (.string c.s0) ∧ W.cell? ⟨w.heap.size, 13, none⟩ = some (.string c.s1) ∧ W.cell? ⟨w.heap.size, 14, none⟩ = some (.int .i64 c.mi) ∧ W.cell? ⟨w.heap.size, 15, none⟩ = some (.int .i64 c.ke) ∧ w.heap.size + 1 ≤ W.heap.size ∧ Below w.heap.size w W)
            (first
              | assumption
              | exact HK.out _ _ (by assumption) hb
              | (refine ⟨?_, ?_, ?_, ?_, ?_, ?_, ?_, ?_, ?_, ?_, ?_, ?_, ?_, ?_, ?_, ?_, ?_, ?_, ?_⟩ <;> first | assumption | (simp; done) | (focus (repeat' (first | (with_reducible exact Below.refl _ _) | (with_reducible assumption) | (with_reducible refine Below.alloc ?_ ?_ _) | (with_reducible refine below_drewN ?_ _) | (with_reducible refine Below.drew ?_) | (with_reducible refine Below.setCell ?_ ?_ _) | omega | (simp; done) | (simp; omega)))))
              | (obtain ⟨g0, g1, g2, g3, g4, g5, g6, g7, g8, g9, g10, g11, g12, g13, g14, g15, g16, g17, g18⟩ := HK.out _ _ (by assumption) hb; assumption)
              | (simp; done)
              | (focus (repeat' (first | (with_reducible exact Below.refl _ _) | (with_reducible assumption) | (with_reducible refine Below.alloc ?_ ?_ _) | (with_reducible refine below_drewN ?_ _) | (with_reducible refine Below.drew ?_) | (with_reducible refine Below.setCell ?_ ?_ _) | omega | (simp; done) | (simp; omega)))))
            (first
              | (go_at_call 11; refine (rmoves_any c _ h).mono ?_; rintro e w' ⟨rfl, hb⟩)
              | (go_at_call 12; refine (rbytes_any c _ h).mono ?_; rintro e w' ⟨rfl, hb⟩)))
            | fail
            rename_i hHeld
            obtain ⟨_, g0, g1, g2, g3, g4, g5, g6, g7, g8, g9, g10, g11, g12, g13, g14, g15, hz', hB'⟩ := hHeld
            by_cases hb1 : bytI c < (d.ls.sum : Nat)
            · have hJ := HJ2.out
              rw [if_pos (by simp [hb1])] at hJ
              have HJ3 := Lib.hid hJ
              clear hJ
              go_wp2
              go_returns
              refine ⟨?_, hB'⟩
              rw [HJ3.out]; rfl
            · have hJ := HJ2.out
              rw [if_neg (by simp [hb1])] at hJ
              have HJ3 := Lib.hid hJ
              clear hJ
              go_wp2
              go_roundg (ko - 1)
              case measure => omega
              case rel => exact ⟨j + 1, by omega, by go_num, ⟨g0, g1, g2, g3, g4, g5, g6, g7, g8, g9, g10, g11, g12, g13, g14, g15, hz', hB'⟩, by rw [HJ3.out]; rfl⟩
    · have hJ := hJ
      rw [List.drop_eq_nil_of_le (by have := hDs.1; omega), judgeI] at hJ
      have HJ2 := Lib.hid hJ
      clear hJ hDs
      go_wp2
      go_returns
      refine ⟨?_, hB⟩
      rw [HJ2.out]; rfl

end Go.Proofs.Ytleckpoppmecdaa
