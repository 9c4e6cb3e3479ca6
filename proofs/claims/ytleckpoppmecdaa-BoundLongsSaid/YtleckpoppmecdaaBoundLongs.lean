/-
  BoundLongs: for every number and every configuration the statement BoundLongs answers true; no condition.
-/
import Derived.Test.YtleckpoppmecdaaKnown
import Derived.Test.YtleckpoppmecdaaOpen
import Derived.ProofKit
import Derived.OpenShut
import Derived.ShutString
import Derived.ChangeOld
import Derived.Below
import Derived.Lib.SmallJoins
set_option linter.unusedSimpArgs false
set_option linter.unusedVariables false
namespace Go.Proofs.Ytleckpoppmecdaa.boundLongs
open Go.Joins Go.ChangeShapes Go.WideShapes Go.ChangeAt Go.RowKit
open Go.ChangeMaps (open_string shut_string)

theorem Try.info49 : (Try.prog.info? 49).map (fun i => (i.zero, i.size, i.bytes)) = some (some (.agg #[.int .i64 0, .int .i64 0, .int .i64 0, .slice none 0 0, .int .i64 0, .int .i64 0, .slice none 0 0, .slice none 0 0, .int .i64 0, .int .u64 0]), 10, 128) := by kernel_rfl
def zeroD : DidR := ⟨none, 0, 0, none, 0, 0, []⟩
theorem made_at (z : Array Value) (n i k : Nat) (hz : z.size = 10) (hi : i < n) (hk : k < 10) : (madeCells z (n * 10)).toList[i * 10 + k]? = some (z[k]'(by omega)) := by
  have h : i * 10 + k < n * 10 := by omega
  have hm : (i * 10 + k) % 10 = k := by omega
  simp [madeCells, hz, hm, h, getElem!_pos, hk]
theorem make_dids (w : World) {ops : Array Oper} {rest : List Oper} {o : Oper} {a : Act} {Q : Exit → Act → World → Prop}
    (hg : o.guard = none) (l c : Operand) (hop : o.op = Op.makeSlice 40 l c)
    (kl kc : IntKind) (L C : Int) (n : Nat) (hl : a.eval l = .int kl L) (hc : a.eval c = .int kc C) (hL : L = (n : Int)) (hC : C = (n : Int)) (b2 : n ≤ 1000000)
    (hK : ∀ w', DidsAt w' (some ⟨w.heap.size, 0, none⟩) n (List.replicate n zeroD) → Below w.heap.size w w' → wpList Try.prog ops Q rest (a.put o.dst (.slice (some ⟨w.heap.size, 0, none⟩) n n)) w') :
    wpList Try.prog ops Q (o :: rest) a w := by
  obtain ⟨i0, hi, hz0, hz1, hz2⟩ := info_parts Try.info49
  refine wpList_make_full w hg l c 40 hop w.heap.size 49 i0 _ 10 Try.underlying40 hi hz0 hz1 kl kc L C n hl hc hL hC (by rw [hz2]; omega) (by unfold maxLen; omega) (Nat.le_refl _) ?_
  intro w' ho hgr
  refine hK w' ⟨by simp, ?_, fun hn => ⟨_, rfl, (ho.lt _ rfl).2, ?_⟩⟩ ((Below.refl _ _).grown hgr (Nat.le_refl _) (fun k hk => by cases hk))
  · intro d hd
    rw [List.eq_of_mem_replicate hd]
    exact ⟨⟨rfl, fun h => absurd h (Nat.lt_irrefl 0)⟩, by decide, by decide⟩
  · intro i d hd
    have hin : i < n := by
      rcases Nat.lt_or_ge i n with h | h
      · exact h
      · rw [List.getElem?_eq_none (by simpa using h)] at hd; cases hd
    rw [List.getElem?_replicate, if_pos hin] at hd
    injection hd with hd
    subst hd
    have hc := fun k hk => ho.cells (g := w.heap.size) rfl (i * 10 + k) _ (made_at _ n i k rfl hin hk)
    simp only [add_at] at hc
    exact ⟨hc 0 (by omega), hc 1 (by omega), hc 2 (by omega), hc 3 (by omega), hc 4 (by omega), hc 5 (by omega), hc 6 (by omega), hc 7 (by omega), hc 8 (by omega), hc 9 (by omega)⟩
theorem judge_zero (c : Cfg) (h : okB c = true) : ∀ (n : Nat) (i : Int), judgeI c (List.replicate n zeroD) i = -1
  | 0, _ => rfl
  | n + 1, i => by
    have hg := pr_bd (ok_game h)
    have hk := ok_bd h
    have hb : ¬ badB c zeroD = true := by
      have e1 : ¬ bytI c < (((0 : Nat)) : Int) := by unfold bytI movI; omega
      have e2 : ¬ movI c < (((0 : Nat)) : Int) := by unfold movI; omega
      have e0 : (zeroD.ls.sum : Nat) = 0 := rfl
      unfold badB
      rw [e0, show zeroD.mn = 0 from rfl]
      simp only [e1, e2]
      decide
    rw [List.replicate_succ, judgeI, if_neg hb]
    exact judge_zero c h n (i + 1)

set_option maxHeartbeats 800000 in
theorem walk_no (M : Int) (c : Cfg) (w : World) (hM1 : 4094 ≤ M) (hM2 : M ≤ 4098) (hs : smallB c = true) (ho : okB c = false) :
    Calls Try.prog 5 #[.int .i64 M, .agg #[.int .i64 c.l, .int .i64 c.m, .int .i64 c.a, .int .i64 c.o, .int .i64 c.t, .int .i64 c.c, .int .u64 c.rope, .int .u64 c.bank, .int .u64 c.bonus, .int .u64 c.most, .int .i64 c.str, .int .u64 c.gr, .string c.s0, .string c.s1, .int .i64 c.mi, .int .i64 c.ke]] w fun e w' => e = .returned (.bool true) ∧ Below w.heap.size w w' := by
  obtain ⟨n, hn⟩ : ∃ n : Nat, M = (n : Int) := ⟨M.toNat, by omega⟩
  have HB := Lib.hid (show n ≤ 1000000 by omega)
  have HN := Lib.hid hn
  clear hn
  have HS := fun W => small_any c W
  rw [hs] at HS
  have HSS := Lib.hid HS
  clear HS hs
  have HO := fun W => allowed_any c W
  rw [ho] at HO
  have HOO := Lib.hid HO
  have HNO := Lib.hid ho
  clear HO ho
  go_enter Try.func5, Try.ntmps5
  go_wp2_with (first
    | (go_at_call 6; refine (HSS.out _).mono ?_; rintro e w1 ⟨rfl, hb1⟩; have hk1 := keep_at hb1 w.heap.size (by simp); have hB1 : Below w.heap.size w w1 := below_call (by (focus (repeat' (first | (with_reducible exact Below.refl _ _) | (with_reducible assumption) | (with_reducible refine Below.alloc ?_ ?_ _) | (with_reducible refine below_drewN ?_ _) | (with_reducible refine Below.drew ?_) | (with_reducible refine Below.setCell ?_ ?_ _) | omega | (simp; done) | (simp; omega))))) hb1 (by (focus (first | omega | (simp only [World.size_alloc]; done) | (simp only [World.size_alloc]; omega) | (simp; done) | (simp; omega)))); have hZ1 : w.heap.size < w1.heap.size := (by have := hb1.size; simp at this; omega); clear hb1)
    | (refine make_dids _ rfl (.tmp 18) (.tmp 18) rfl .i64 .i64 M M n rfl rfl HN.out HN.out HB.out ?_; intro w2 hd2 hb2; have hk2 := keep_at hb2 w.heap.size hZ1; have hB2 : Below w.heap.size w w2 := below_call hB1 hb2 hB1.size; have hZ2 : w.heap.size < w2.heap.size := (by have := hb2.size; omega); have HD2 : Hid (∀ W, Below w2.heap.size w2 W → DidsAt W (some ⟨w1.heap.size, 0, none⟩) n (List.replicate n zeroD)) := fun W hW => hd2.below hW; clear hd2 hb2)
    | (go_at_call 8; refine (HOO.out _).mono ?_; rintro e w3 ⟨rfl, hb3⟩; have hk3 := keep_at hb3 w.heap.size hZ2; have HB23 := Lib.hid hb3; have hB3 : Below w.heap.size w w3 := below_call hB2 hb3 hB2.size; have hZ3 : w.heap.size < w3.heap.size := (by have := hb3.size; omega); clear hb3)
    | (go_at_call 13; refine (judges_no c _ _ _ _ HNO.out).mono ?_; rintro e w4 ⟨rfl, hb4⟩; have hB4 : Below w.heap.size w w4 := below_call hB3 hb4 hB3.size; clear hb4)
    | (go_at_call 7; refine (known_any _).mono ?_; rintro e w5 ⟨rfl, hb5⟩; have hB5 : Below w.heap.size w w5 := below_call hB4 hb5 hB4.size; clear hb5)
    | fail)
  go_returns
  exact ⟨rfl, hB5⟩

set_option maxHeartbeats 800000 in
theorem walk_long (M : Int) (c : Cfg) (w : World) (hM1 : 4094 ≤ M) (hM2 : M ≤ 4098) (hs : smallB c = true) (ho : okB c = true) (hlong : (4096 : Int) < M) :
    Calls Try.prog 5 #[.int .i64 M, .agg #[.int .i64 c.l, .int .i64 c.m, .int .i64 c.a, .int .i64 c.o, .int .i64 c.t, .int .i64 c.c, .int .u64 c.rope, .int .u64 c.bank, .int .u64 c.bonus, .int .u64 c.most, .int .i64 c.str, .int .u64 c.gr, .string c.s0, .string c.s1, .int .i64 c.mi, .int .i64 c.ke]] w fun e w' => e = .returned (.bool true) ∧ Below w.heap.size w w' := by
  obtain ⟨n, hn⟩ : ∃ n : Nat, M = (n : Int) := ⟨M.toNat, by omega⟩
  have HB := Lib.hid (show n ≤ 1000000 by omega)
  have HN := Lib.hid hn
  clear hn
  have HS := fun W => small_any c W
  rw [hs] at HS
  have HSS := Lib.hid HS
  clear HS hs
  have HO := fun W => allowed_any c W
  rw [ho] at HO
  have HOO := Lib.hid HO
  have HNO := Lib.hid ho
  clear HO ho
  have HL : Hid (4096 < n) := Lib.hid (by have := HN.out; omega)
  go_enter Try.func5, Try.ntmps5
  go_wp2_with (first
    | (go_at_call 6; refine (HSS.out _).mono ?_; rintro e w1 ⟨rfl, hb1⟩; have hk1 := keep_at hb1 w.heap.size (by simp); have hB1 : Below w.heap.size w w1 := below_call (by (focus (repeat' (first | (with_reducible exact Below.refl _ _) | (with_reducible assumption) | (with_reducible refine Below.alloc ?_ ?_ _) | (with_reducible refine below_drewN ?_ _) | (with_reducible refine Below.drew ?_) | (with_reducible refine Below.setCell ?_ ?_ _) | omega | (simp; done) | (simp; omega))))) hb1 (by (focus (first | omega | (simp only [World.size_alloc]; done) | (simp only [World.size_alloc]; omega) | (simp; done) | (simp; omega)))); have hZ1 : w.heap.size < w1.heap.size := (by have := hb1.size; simp at this; omega); clear hb1)
    | (refine make_dids _ rfl (.tmp 18) (.tmp 18) rfl .i64 .i64 M M n rfl rfl HN.out HN.out HB.out ?_; intro w2 hd2 hb2; have hk2 := keep_at hb2 w.heap.size hZ1; have hB2 : Below w.heap.size w w2 := below_call hB1 hb2 hB1.size; have hZ2 : w.heap.size < w2.heap.size := (by have := hb2.size; omega); have HD2 : Hid (∀ W, Below w2.heap.size w2 W → DidsAt W (some ⟨w1.heap.size, 0, none⟩) n (List.replicate n zeroD)) := fun W hW => hd2.below hW; clear hd2 hb2)
    | (go_at_call 8; refine (HOO.out _).mono ?_; rintro e w3 ⟨rfl, hb3⟩; have hk3 := keep_at hb3 w.heap.size hZ2; have HB23 := Lib.hid hb3; have hB3 : Below w.heap.size w w3 := below_call hB2 hb3 hB2.size; have hZ3 : w.heap.size < w3.heap.size := (by have := hb3.size; omega); clear hb3)
    | (go_at_call 13; refine (judges_long c _ _ _ _ HNO.out HL.out).mono ?_; rintro e w4 ⟨rfl, hb4⟩; have hB4 : Below w.heap.size w w4 := below_call hB3 hb4 hB3.size; clear hb4)
    | (go_at_call 7; refine (known_any _).mono ?_; rintro e w5 ⟨rfl, hb5⟩; have hB5 : Below w.heap.size w w5 := below_call hB4 hb5 hB4.size; clear hb5)
    | fail)
  go_returns
  exact ⟨rfl, hB5⟩

set_option maxHeartbeats 800000 in
theorem walk_ok (M : Int) (c : Cfg) (w : World) (hM1 : 4094 ≤ M) (hM2 : M ≤ 4098) (hs : smallB c = true) (ho : okB c = true) (hlong : ¬ (4096 : Int) < M) :
    Calls Try.prog 5 #[.int .i64 M, .agg #[.int .i64 c.l, .int .i64 c.m, .int .i64 c.a, .int .i64 c.o, .int .i64 c.t, .int .i64 c.c, .int .u64 c.rope, .int .u64 c.bank, .int .u64 c.bonus, .int .u64 c.most, .int .i64 c.str, .int .u64 c.gr, .string c.s0, .string c.s1, .int .i64 c.mi, .int .i64 c.ke]] w fun e w' => e = .returned (.bool true) ∧ Below w.heap.size w w' := by
  obtain ⟨n, hn⟩ : ∃ n : Nat, M = (n : Int) := ⟨M.toNat, by omega⟩
  have HB := Lib.hid (show n ≤ 1000000 by omega)
  have HN := Lib.hid hn
  clear hn
  have HS := fun W => small_any c W
  rw [hs] at HS
  have HSS := Lib.hid HS
  clear HS hs
  have HO := fun W => allowed_any c W
  rw [ho] at HO
  have HOO := Lib.hid HO
  have HNO := Lib.hid ho
  clear HO ho
  have HJ : Hid (∀ (W : World) (A : Option Addr), DidsAt W A n (List.replicate n zeroD) → Calls Try.prog 13 #[.agg #[.int .i64 c.l, .int .i64 c.m, .int .i64 c.a, .int .i64 c.o, .int .i64 c.t, .int .i64 c.c, .int .u64 c.rope, .int .u64 c.bank, .int .u64 c.bonus, .int .u64 c.most, .int .i64 c.str, .int .u64 c.gr, .string c.s0, .string c.s1, .int .i64 c.mi, .int .i64 c.ke], .slice A n n, .int .i64 (-1), .int .i64 0] W fun e w' => e = .returned (.bool true) ∧ Below W.heap.size W w') := fun W A h => by
    have := judges_ok c A n n _ W HNO.out h (by have := HN.out; omega)
    rw [judge_zero c HNO.out] at this
    exact this
  go_enter Try.func5, Try.ntmps5
  go_wp2_with (first
    | (go_at_call 6; refine (HSS.out _).mono ?_; rintro e w1 ⟨rfl, hb1⟩; have hk1 := keep_at hb1 w.heap.size (by simp); have hB1 : Below w.heap.size w w1 := below_call (by (focus (repeat' (first | (with_reducible exact Below.refl _ _) | (with_reducible assumption) | (with_reducible refine Below.alloc ?_ ?_ _) | (with_reducible refine below_drewN ?_ _) | (with_reducible refine Below.drew ?_) | (with_reducible refine Below.setCell ?_ ?_ _) | omega | (simp; done) | (simp; omega))))) hb1 (by (focus (first | omega | (simp only [World.size_alloc]; done) | (simp only [World.size_alloc]; omega) | (simp; done) | (simp; omega)))); have hZ1 : w.heap.size < w1.heap.size := (by have := hb1.size; simp at this; omega); clear hb1)
    | (refine make_dids _ rfl (.tmp 18) (.tmp 18) rfl .i64 .i64 M M n rfl rfl HN.out HN.out HB.out ?_; intro w2 hd2 hb2; have hk2 := keep_at hb2 w.heap.size hZ1; have hB2 : Below w.heap.size w w2 := below_call hB1 hb2 hB1.size; have hZ2 : w.heap.size < w2.heap.size := (by have := hb2.size; omega); have HD2 : Hid (∀ W, Below w2.heap.size w2 W → DidsAt W (some ⟨w1.heap.size, 0, none⟩) n (List.replicate n zeroD)) := fun W hW => hd2.below hW; clear hd2 hb2)
    | (go_at_call 8; refine (HOO.out _).mono ?_; rintro e w3 ⟨rfl, hb3⟩; have hk3 := keep_at hb3 w.heap.size hZ2; have HB23 := Lib.hid hb3; have hB3 : Below w.heap.size w w3 := below_call hB2 hb3 hB2.size; have hZ3 : w.heap.size < w3.heap.size := (by have := hb3.size; omega); clear hb3)
    | (go_at_call 13; refine (HJ.out _ _ (HD2.out _ HB23.out)).mono ?_; rintro e w4 ⟨rfl, hb4⟩; have hB4 : Below w.heap.size w w4 := below_call hB3 hb4 hB3.size; clear hb4)
    | (go_at_call 7; refine (known_any _).mono ?_; rintro e w5 ⟨rfl, hb5⟩; have hB5 : Below w.heap.size w w5 := below_call hB4 hb5 hB4.size; clear hb5)
    | fail)
  go_returns
  exact ⟨rfl, hB5⟩

set_option maxHeartbeats 800000 in
theorem walk (M : Int) (c : Cfg) (w : World) :
    Calls Try.prog 5 #[.int .i64 M, .agg #[.int .i64 c.l, .int .i64 c.m, .int .i64 c.a, .int .i64 c.o, .int .i64 c.t, .int .i64 c.c, .int .u64 c.rope, .int .u64 c.bank, .int .u64 c.bonus, .int .u64 c.most, .int .i64 c.str, .int .u64 c.gr, .string c.s0, .string c.s1, .int .i64 c.mi, .int .i64 c.ke]] w fun e w' => e = .returned (.bool true) ∧ Below w.heap.size w w' := by
  by_cases hM : 4094 ≤ M ∧ M ≤ 4098
  · obtain ⟨hM1, hM2⟩ := hM
    cases hs : smallB c with
    | false =>
      have HS := fun W => small_any c W
      rw [hs] at HS
      have HSS := Lib.hid HS
      clear HS hs
      go_enter Try.func5, Try.ntmps5
      go_wp2_with (first
        | (go_at_call 6; refine (HSS.out _).mono ?_; rintro e w1 ⟨rfl, hb1⟩; have hk1 := keep_at hb1 w.heap.size (by simp); have hB1 : Below w.heap.size w w1 := below_call (by (focus (repeat' (first | (with_reducible exact Below.refl _ _) | (with_reducible assumption) | (with_reducible refine Below.alloc ?_ ?_ _) | (with_reducible refine below_drewN ?_ _) | (with_reducible refine Below.drew ?_) | (with_reducible refine Below.setCell ?_ ?_ _) | omega | (simp; done) | (simp; omega))))) hb1 (by (focus (first | omega | (simp only [World.size_alloc]; done) | (simp only [World.size_alloc]; omega) | (simp; done) | (simp; omega)))))
        | (go_at_call 7; refine (known_any _).mono ?_; rintro e w2 ⟨rfl, hb2⟩; have hB2 : Below w.heap.size w w2 := below_call hB1 hb2 hB1.size)
        | fail)
      go_returns
      exact ⟨rfl, hB2⟩
    | true =>
      cases ho : okB c with
      | false => exact walk_no M c w hM1 hM2 hs ho
      | true =>
        by_cases hlong : (4096 : Int) < M
        · exact walk_long M c w hM1 hM2 hs ho hlong
        · exact walk_ok M c w hM1 hM2 hs ho hlong
  · go_enter Try.func5, Try.ntmps5
    by_cases h1 : M < 4094
    · go_wp2_with (go_at_call 7; refine (known_any _).mono ?_; rintro e w2 ⟨rfl, hb2⟩; have hB2 : Below w.heap.size w w2 := below_call (by (focus (repeat' (first | (with_reducible exact Below.refl _ _) | (with_reducible assumption) | (with_reducible refine Below.alloc ?_ ?_ _) | (with_reducible refine below_drewN ?_ _) | (with_reducible refine Below.drew ?_) | (with_reducible refine Below.setCell ?_ ?_ _) | omega | (simp; done) | (simp; omega))))) hb2 (by (focus (first | omega | (simp only [World.size_alloc]; done) | (simp only [World.size_alloc]; omega) | (simp; done) | (simp; omega)))))
      go_returns
      exact ⟨rfl, hB2⟩
    · have h2 : 4098 < M := by omega
      go_wp2_with (go_at_call 7; refine (known_any _).mono ?_; rintro e w2 ⟨rfl, hb2⟩; have hB2 : Below w.heap.size w w2 := below_call (by (focus (repeat' (first | (with_reducible exact Below.refl _ _) | (with_reducible assumption) | (with_reducible refine Below.alloc ?_ ?_ _) | (with_reducible refine below_drewN ?_ _) | (with_reducible refine Below.drew ?_) | (with_reducible refine Below.setCell ?_ ?_ _) | omega | (simp; done) | (simp; omega))))) hb2 (by (focus (first | omega | (simp only [World.size_alloc]; done) | (simp only [World.size_alloc]; omega) | (simp; done) | (simp; omega)))))
      go_returns
      exact ⟨rfl, hB2⟩

theorem own : ownKnob Try.prog.godebug = none := by kernel_rfl
theorem laidOut : laidOutB Try.prog = true := by kernel_rfl

set_option maxRecDepth 100000 in
theorem lifted (os : Os) (started : os.Started) (H : Type) (enc : TypeId × Value → H) :
    ReturnsInHanded {} Try.checked os 5 .any (Rows.boundLongsSpec.pre6 enc Try.prog Try.f5 Rows.boundLongsRow.domain false) (Rows.boundLongsSpec.post enc Try.prog Try.f5 false true false false) := by
  refine returnsInHanded_of_change (C := Try.checked) own started (by kernel_rfl) Try.func5
    (ChangeSpec.witness6 (enc := enc) (C := Try.checked) false ⟨#[], #[.int .i64 0, .agg #[.int .i64 0, .int .i64 0, .int .i64 0, .int .i64 0, .int .i64 0, .int .i64 0, .int .u64 0, .int .u64 0, .int .u64 0, .int .u64 0, .int .i64 0, .int .u64 0, .string ⟨#[]⟩, .string ⟨#[]⟩, .int .i64 0, .int .i64 0]], []⟩ 8 (by kernel_rfl) (by kernel_rfl) (by kernel_rfl) (by kernel_rfl)) ?_
  intro W base args ds gs before hval0 hW hcnd _
  have hval : ∀ (j : Nat) t v, Try.f5.params[j]? = some t → args[j]? = some v → Value.okWide Try.prog W .any base t v := hval0
  have hW' := hW
  obtain ⟨p, q, hA0, hV, rfl, hfz, hnd⟩ := hW
  have hA : DataW.TrodAll enc Try.prog W 0 (fun _ => true) true Try.f5.params.toList args.toList ds p := hA0
  rw [Try.params5] at hA hval
  obtain ⟨v0, vs0, d0, ds0, p0, q0, hargs, rfl, rfl, h0, r0⟩ := trodAll_cons hA
  obtain ⟨v1, vs1, d1, ds1, p1, q1, rfl, rfl, rfl, h1, r1⟩ := trodAll_cons r0
  obtain ⟨rfl, rfl, rfl⟩ := trodAll_nil r1
  obtain rfl : args = #[v0, v1] := by cases args; simp_all
  obtain ⟨rfl, rfl⟩ := trodVars_none hV
  have k0 := h0
  have lt0 : ∀ x ∈ p0, x.block < W.heap.size := by obtain ⟨m, hm⟩ := k0; exact DataW.trod_lt m _ _ _ hm
  have k1 := h1
  have lt1 : ∀ x ∈ p1, x.block < W.heap.size := by obtain ⟨m, hm⟩ := k1; exact DataW.trod_lt m _ _ _ hm
  obtain ⟨a0, rfl, rfl, rfl, w0⟩ := open_int Try.underlying3 (hval 0 3 v0 rfl rfl) h0
  obtain ⟨c1, rfl, hp1⟩ := open_cfg (hval 1 32 v1 rfl rfl) h1
  clear hA0 hval0
  refine (walk a0 c1 W).mono fun e W' ⟨he, bel⟩ => ?_
  subst he
  exact ⟨_, rfl, _, _, _, [], _, [], hW', trodAll_mk1 (shut_bool Try.underlying4 _), (trodAll_cons_mk (Below.trod laidOut (by kernel_rfl) (of_decide_eq_true (by kernel_rfl)) k0 bel lt0) (trodAll_cons_mk (Below.trod laidOut (by kernel_rfl) (of_decide_eq_true (by kernel_rfl)) k1 bel lt1) trodAll_mk0)), rfl, bel.frame _, fun h => by cases h⟩

theorem over : Rows.boundLongsRow.holds Try.pinned (OpenSpec.ofChange Rows.boundLongsSpec) :=
  OpenClaim.holds_of_wide 5 Try.f5 rfl rfl rfl rfl rfl rfl rfl ⟨rfl, rfl, rfl, rfl, rfl⟩ rfl rfl rfl rfl rfl (by kernel_rfl) Try.func5 (by kernel_rfl)
    (of_decide_eq_true (by kernel_rfl)) (by unfold Func.isWrapper; first | (rw [if_pos (by decide +kernel)]; kernel_rfl) | (rw [if_neg (by decide +kernel)]; exact ⟨rfl, rfl⟩))
    (fun os started H enc _ => lifted os started H enc)

/-- The statement. -/
theorem proved : Rows.BoundLongsSaid := over

end Go.Proofs.Ytleckpoppmecdaa.boundLongs
