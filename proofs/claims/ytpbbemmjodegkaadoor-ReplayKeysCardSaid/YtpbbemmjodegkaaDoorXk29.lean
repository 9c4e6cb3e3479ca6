/-
  Texts: Kv.
-/
import Derived.Test.YtpbbemmjodegkaaDoorXk20
import Derived.Test.YtpbbemmjodegkaaDoorXk21
import Derived.Test.YtpbbemmjodegkaaDoorXk28
set_option linter.unusedSimpArgs false
set_option linter.unusedVariables false
namespace Go.Proofs.YtpbbemmjodegkaaDoor
open Go.RowKit

theorem size_cfg : (Tryd.prog.info? 23).map (·.size) = some 6 := by decide +kernel
theorem size_setup : (Tryd.prog.info? 29).map (·.size) = some 4 := by decide +kernel
theorem KeyEnd.nf {L : List Int} {us : List Nat} {l : List Cd} {e : Ending} (h : KeyEnd L us l e) : ∃ kx ke : Int, e = .returned (.tuple #[.int .u32 kx, .int .i64 ke]) ∧ (L.any ngS = true → kx = 0 ∧ ke = 2) ∧ (L.any ngS = false → allOk l = false → kx = 0 ∧ ke = 2) ∧
    (L.any ngS = false → allOk l = true → ¬ (names l).Nodup → kx = 0 ∧ ke = 11) ∧ (L.any ngS = false → allOk l = true → (names l).Nodup → kx = psS (keyB L us l) ∧ ke = 0) := by
  rcases h with ⟨h1, rfl⟩ | ⟨h1, h2, rfl⟩ | ⟨h1, h2, h3, rfl⟩ | ⟨h1, h2, h3, rfl⟩
  all_goals (refine ⟨_, _, rfl, ?_, ?_, ?_, ?_⟩ <;> intros <;> simp_all)
theorem append_bytes_w {P : Program} {w : World} {ops : Array Oper} {rest : List Oper} {o : Oper} {a : Act} {Q : Exit → Act → World → Prop} (hwd : Region.wanted o (yielded ops a.tmps) = true) (s x : Operand) (t : TypeId)
    (ho : o.op = .call { callee := .builtin .append, args := #[s, x], argTypes := #[t, t] })
    (base : Nat) (e : TypeId) (hrow : (P.info? e).map (fun i => (i.zero, i.size, i.bytes)) = some (some (.int .u8 0), 1, 1)) (ht : P.underlying t = some (.slice e))
    (A : Option Addr) (n cap : Nat) (xs : List Int) (hs : a.eval s = .slice A n cap) (hown : BOwns w base e A n cap xs)
    (A' : Option Addr) (m c : Nat) (ys : List Int) (hx : a.eval x = .slice A' m c) (hA : A' = none → c = 0) (hr : BReads w A' m ys)
    (hbd : n + m ≤ 140737488355328) (hbase : base ≤ w.heap.size)
    (h : ∀ A2 cap2 w', BOwns w' base e A2 (n + m) cap2 (xs ++ ys) → Below base w w' → wpList P ops Q rest (a.put o.dst (.slice A2 (n + m) cap2)) w') : wpList P ops Q (o :: rest) a w :=
  wpList_step fun K hK => by
    simp only [hwd, if_true]
    exact append_b_op s x t ho base e hrow ht A n cap xs hs hown A' m c ys hx hA hr hbd hbase fun A2 c2 w' h2 h3 => hK _ _ (h A2 c2 w' h2 h3)
set_option maxRecDepth 100000 in
set_option maxHeartbeats 6400000 in
theorem keys_1 (c0 c1 c2 c3 c4 c5 : Int) (A0 A1 A2 A3 : Option Addr) (n0 n1 n2 n3 x0 x1 x2 x3 : Nat) (w : World) (h0 : (60 : Int) < n0) : Calls Tryd.prog 3 #[.agg #[.int .i64 c0, .int .i64 c1, .int .i64 c2, .int .i64 c3, .int .i64 c4, .int .i64 c5], .agg #[.slice A0 n0 x0, .slice A1 n1 x1, .slice A2 n2 x2, .slice A3 n3 x3]] w fun e w' => e = .returned (.bool true) ∧ Below w.heap.size w w' := by
  obtain ⟨wa, ha⟩ : ∃ z, w.alloc (.cells #[.int .i64 c0, .int .i64 c1, .int .i64 c2, .int .i64 c3, .int .i64 c4, .int .i64 c5] 23) = z := ⟨_, rfl⟩
  obtain ⟨wb, hb⟩ : ∃ z, wa.alloc (.cells #[.slice A0 n0 x0, .slice A1 n1 x1, .slice A2 n2 x2, .slice A3 n3 x3] 29) = z := ⟨_, rfl⟩
  have bA : Below w.heap.size w wa := ha ▸ (Below.refl _ _).alloc (Nat.le_refl _) _
  have bB : Below wa.heap.size wa wb := hb ▸ (Below.refl _ _).alloc (Nat.le_refl _) _
  have kA : Blk wb w.heap.size 23 #[.int .i64 c0, .int .i64 c1, .int .i64 c2, .int .i64 c3, .int .i64 c4, .int .i64 c5] := Blk.call (ha ▸ Blk.mk_ _ _ _ _ rfl) bB
  have kS : Blk wb wa.heap.size 29 #[.slice A0 n0 x0, .slice A1 n1 x1, .slice A2 n2 x2, .slice A3 n3 x3] := hb ▸ Blk.mk_ _ _ _ _ rfl
  have s0 : wb.cell? ⟨wa.heap.size, 0, none⟩ = some (.slice A0 n0 x0) := (kS.at_ 0).trans rfl
  have s1 : wb.cell? ⟨wa.heap.size, 1, none⟩ = some (.slice A1 n1 x1) := (kS.at_ 1).trans rfl
  have s2 : wb.cell? ⟨wa.heap.size, 2, none⟩ = some (.slice A2 n2 x2) := (kS.at_ 2).trans rfl
  have s3 : wb.cell? ⟨wa.heap.size, 3, none⟩ = some (.slice A3 n3 x3) := (kS.at_ 3).trans rfl
  have HKN := Lib.hid known_any
  have HAB := Lib.hid (below_call bA bB bA.size)
  clear bA bB kA kS
  go_enter Tryd.func3, Tryd.ntmps3
  go_wp2_with fail
  refine (HKN.out _).mono ?_
  rintro e w1 ⟨rfl, hb1⟩
  go_wp2_with fail
  go_ret
  exact ⟨rfl, below_call HAB.out hb1 HAB.out.size⟩
set_option maxRecDepth 100000 in
set_option maxHeartbeats 6400000 in
theorem keys_2 (c0 c1 c2 c3 c4 c5 : Int) (A0 A1 A2 A3 : Option Addr) (n0 n1 n2 n3 x0 x1 x2 x3 : Nat) (w : World) (h0 : ¬ (60 : Int) < n0) (h1 : (60 : Int) < n1) : Calls Tryd.prog 3 #[.agg #[.int .i64 c0, .int .i64 c1, .int .i64 c2, .int .i64 c3, .int .i64 c4, .int .i64 c5], .agg #[.slice A0 n0 x0, .slice A1 n1 x1, .slice A2 n2 x2, .slice A3 n3 x3]] w fun e w' => e = .returned (.bool true) ∧ Below w.heap.size w w' := by
  obtain ⟨wa, ha⟩ : ∃ z, w.alloc (.cells #[.int .i64 c0, .int .i64 c1, .int .i64 c2, .int .i64 c3, .int .i64 c4, .int .i64 c5] 23) = z := ⟨_, rfl⟩
  obtain ⟨wb, hb⟩ : ∃ z, wa.alloc (.cells #[.slice A0 n0 x0, .slice A1 n1 x1, .slice A2 n2 x2, .slice A3 n3 x3] 29) = z := ⟨_, rfl⟩
  have bA : Below w.heap.size w wa := ha ▸ (Below.refl _ _).alloc (Nat.le_refl _) _
  have bB : Below wa.heap.size wa wb := hb ▸ (Below.refl _ _).alloc (Nat.le_refl _) _
  have kA : Blk wb w.heap.size 23 #[.int .i64 c0, .int .i64 c1, .int .i64 c2, .int .i64 c3, .int .i64 c4, .int .i64 c5] := Blk.call (ha ▸ Blk.mk_ _ _ _ _ rfl) bB
  have kS : Blk wb wa.heap.size 29 #[.slice A0 n0 x0, .slice A1 n1 x1, .slice A2 n2 x2, .slice A3 n3 x3] := hb ▸ Blk.mk_ _ _ _ _ rfl
  have s0 : wb.cell? ⟨wa.heap.size, 0, none⟩ = some (.slice A0 n0 x0) := (kS.at_ 0).trans rfl
  have s1 : wb.cell? ⟨wa.heap.size, 1, none⟩ = some (.slice A1 n1 x1) := (kS.at_ 1).trans rfl
  have s2 : wb.cell? ⟨wa.heap.size, 2, none⟩ = some (.slice A2 n2 x2) := (kS.at_ 2).trans rfl
  have s3 : wb.cell? ⟨wa.heap.size, 3, none⟩ = some (.slice A3 n3 x3) := (kS.at_ 3).trans rfl
  have HKN := Lib.hid known_any
  have HAB := Lib.hid (below_call bA bB bA.size)
  clear bA bB kA kS
  go_enter Tryd.func3, Tryd.ntmps3
  go_wp2_with fail
  refine (HKN.out _).mono ?_
  rintro e w1 ⟨rfl, hb1⟩
  go_wp2_with fail
  go_ret
  exact ⟨rfl, below_call HAB.out hb1 HAB.out.size⟩
set_option maxRecDepth 100000 in
set_option maxHeartbeats 6400000 in
theorem keys_3 (c0 c1 c2 c3 c4 c5 : Int) (A0 A1 A2 A3 : Option Addr) (n0 n1 n2 n3 x0 x1 x2 x3 : Nat) (w : World) (h0 : ¬ (60 : Int) < n0) (h1 : ¬ (60 : Int) < n1) (h2 : (60 : Int) < n2) : Calls Tryd.prog 3 #[.agg #[.int .i64 c0, .int .i64 c1, .int .i64 c2, .int .i64 c3, .int .i64 c4, .int .i64 c5], .agg #[.slice A0 n0 x0, .slice A1 n1 x1, .slice A2 n2 x2, .slice A3 n3 x3]] w fun e w' => e = .returned (.bool true) ∧ Below w.heap.size w w' := by
  obtain ⟨wa, ha⟩ : ∃ z, w.alloc (.cells #[.int .i64 c0, .int .i64 c1, .int .i64 c2, .int .i64 c3, .int .i64 c4, .int .i64 c5] 23) = z := ⟨_, rfl⟩
  obtain ⟨wb, hb⟩ : ∃ z, wa.alloc (.cells #[.slice A0 n0 x0, .slice A1 n1 x1, .slice A2 n2 x2, .slice A3 n3 x3] 29) = z := ⟨_, rfl⟩
  have bA : Below w.heap.size w wa := ha ▸ (Below.refl _ _).alloc (Nat.le_refl _) _
  have bB : Below wa.heap.size wa wb := hb ▸ (Below.refl _ _).alloc (Nat.le_refl _) _
  have kA : Blk wb w.heap.size 23 #[.int .i64 c0, .int .i64 c1, .int .i64 c2, .int .i64 c3, .int .i64 c4, .int .i64 c5] := Blk.call (ha ▸ Blk.mk_ _ _ _ _ rfl) bB
  have kS : Blk wb wa.heap.size 29 #[.slice A0 n0 x0, .slice A1 n1 x1, .slice A2 n2 x2, .slice A3 n3 x3] := hb ▸ Blk.mk_ _ _ _ _ rfl
  have s0 : wb.cell? ⟨wa.heap.size, 0, none⟩ = some (.slice A0 n0 x0) := (kS.at_ 0).trans rfl
  have s1 : wb.cell? ⟨wa.heap.size, 1, none⟩ = some (.slice A1 n1 x1) := (kS.at_ 1).trans rfl
  have s2 : wb.cell? ⟨wa.heap.size, 2, none⟩ = some (.slice A2 n2 x2) := (kS.at_ 2).trans rfl
  have s3 : wb.cell? ⟨wa.heap.size, 3, none⟩ = some (.slice A3 n3 x3) := (kS.at_ 3).trans rfl
  have HKN := Lib.hid known_any
  have HAB := Lib.hid (below_call bA bB bA.size)
  clear bA bB kA kS
  go_enter Tryd.func3, Tryd.ntmps3
  go_wp2_with fail
  refine (HKN.out _).mono ?_
  rintro e w1 ⟨rfl, hb1⟩
  go_wp2_with fail
  go_ret
  exact ⟨rfl, below_call HAB.out hb1 HAB.out.size⟩
set_option maxRecDepth 100000 in
set_option maxHeartbeats 6400000 in
theorem keys_4 (c0 c1 c2 c3 c4 c5 : Int) (A0 A1 A2 A3 : Option Addr) (n0 n1 n2 n3 x0 x1 x2 x3 : Nat) (w : World) (h0 : ¬ (60 : Int) < n0) (h1 : ¬ (60 : Int) < n1) (h2 : ¬ (60 : Int) < n2) (h3 : (100 : Int) < n3) : Calls Tryd.prog 3 #[.agg #[.int .i64 c0, .int .i64 c1, .int .i64 c2, .int .i64 c3, .int .i64 c4, .int .i64 c5], .agg #[.slice A0 n0 x0, .slice A1 n1 x1, .slice A2 n2 x2, .slice A3 n3 x3]] w fun e w' => e = .returned (.bool true) ∧ Below w.heap.size w w' := by
  obtain ⟨wa, ha⟩ : ∃ z, w.alloc (.cells #[.int .i64 c0, .int .i64 c1, .int .i64 c2, .int .i64 c3, .int .i64 c4, .int .i64 c5] 23) = z := ⟨_, rfl⟩
  obtain ⟨wb, hb⟩ : ∃ z, wa.alloc (.cells #[.slice A0 n0 x0, .slice A1 n1 x1, .slice A2 n2 x2, .slice A3 n3 x3] 29) = z := ⟨_, rfl⟩
  have bA : Below w.heap.size w wa := ha ▸ (Below.refl _ _).alloc (Nat.le_refl _) _
  have bB : Below wa.heap.size wa wb := hb ▸ (Below.refl _ _).alloc (Nat.le_refl _) _
  have kA : Blk wb w.heap.size 23 #[.int .i64 c0, .int .i64 c1, .int .i64 c2, .int .i64 c3, .int .i64 c4, .int .i64 c5] := Blk.call (ha ▸ Blk.mk_ _ _ _ _ rfl) bB
  have kS : Blk wb wa.heap.size 29 #[.slice A0 n0 x0, .slice A1 n1 x1, .slice A2 n2 x2, .slice A3 n3 x3] := hb ▸ Blk.mk_ _ _ _ _ rfl
  have s0 : wb.cell? ⟨wa.heap.size, 0, none⟩ = some (.slice A0 n0 x0) := (kS.at_ 0).trans rfl
  have s1 : wb.cell? ⟨wa.heap.size, 1, none⟩ = some (.slice A1 n1 x1) := (kS.at_ 1).trans rfl
  have s2 : wb.cell? ⟨wa.heap.size, 2, none⟩ = some (.slice A2 n2 x2) := (kS.at_ 2).trans rfl
  have s3 : wb.cell? ⟨wa.heap.size, 3, none⟩ = some (.slice A3 n3 x3) := (kS.at_ 3).trans rfl
  have HKN := Lib.hid known_any
  have HAB := Lib.hid (below_call bA bB bA.size)
  clear bA bB kA kS
  go_enter Tryd.func3, Tryd.ntmps3
  go_wp2_with fail
  refine (HKN.out _).mono ?_
  rintro e w1 ⟨rfl, hb1⟩
  go_wp2_with fail
  go_ret
  exact ⟨rfl, below_call HAB.out hb1 HAB.out.size⟩
set_option maxRecDepth 100000 in
set_option maxHeartbeats 12800000 in
theorem keys_5 (c0 c1 c2 c3 c4 c5 : Int) (A0 A1 A2 A3 : Option Addr) (x0 x1 x2 x3 : Nat) (l : List Cd) (ms : List CdM) (d1 d2 : List Int) (us : List Nat) (w : World)
    (r0 : CsR w ⟨A0, x0⟩ l ms) (r1 : Reads w 1 A1 d1.length (ics d1)) (o1 : A1 = none → x1 = 0) (r2 : Reads w 1 A2 d2.length (ics d2)) (o2 : A2 = none → x2 = 0) (r3 : NReads w A3 us.length us)
    (h0 : ¬ (60 : Int) < l.length) (h1 : ¬ (60 : Int) < d1.length) (h2 : ¬ (60 : Int) < d2.length) (h3 : ¬ (100 : Int) < us.length) (hwf : ∀ x ∈ keyL c0 c1 c2 c3 c4 c5 d1 d2, wf64 x) :
    Calls Tryd.prog 3 #[.agg #[.int .i64 c0, .int .i64 c1, .int .i64 c2, .int .i64 c3, .int .i64 c4, .int .i64 c5], .agg #[.slice A0 l.length x0, .slice A1 d1.length x1, .slice A2 d2.length x2, .slice A3 us.length x3]] w
      fun e w' => e = .returned (.bool true) ∧ Below w.heap.size w w' := by
  obtain ⟨L, hL⟩ : ∃ L, keyL c0 c1 c2 c3 c4 c5 d1 d2 = L := ⟨_, rfl⟩
  have HKEY : Hid (∀ W, Below w.heap.size w W → Calls Tryd.prog 5 #[.agg #[.int .i64 c0, .int .i64 c1, .int .i64 c2, .int .i64 c3, .int .i64 c4, .int .i64 c5], .agg #[.slice A0 l.length x0, .slice A1 d1.length x1, .slice A2 d2.length x2, .slice A3 us.length x3]] W fun e w' => KeyEnd L us l e ∧ Below W.heap.size W w') :=
    Lib.hid fun W hb => hL ▸ rkey_any c0 c1 c2 c3 c4 c5 A0 A1 A2 A3 x0 x1 x2 x3 l ms d1 d2 us W (r0.below hb) (r1.below hb) o1 (r2.below hb) o2 ⟨r3.1.below hb, r3.2⟩ (by omega) (by omega) (by omega) (by omega) hwf
  obtain ⟨n0, e0⟩ : ∃ n, l.length = n := ⟨_, rfl⟩
  obtain ⟨n1, e1⟩ : ∃ n, d1.length = n := ⟨_, rfl⟩
  obtain ⟨n2, e2⟩ : ∃ n, d2.length = n := ⟨_, rfl⟩
  obtain ⟨n3, e3⟩ : ∃ n, us.length = n := ⟨_, rfl⟩
  obtain ⟨L0, hL0⟩ : ∃ L0, [c0, c1, c2, c3, c4, c5] = L0 := ⟨_, rfl⟩
  have HLL : Hid (L = L0 ++ ((n1 : Int) :: d1) ++ ((n2 : Int) :: d2)) := Lib.hid (by rw [← hL, ← hL0, ← e1, ← e2]; rfl)
  obtain ⟨nN, hnN⟩ : ∃ x, 8 + n1 + n2 = x := ⟨_, rfl⟩
  have HLN : Hid (L.length = nN) := Lib.hid (by rw [HLL.out, ← hL0, ← hnN]; simp [e1, e2]; omega)
  have HNN := Lib.hid hnN
  rw [hL] at hwf
  obtain ⟨wa, ha⟩ : ∃ z, w.alloc (.cells #[.int .i64 c0, .int .i64 c1, .int .i64 c2, .int .i64 c3, .int .i64 c4, .int .i64 c5] 23) = z := ⟨_, rfl⟩
  obtain ⟨wb, hb⟩ : ∃ z, wa.alloc (.cells #[.slice A0 n0 x0, .slice A1 n1 x1, .slice A2 n2 x2, .slice A3 n3 x3] 29) = z := ⟨_, rfl⟩
  have bA : Below w.heap.size w wa := ha ▸ (Below.refl _ _).alloc (Nat.le_refl _) _
  have bB : Below wa.heap.size wa wb := hb ▸ (Below.refl _ _).alloc (Nat.le_refl _) _
  have kA : Blk wb w.heap.size 23 #[.int .i64 c0, .int .i64 c1, .int .i64 c2, .int .i64 c3, .int .i64 c4, .int .i64 c5] := Blk.call (ha ▸ Blk.mk_ _ _ _ _ rfl) bB
  have kS : Blk wb wa.heap.size 29 #[.slice A0 n0 x0, .slice A1 n1 x1, .slice A2 n2 x2, .slice A3 n3 x3] := hb ▸ Blk.mk_ _ _ _ _ rfl
  have s0 : wb.cell? ⟨wa.heap.size, 0, none⟩ = some (.slice A0 n0 x0) := (kS.at_ 0).trans rfl
  have s1 : wb.cell? ⟨wa.heap.size, 1, none⟩ = some (.slice A1 n1 x1) := (kS.at_ 1).trans rfl
  have s2 : wb.cell? ⟨wa.heap.size, 2, none⟩ = some (.slice A2 n2 x2) := (kS.at_ 2).trans rfl
  have s3 : wb.cell? ⟨wa.heap.size, 3, none⟩ = some (.slice A3 n3 x3) := (kS.at_ 3).trans rfl
  have HLC : Hid ((Instr.loadAt 23 (.pointer (some ⟨w.heap.size, 0, none⟩))).run Tryd.prog wb = .ok (.agg #[.int .i64 c0, .int .i64 c1, .int .i64 c2, .int .i64 c3, .int .i64 c4, .int .i64 c5]) wb) := Lib.hid (kA.mid (o := 0) (ty := 23) [.int .i64 c0, .int .i64 c1, .int .i64 c2, .int .i64 c3, .int .i64 c4, .int .i64 c5] _ (fun j v hj => by rw [Nat.zero_add]; simpa using hj) Tryd.underlying23 rfl size_cfg)
  have HLS : Hid ((Instr.loadAt 29 (.pointer (some ⟨wa.heap.size, 0, none⟩))).run Tryd.prog wb = .ok (.agg #[.slice A0 n0 x0, .slice A1 n1 x1, .slice A2 n2 x2, .slice A3 n3 x3]) wb) := Lib.hid (kS.mid (o := 0) (ty := 29) [.slice A0 n0 x0, .slice A1 n1 x1, .slice A2 n2 x2, .slice A3 n3 x3] _ (fun j v hj => by rw [Nat.zero_add]; simpa using hj) Tryd.underlying29 rfl size_setup)
  have HAB := Lib.hid (below_call bA bB bA.size)
  have HKA := Lib.hid kA
  have HKS := Lib.hid kS
  have HR0 : Hid (∀ W, Below wb.heap.size wb W → CsR W ⟨A0, x0⟩ l ms) := Lib.hid fun W h => ((r0.below bA).below bB).below h
  have HR1 : Hid (∀ W, Below wb.heap.size wb W → Reads W 1 A1 n1 (ics d1)) := Lib.hid fun W h => e1 ▸ ((r1.below bA).below bB).below h
  have HR2 : Hid (∀ W, Below wb.heap.size wb W → Reads W 1 A2 n2 (ics d2)) := Lib.hid fun W h => e2 ▸ ((r2.below bA).below bB).below h
  have HR3 : Hid (∀ W, Below wb.heap.size wb W → NReads W A3 n3 us) := Lib.hid fun W h => e3 ▸ ⟨((r3.1.below bA).below bB).below h, r3.2⟩
  have H1L : Hid (∀ g, blkOf A1 = some g → 0 < n1 → g < wb.heap.size) := Lib.hid fun g hg hn => by
    have := r1.foot (by omega) g hg
    have := HAB.out.size
    omega
  have H2L : Hid (∀ g, blkOf A2 = some g → 0 < n2 → g < wb.heap.size) := Lib.hid fun g hg hn => by
    have := r2.foot (by omega) g hg
    have := HAB.out.size
    omega
  have HO1 := Lib.hid o1
  have HO2 := Lib.hid o2
  have HE0 := Lib.hid e0
  have HE3 := Lib.hid e3
  have HWF := Lib.hid hwf
  have HU6 := Lib.hid r3.2
  have HL0 := Lib.hid hL0
  have HKN := Lib.hid known_any
  rw [e0] at h0
  rw [e1] at h1
  rw [e2] at h2
  rw [e3] at h3
  rw [e0, e1, e2, e3] at HKEY ⊢
  have HKY := Lib.hid (HKEY.out wb HAB.out)
  have b0 : n0 ≤ 60 := by omega
  have b1 : n1 ≤ 60 := by omega
  have b2 : n2 ≤ 60 := by omega
  have b3 : n3 ≤ 100 := by omega
  have b4 : nN ≤ 128 := by omega
  clear hnN r0 r1 r2 r3 o1 o2 e0 e1 e2 e3 hL hL0 bA bB kA kS hwf HKEY
  go_enter Tryd.func3, Tryd.ntmps3
  go_wp2_with (first | (refine wpList_load_by HLC.out rfl rfl rfl ?_; simp only [Act.put, List.setIfInBounds_toArray, List.set_cons_succ, List.set_cons_zero]) | (refine wpList_load_by HLS.out rfl rfl rfl ?_; simp only [Act.put, List.setIfInBounds_toArray, List.set_cons_succ, List.set_cons_zero]) | fail)
  refine HKY.out.mono ?_
  rintro e w2 ⟨hKE, hb2⟩
  obtain ⟨kx, ke, rfl, HK1, HK2, HK3, HK4⟩ := hKE.nf
  have HK1 := Lib.hid HK1
  have HK2 := Lib.hid HK2
  have HK3 := Lib.hid HK3
  have HK4 := Lib.hid HK4
  clear hKE HKY HLC HLS s0 s1 s2 s3 h0 h1 h2 h3 ha hb
  have kA := HKA.out.call hb2
  have kS := HKS.out.call hb2
  have HB2 := Lib.hid hb2
  have f0 : w2.cell? ⟨w.heap.size, 0, none⟩ = some (.int .i64 c0) := (kA.at_ 0).trans rfl
  have f1 : w2.cell? ⟨w.heap.size, 1, none⟩ = some (.int .i64 c1) := (kA.at_ 1).trans rfl
  have f2 : w2.cell? ⟨w.heap.size, 2, none⟩ = some (.int .i64 c2) := (kA.at_ 2).trans rfl
  have f3 : w2.cell? ⟨w.heap.size, 3, none⟩ = some (.int .i64 c3) := (kA.at_ 3).trans rfl
  have f4 : w2.cell? ⟨w.heap.size, 4, none⟩ = some (.int .i64 c4) := (kA.at_ 4).trans rfl
  have f5 : w2.cell? ⟨w.heap.size, 5, none⟩ = some (.int .i64 c5) := (kA.at_ 5).trans rfl
  obtain ⟨wc, hc⟩ : ∃ z, w2.alloc (.cells #[.int .i64 c0, .int .i64 c1, .int .i64 c2, .int .i64 c3, .int .i64 c4, .int .i64 c5] 3) = z := ⟨_, rfl⟩
  have bC : Below w2.heap.size w2 wc := hc ▸ (Below.refl _ _).alloc (Nat.le_refl _) _
  have kL : Blk wc w2.heap.size 3 #[.int .i64 c0, .int .i64 c1, .int .i64 c2, .int .i64 c3, .int .i64 c4, .int .i64 c5] := hc ▸ Blk.mk_ _ _ _ _ rfl
  have HX0 : Hid (XOwns wc w2.heap.size 3 1 (some ⟨w2.heap.size, 0, none⟩) 6 6 (ics L0)) := Lib.hid (by rw [← HL0.out]; exact XOwns.of_blk kL (Nat.le_refl _) rfl (by decide))
  have HSL : Hid (wa.heap.size < w2.heap.size) := Lib.hid kS.lt
  have HS : Hid (∀ W, Below w2.heap.size w2 W → Blk W wa.heap.size 29 #[.slice A0 n0 x0, .slice A1 n1 x1, .slice A2 n2 x2, .slice A3 n3 x3]) := Lib.hid fun W h => kS.below h kS.lt
  have HB : Hid (∀ W, Below w2.heap.size w2 W → Below wb.heap.size wb W) := Lib.hid fun W h => below_call HB2.out h HB2.out.size
  have HBC := Lib.hid bC
  have HZ2 := Lib.hid HB2.out.size
  clear hb2 kA kS bC kL
  go_wp2_with fail
  clear f0 f1 f2 f3 f4 f5 hc
  go_loopw [7, 8] (fun v i W => ∃ (A : Option Addr) (c : Nat), ((i = .int .i64 0 ∧ v = .slice A 6 c ∧ Hid (XOwns W w2.heap.size 3 1 A 6 c (ics L0))) ∨ (i = .int .i64 1 ∧ v = .slice A (6 + 1 + n1) c ∧ Hid (XOwns W w2.heap.size 3 1 A (6 + 1 + n1) c (ics (L0 ++ ((n1 : Int) :: d1))))) ∨ (i = .int .i64 2 ∧ v = .slice A nN c ∧ Hid (XOwns W w2.heap.size 3 1 A nN c (ics L)))) ∧ Hid (Below w2.heap.size w2 W)) (fun _ i _ => 2 - (intOf i).toNat)
  case atStart => exact ⟨_, _, .inl ⟨rfl, rfl, HX0⟩, HBC⟩
  case round =>
    clear HX0 HBC
    obtain ⟨A, c, ⟨rfl, rfl, HX⟩ | ⟨rfl, rfl, HX⟩ | ⟨rfl, rfl, HX⟩, HBW⟩ := hrel
    · go_wp2_with fail
      refine rk8_0 wr w2.heap.size wa.heap.size _ _ _ A A1 6 c n1 x1 L0 d1 (HS.out _ HBW.out) HSL.out HX.out (HR1.out _ (HB.out _ HBW.out)) HO1.out (fun g hg hn => Nat.lt_of_lt_of_le (H1L.out g hg hn) HZ2.out) HBW.out.size (by omega) _ _ _ _ _ _ _ _ _ _ _ _ _ _ _ _ _ _ _ _ _ _ _ _ _ _ _ _ _ _ _ _ _ _ _ _ _ _ _ _ _ _ _ _ _ _ _ _ _ _ _ _ _ _ _ _ _ _ _ _ _ _ _ _ _ _ _ _ _ _ _ _ _ _ _ _ _ _ _ _ _ _ _ _ _ _ _ _ _ _ _ _ _ _ _ _ _ _ _ _ _ _ _ _ _ _ _ _ _ _ _ _ _ _ _ _ _ _ _ _ _ _ _ _ _ _ _ _ _ _ _ _ _ _ _ _ _ _ _ _ _ _ _ _ _ _ _ _ _ _ _ _ _ _ _ _ _ _ _ _ _ _ _ ?_ ?_
      · exact fun d _ _ _ _ h => by cases d <;> exact h
      intro _ _ _ _ _ _ _ _ _ _ _ _ _ A9 c9 w9 ho9 hb9
      have HX9 := Lib.hid ho9
      have HB9 := Lib.hid (HBW.out.trans hb9)
      clear ho9 hb9
      go_wp2_with fail
      go_roundw
      case rel => exact ⟨A9, c9, .inr (.inl ⟨rfl, rfl, HX9⟩), HB9⟩
      case measure => simp [intOf]
    · go_wp2_with fail
      refine rk8_1 wr w2.heap.size wa.heap.size _ _ _ A A2 (6 + 1 + n1) c n2 x2 (L0 ++ ((n1 : Int) :: d1)) d2 (HS.out _ HBW.out) HSL.out HX.out (HR2.out _ (HB.out _ HBW.out)) HO2.out (fun g hg hn => Nat.lt_of_lt_of_le (H2L.out g hg hn) HZ2.out) HBW.out.size (by omega) _ _ _ _ _ _ _ _ _ _ _ _ _ _ _ _ _ _ _ _ _ _ _ _ _ _ _ _ _ _ _ _ _ _ _ _ _ _ _ _ _ _ _ _ _ _ _ _ _ _ _ _ _ _ _ _ _ _ _ _ _ _ _ _ _ _ _ _ _ _ _ _ _ _ _ _ _ _ _ _ _ _ _ _ _ _ _ _ _ _ _ _ _ _ _ _ _ _ _ _ _ _ _ _ _ _ _ _ _ _ _ _ _ _ _ _ _ _ _ _ _ _ _ _ _ _ _ _ _ _ _ _ _ _ _ _ _ _ _ _ _ _ _ _ _ _ _ _ _ _ _ _ _ _ _ _ _ _ _ _ _ _ _ ?_ ?_
      · exact fun d _ _ _ _ h => by cases d <;> exact h
      intro _ _ _ _ _ _ _ _ _ _ _ _ _ A9 c9 w9 ho9 hb9
      have HX9 : Hid (XOwns w9 w2.heap.size 3 1 A9 nN c9 (ics L)) := Lib.hid (by
        rw [← HLL.out, show 6 + 1 + n1 + 1 + n2 = nN by have := HNN.out; omega] at ho9
        exact ho9)
      have HB9 := Lib.hid (HBW.out.trans hb9)
      clear ho9 hb9
      rw [show 6 + 1 + n1 + 1 + n2 = nN by have := HNN.out; omega]
      go_wp2_with fail
      go_roundw
      case rel => exact ⟨A9, c9, .inr (.inr ⟨rfl, rfl, HX9⟩), HB9⟩
      case measure => simp [intOf]
    · have cS3 : wr.cell? ⟨wa.heap.size, 3, none⟩ = some (.slice A3 n3 x3) := ((HS.out _ HBW.out).at_ 3).trans rfl
      obtain ⟨w7, hw7⟩ : ∃ x, wr.alloc (.cells #[.int .i64 (n3 : Int)] 3) = x := ⟨_, rfl⟩
      have hb7 : Below wr.heap.size wr w7 := by rw [← hw7]; exact (Below.refl _ _).alloc (Nat.le_refl _) _
      have HK7 : Hid (Blk w7 wr.heap.size 3 #[.int .i64 (n3 : Int)]) := Lib.hid (by rw [← hw7]; exact Blk.mk_ _ _ _ _ rfl)
      have HX7 := Lib.hid (HX.out.below hb7)
      have HB7 := Lib.hid (below_call HBW.out hb7 HBW.out.size)
      clear hb7 HX HBW
      go_wp2_with (first
        | (at_builtin; refine append_x (w := w7) rfl (.tmp 76) (.tmp 80) 25 rfl w2.heap.size 3 _ 1 8 tinfo_int Tryd.underlying25 rfl (by decide) A nN c (ics L) rfl HX7.out (some ⟨wr.heap.size, 0, none⟩) 1 1 (ics [(n3 : Int)]) rfl (reads_block HK7.out 1 1 rfl) (ics_one _) (by decide) (by omega) (by omega) HB7.out.size _ rfl ?_; intro g9 c9 w9 ho9 hg9 hi9 hlt9)
        | fail)
      obtain ⟨LL, hLL⟩ : ∃ x, L ++ [(n3 : Int)] = x := ⟨_, rfl⟩
      rw [← ics_app, hLL] at ho9
      have HX9 := Lib.hid ho9
      have HLE := Lib.hid hLL
      have HLLN : Hid (LL.length = nN + 1) := Lib.hid (by rw [← hLL, List.length_append, HLN.out]; rfl)
      have HB9 : Hid (Below w2.heap.size w2 w9) := Lib.hid (HB7.out.grown hg9 HB7.out.size (fun g hg => (HX7.out.lt g hg).1))
      have HWL : Hid (∀ x ∈ LL, wf64 x) := Lib.hid (by
        rw [← hLL]
        intro x hx
        rw [List.mem_append, List.mem_singleton] at hx
        rcases hx with hx | rfl
        · exact HWF.out x hx
        · unfold wf64; omega)
      clear ho9 hLL hg9 hi9 hlt9 HB7 HK7 HX7 hw7 cS3
      go_loopw [9, 10] (fun b i W => ∃ (k : Nat) (A : Option Addr) (n c : Nat), k ≤ nN + 1 ∧ i = .int .i64 k ∧ b = .slice A n c ∧ Hid (n ≤ 10 * k) ∧ Hid (BOwns W w9.heap.size 5 A n c ((LL.take k).flatMap numI)) ∧ Hid (Below w9.heap.size w9 W) ∧ Hid (∀ j y, j < k → LL[j]? = some y → ngS y = false)) (fun _ i _ => nN + 1 - (intOf i).toNat)
      case atStart => exact ⟨0, none, 0, 0, Nat.zero_le _, rfl, rfl, Lib.hid (by omega), Lib.hid (XOwns.b (XOwns.nil_ _ _ _ _) (fun x h => by cases h)), Lib.hid (Below.refl _ _), Lib.hid (fun j y h => absurd h (by omega))⟩
      case round =>
        obtain ⟨k, A5, n5, c5', hk, rfl, rfl, HN5, HO5, HB5, HG⟩ := hrel
        by_cases hlt : k < nN + 1
        · have hlt' : (k : Int) < nN + 1 := by omega
          obtain ⟨x, hx⟩ := get_of (l := LL) (k := k) (by rw [HLLN.out]; exact hlt)
          have hc7 : wr.cell? ⟨g9, k, none⟩ = some (.int .i64 x) := by
            obtain ⟨g, e1, _, _, h2, _⟩ := (HX9.out.below HB5.out).cell (j := k) (u := .int .i64 x) (by rw [ics, List.getElem?_map, hx]; rfl)
            injection e1 with e1
            injection e1 with e1
            subst e1
            exact h2
          by_cases hneg : x < 0
          · have HA : L.any ngS = true := by
              have hm := List.mem_of_getElem? hx
              rw [← HLE.out, List.mem_append, List.mem_singleton] at hm
              rcases hm with hm | rfl
              · exact List.any_eq_true.2 ⟨x, hm, by unfold ngS; simpa using hneg⟩
              · omega
            obtain ⟨rfl, rfl⟩ := HK1.out HA
            have HBE := Lib.hid (below_call HAB.out (HB.out _ (below_call HB9.out HB5.out HB9.out.size)) HAB.out.size)
            clear hx HA HO5 HB5 HG
            go_wp2_with fail
            refine (HKN.out _).mono ?_
            rintro e w10 ⟨rfl, hb10⟩
            go_wp2_with fail
            (first | go_ret | go_ret2)
            exact ⟨rfl, below_call HBE.out hb10 HBE.out.size⟩
          · have hwx := HWL.out x (List.mem_of_getElem? hx)
            unfold wf64 at hwx
            obtain ⟨q, rfl⟩ : ∃ q : Nat, x = q := ⟨x.toNat, by omega⟩
            have hqm : (q : Int) % 18446744073709551616 = q := by omega
            have HNU := Lib.hid (number_any q (by omega) wr)
            have HSN : Hid ((LL.take (k + 1)).flatMap numI = (LL.take k).flatMap numI ++ numS q) := Lib.hid (by rw [flat_snoc (f := numI) hx]; simp [numI])
            have HL10 : Hid ((numS q).length ≤ 10) := Lib.hid (numS_len10 (show q < 2 ^ 64 by omega))
            have HGG : Hid (∀ j y, j < k + 1 → LL[j]? = some y → ngS y = false) := Lib.hid (fun j z hq hg => by
              rcases Nat.lt_or_ge j k with h | h
              · exact HG.out j z h hg
              · obtain rfl : j = k := by omega
                rw [hx] at hg
                rw [← Option.some.inj hg]
                unfold ngS
                exact decide_eq_false hneg)
            clear hx hwx HG
            go_wp2_with fail
            refine HNU.out.mono ?_
            rintro e w8 ⟨A8, k8, c8, rfl, ho8, hb8⟩
            have HO8 := Lib.hid ho8
            have HO5' := Lib.hid (HO5.out.below hb8)
            have HB8 := Lib.hid (below_call HB5.out hb8 HB5.out.size)
            have HK8 : Hid (k8 ≤ 10) := Lib.hid (by have := ho8.length; have := HL10.out; omega)
            clear ho8 hb8 HNU HO5 HB5
            go_wp2_with (first
              | (at_builtin; (refine append_bytes _ rfl (.tmp 102) (.tmp 108) 35 rfl w9.heap.size 5 Tryd.info5 Tryd.underlying35 A5 n5 c5' _ rfl HO5'.out A8 k8 c8 _ rfl HO8.out.2.2 HO8.out.reads (by have := HN5.out; have := HK8.out; omega) HB8.out.size ?_); intro A4 c4' w4 ho4 hb4)
              | fail)
            have HO4 : Hid (BOwns w4 w9.heap.size 5 A4 (n5 + k8) c4' ((LL.take (k + 1)).flatMap numI)) := Lib.hid (by rw [HSN.out]; exact ho4)
            have HB4 := Lib.hid (HB8.out.trans hb4)
            clear ho4 hb4 hc7
            go_wp2_with fail
            go_roundw
            case rel => exact ⟨k + 1, A4, n5 + k8, c4', hlt, by go_num, rfl, Lib.hid (by have := HN5.out; have := HK8.out; omega), HO4, HB4, HGG⟩
            case measure => simp [intOf]; omega
        · have HKE : Hid (k = nN + 1) := Lib.hid (by omega)
          have hlt' : ¬ (k : Int) < nN + 1 := by omega
          have HAF : Hid (L.any ngS = false) := Lib.hid (by
            rw [List.any_eq_false]
            intro x hx
            obtain ⟨q, hq, rfl⟩ := List.getElem_of_mem (show x ∈ LL by rw [← HLE.out]; exact List.mem_append_left _ hx)
            rw [HG.out q _ (by rw [HKE.out, ← HLLN.out]; exact hq) (List.getElem?_eq_getElem hq)]
            decide)
          have HO5' : Hid (BOwns wr w9.heap.size 5 A5 n5 c5' (LL.flatMap numI ++ (us.take 0).flatMap numS)) := Lib.hid (by
            have h := HO5.out
            rw [List.take_of_length_le (by rw [HLLN.out, HKE.out]; exact Nat.le_refl _)] at h
            simpa using h)
          clear HO5 HG hk
          go_wp2_with fail
          go_loopw [9, 11] (fun b i W => ∃ (k : Nat) (A : Option Addr) (n c : Nat), k ≤ n3 ∧ i = .int .i64 k ∧ b = .slice A n c ∧ Hid (n ≤ 1290 + 10 * k) ∧ Hid (BOwns W w9.heap.size 5 A n c (LL.flatMap numI ++ (us.take k).flatMap numS)) ∧ Hid (Below w9.heap.size w9 W)) (fun _ i _ => n3 - (intOf i).toNat)
          case atStart => exact ⟨0, A5, n5, c5', Nat.zero_le _, rfl, rfl, Lib.hid (by have := HN5.out; have := HKE.out; omega), HO5', HB5⟩
          case round =>
            clear HN5 HO5' HB5
            obtain ⟨k, A5, n5, c5', hk, rfl, rfl, HN5, HO5, HB5⟩ := hrel
            have HBW := Lib.hid (below_call HB9.out HB5.out HB9.out.size)
            by_cases hlt : k < n3
            · have hlt' : (k : Int) < n3 := by omega
              have cS3 : wr.cell? ⟨wa.heap.size, 3, none⟩ = some (.slice A3 n3 x3) := ((HS.out _ HBW.out).at_ 3).trans rfl
              obtain ⟨ad, q, rfl, hx, hq, hcq⟩ := (HR3.out _ (HB.out _ HBW.out)).at_ hlt
              have HNU := Lib.hid (number_any q (by omega) wr)
              have HSN : Hid ((us.take (k + 1)).flatMap numS = (us.take k).flatMap numS ++ numS q) := Lib.hid (flat_snoc (f := numS) hx)
              have HL10 : Hid ((numS q).length ≤ 10) := Lib.hid (numS_len10 hq)
              clear hx hq
              go_wp2_with fail
              refine HNU.out.mono ?_
              rintro e w8 ⟨A8, k8, c8, rfl, ho8, hb8⟩
              have HO8 := Lib.hid ho8
              have HO5' := Lib.hid (HO5.out.below hb8)
              have HB8 := Lib.hid (below_call HB5.out hb8 HB5.out.size)
              have HK8 : Hid (k8 ≤ 10) := Lib.hid (by have := ho8.length; have := HL10.out; omega)
              clear ho8 hb8 HNU HO5 HB5 HBW
              go_wp2_with (first
                | (at_builtin; (refine append_bytes _ rfl (.tmp 117) (.tmp 123) 35 rfl w9.heap.size 5 Tryd.info5 Tryd.underlying35 A5 n5 c5' _ rfl HO5'.out A8 k8 c8 _ rfl HO8.out.2.2 HO8.out.reads (by have := HN5.out; have := HK8.out; omega) HB8.out.size ?_); intro A4 c4' w4 ho4 hb4)
                | fail)
              have HO4 : Hid (BOwns w4 w9.heap.size 5 A4 (n5 + k8) c4' (LL.flatMap numI ++ (us.take (k + 1)).flatMap numS)) := Lib.hid (by rw [HSN.out, ← List.append_assoc]; exact ho4)
              have HB4 := Lib.hid (HB8.out.trans hb4)
              clear ho4 hb4 hcq cS3
              go_wp2_with fail
              go_roundw
              case rel => exact ⟨k + 1, A4, n5 + k8, c4', hlt, by go_num, rfl, Lib.hid (by have := HN5.out; have := HK8.out; omega), HO4, HB4⟩
              case measure => simp [intOf]; omega
            · obtain rfl : k = n3 := by omega
              have HO6 : Hid (BOwns wr w9.heap.size 5 A5 n5 c5' (LL.flatMap numI ++ us.flatMap numS)) := Lib.hid (by
                have h := HO5.out
                rw [List.take_of_length_le (by rw [HE3.out]; exact Nat.le_refl _)] at h
                exact h)
              have hpn := pnew_any ⟨A0, x0⟩ l ms wr (HR0.out _ (HB.out _ HBW.out)) (by rw [HE0.out]; omega)
              rw [Sl.v, HE0.out] at hpn
              have HP := Lib.hid hpn
              have cS0 : wr.cell? ⟨wa.heap.size, 0, none⟩ = some (.slice A0 n0 x0) := ((HS.out _ HBW.out).at_ 0).trans rfl
              have cS3 : wr.cell? ⟨wa.heap.size, 3, none⟩ = some (.slice A3 k x3) := ((HS.out _ HBW.out).at_ 3).trans rfl
              have HBE := Lib.hid (below_call HAB.out (HB.out _ HBW.out) HAB.out.size)
              clear hpn HO5 hk
              go_wp2_with fail
              refine HP.out.mono ?_
              rintro e w10 hE
              clear cS0 cS3 HP
              rcases hE with ⟨hok, rfl, hb10⟩ | ⟨hok, hnd, rfl, hb10⟩ | ⟨hok, hnd, p, rfl, hPl, hb10⟩
              · obtain ⟨rfl, rfl⟩ := HK2.out HAF.out hok
                have HB10 := Lib.hid (below_call HBE.out hb10 HBE.out.size)
                clear hb10 hok
                go_wp2_with fail
                refine (HKN.out _).mono ?_
                rintro e w11 ⟨rfl, hb11⟩
                go_wp2_with fail
                (first | go_ret | go_ret2)
                exact ⟨rfl, below_call HB10.out hb11 HB10.out.size⟩
              · obtain ⟨rfl, rfl⟩ := HK3.out HAF.out hok hnd
                have HB10 := Lib.hid (below_call HBE.out hb10 HBE.out.size)
                clear hb10 hok hnd
                go_wp2_with fail
                refine (HKN.out _).mono ?_
                rintro e w11 ⟨rfl, hb11⟩
                go_wp2_with fail
                (first | go_ret | go_ret2)
                exact ⟨rfl, below_call HB10.out hb11 HB10.out.size⟩
              · obtain ⟨hkx, rfl⟩ := HK4.out HAF.out hok hnd
                have HKX := Lib.hid hkx
                have HB10 := Lib.hid (below_call HBE.out hb10 HBE.out.size)
                have HO7 := Lib.hid (HO6.out.below hb10)
                have HZ10 : Hid (w9.heap.size ≤ w10.heap.size) := Lib.hid (Nat.le_trans HB5.out.size hb10.size)
                have HEN : Hid ((encP l).length ≤ 20000) := Lib.hid (encP_le hok (by rw [HE0.out]; exact b0))
                have HPE := Lib.hid (penc_any wr.heap.size p l w10 hPl hok (by rw [HE0.out]; omega))
                clear hb10 hok hnd hkx HO6 HB5 hPl HBW HBE
                go_wp2_with fail
                refine HPE.out.mono ?_
                rintro e w11 ⟨A8, n8, k8, rfl, ho8, hb8⟩
                have HO8 := Lib.hid ho8
                have HO9 := Lib.hid (HO7.out.below hb8)
                have HB11 := Lib.hid (below_call HB10.out hb8 HB10.out.size)
                have HZ11 : Hid (w9.heap.size ≤ w11.heap.size) := Lib.hid (Nat.le_trans HZ10.out hb8.size)
                have HN8 : Hid (n8 ≤ 20000) := Lib.hid (by have := ho8.length; have := HEN.out; omega)
                clear ho8 hb8 HPE HO7
                go_wp2_with (first
                  | ((refine append_bytes_w rfl (.tmp 152) (.tmp 153) 35 rfl w9.heap.size 5 Tryd.info5 Tryd.underlying35 A5 n5 c5' _ rfl HO9.out A8 n8 k8 _ rfl HO8.out.2.2 HO8.out.reads (by have := HN5.out; have := HN8.out; omega) HZ11.out ?_); intro A4 c4' w4 ho4 hb4)
                  | fail)
                have hsu := psum_any A4 (n5 + n8) c4' _ w4 ho4.reads (by have := HN5.out; have := HN8.out; omega)
                rw [show psS (LL.flatMap numI ++ us.flatMap numS ++ encP l) = kx by rw [HKX.out, keyB, HE3.out, HLE.out]] at hsu
                have HSU := Lib.hid hsu
                have HBE := Lib.hid (HB11.out.trans (hb4.mono (Nat.le_trans HAB.out.size (HB.out _ HB9.out).size)))
                clear ho4 hb4 hsu
                go_wp2_with fail
                refine HSU.out.mono ?_
                rintro e w12 ⟨rfl, rfl⟩
                go_wp2_with fail
                refine (HKN.out _).mono ?_
                rintro e w13 ⟨rfl, hb13⟩
                go_wp2_with fail
                (first | go_ret | go_ret2)
                exact ⟨rfl, below_call HBE.out hb13 HBE.out.size⟩
theorem keys_any (c0 c1 c2 c3 c4 c5 : Int) (A0 A1 A2 A3 : Option Addr) (x0 x1 x2 x3 : Nat) (l : List Cd) (ms : List CdM) (d1 d2 : List Int) (us : List Nat) (w : World)
    (r0 : CsR w ⟨A0, x0⟩ l ms) (r1 : Reads w 1 A1 d1.length (ics d1)) (o1 : A1 = none → x1 = 0) (r2 : Reads w 1 A2 d2.length (ics d2)) (o2 : A2 = none → x2 = 0) (r3 : NReads w A3 us.length us) (hwf : ∀ x ∈ [c0, c1, c2, c3, c4, c5], wf64 x) (hw1 : ∀ x ∈ d1, wf64 x) (hw2 : ∀ x ∈ d2, wf64 x) :
    Calls Tryd.prog 3 #[.agg #[.int .i64 c0, .int .i64 c1, .int .i64 c2, .int .i64 c3, .int .i64 c4, .int .i64 c5], .agg #[.slice A0 l.length x0, .slice A1 d1.length x1, .slice A2 d2.length x2, .slice A3 us.length x3]] w fun e w' => e = .returned (.bool true) ∧ Below w.heap.size w w' := by
  by_cases h0 : (60 : Int) < l.length
  · exact keys_1 c0 c1 c2 c3 c4 c5 A0 A1 A2 A3 _ _ _ _ x0 x1 x2 x3 w h0
  by_cases h1 : (60 : Int) < d1.length
  · exact keys_2 c0 c1 c2 c3 c4 c5 A0 A1 A2 A3 _ _ _ _ x0 x1 x2 x3 w h0 h1
  by_cases h2 : (60 : Int) < d2.length
  · exact keys_3 c0 c1 c2 c3 c4 c5 A0 A1 A2 A3 _ _ _ _ x0 x1 x2 x3 w h0 h1 h2
  by_cases h3 : (100 : Int) < us.length
  · exact keys_4 c0 c1 c2 c3 c4 c5 A0 A1 A2 A3 _ _ _ _ x0 x1 x2 x3 w h0 h1 h2 h3
  refine keys_5 c0 c1 c2 c3 c4 c5 A0 A1 A2 A3 x0 x1 x2 x3 l ms d1 d2 us w r0 r1 o1 r2 o2 r3 h0 h1 h2 h3 fun x hx => ?_
  unfold keyL at hx
  rcases List.mem_append.1 hx with hx | hx
  rcases List.mem_append.1 hx with hx | hx
  rotate_left
  rcases List.mem_cons.1 hx with hx | hx
  rotate_left 2
  rcases List.mem_cons.1 hx with hx | hx
  rotate_left 2
  · exact hwf x hx
  · rw [hx]; unfold wf64; omega
  · exact hw1 x hx
  · rw [hx]; unfold wf64; omega
  · exact hw2 x hx
end Go.Proofs.YtpbbemmjodegkaaDoor
