/-
  Texts: Sofr.
-/
import Derived.Test.YtagpphelgghbpaaTk15
import Derived.Test.YtagpphelgghbpaaTk6
import Derived.Test.YtagpphelgghbpaaTk7
import Derived.Deep.DeepCutAuto
/-
  spectate.Of: one seat of it.
-/
set_option linter.unusedSimpArgs false
set_option linter.unusedVariables false
namespace Go.Proofs.Ytagpphelgghbpaa
open Go.RowKit

def SofEnd (b : Bd) (w : World) (e : Ending) (w' : World) : Prop := ∃ m, e = .returned (.tuple #[.agg ((puOf b).cells m).toArray, .int .i64 0]) ∧ PuO w' w.heap.size (puOf b) m ∧ Below w.heap.size w w'
def zvs : List Value := [.int .i64 0, .int .i64 0, .int .i64 0, .int .i64 0, .int .i64 0, .int .i64 0, .int .i64 0, .slice none 0 0, .slice none 0 0, .bool false, .bool false, .bool false, .int .i64 0, .int .i64 0]
/-- The seats of which the first k are filled. -/
structure OfS (w : World) (b : Bd) (cs : Array Value) (g : Nat) (S Q A K : Sl) (ST QT : List Sl) (tl : List Value) (k : Nat) (c0 c1 : List Value) (W : World) : Prop where
  P : Blk W g 59 (c0 ++ c1 ++ tl).toArray
  l0 : c0.length = 14
  l1 : c1.length = 14
  v0 : 1 ≤ k → ∃ m, c0 = (puOf b).v0.cells m ∧ VsO W w.heap.size (puOf b).v0 m
  v1 : 2 ≤ k → ∃ m, c1 = (puOf b).v1.cells m ∧ VsO W w.heap.size (puOf b).v1 m
  S : IsO W w.heap.size S b.stk ST
  Q : IsO W w.heap.size Q b.que QT
  A : XOwns W w.heap.size 3 1 A.A b.att.length A.c (ics b.att)
  K : XOwns W w.heap.size 93 2 K.A b.blk.length K.c (bcs b.blk)
  box : Blk W w.heap.size 33 cs
  res : Blk W (w.heap.size + 1) 59 #[.int .i64 0, .int .i64 0, .int .i64 0, .int .i64 0, .int .i64 0, .int .i64 0, .int .i64 0, .slice none 0 0, .slice none 0 0, .bool false, .bool false, .bool false, .int .i64 0, .int .i64 0, .int .i64 0, .int .i64 0, .int .i64 0, .int .i64 0, .int .i64 0, .int .i64 0, .int .i64 0, .slice none 0 0, .slice none 0 0, .bool false, .bool false, .bool false, .int .i64 0, .int .i64 0, .slice none 0 0, .slice none 0 0, .slice none 0 0, .slice none 0 0, .int .i64 0, .int .i64 0, .int .i64 0, .int .i64 0, .int .i64 0]
  gB : w.heap.size + 1 < g
  bel : Below w.heap.size w W
theorem OfS.below {w : World} {b : Bd} {cs : Array Value} {g : Nat} {S Q A K : Sl} {ST QT : List Sl} {tl : List Value} {k : Nat} {c0 c1 : List Value} {W W' : World} (h : OfS w b cs g S Q A K ST QT tl k c0 c1 W) (hb : Below W.heap.size W W') : OfS w b cs g S Q A K ST QT tl k c0 c1 W' :=
  ⟨h.P.call hb, h.l0, h.l1, fun h1 => (h.v0 h1).imp fun _ h => ⟨h.1, h.2.below hb⟩, fun h1 => (h.v1 h1).imp fun _ h => ⟨h.1, h.2.below hb⟩, h.S.below hb, h.Q.below hb, h.A.below hb, h.K.below hb, h.box.call hb, h.res.call hb, h.gB, below_call h.bel hb h.bel.size⟩
set_option maxRecDepth 100000 in
theorem size_public : (Try.prog.info? 59).map (·.size) = some 37 := by decide +kernel
set_option maxRecDepth 100000 in
theorem size_vseat : (Try.prog.info? 56).map (·.size) = some 14 := by decide +kernel
/-- The seat that is filled next. -/
def vsN (b : Bd) (k : Nat) : Vs := if k = 0 then (puOf b).v0 else (puOf b).v1
theorem vsN_of (b : Bd) (k : Nat) : vsN b k = vsOf b.objs (seN b k) := by unfold vsN seN; split <;> rfl
/-- One more seat is stored. -/
theorem OfS.step {w : World} {b : Bd} {cs : Array Value} {g : Nat} {S Q A K : Sl} {ST QT : List Sl} {tl : List Value} {k : Nat} {c0 c1 : List Value} {W : World} (h : OfS w b cs g S Q A K ST QT tl k c0 c1 W) {gS tS : Nat} {cS : Array Value} (hSS : Blk W gS tS cS) (hne : gS ≠ g) (hk : k < 2) (ht : tl.length = 9) (m : VsM) (hm : VsO W w.heap.size (vsN b k) m) :
    ∃ W', (Instr.storeAt 56 (.pointer (some ⟨g, k * 14, none⟩)) (.agg ((vsN b k).cells m).toArray)).run Try.prog W = .ok () W' ∧ (∃ c0' c1', OfS w b cs g S Q A K ST QT tl (k + 1) c0' c1' W') ∧ Below w.heap.size w W' ∧ Blk W' gS tS cS := by
  have l0 := h.l0
  have l1 := h.l1
  have lv : ((vsN b k).cells m).length = 14 := rfl
  obtain ⟨W', hrun, hP, hg⟩ := h.P.storeMid (ty := 56) (k * 14) ((vsN b k).cells m) (by simp only [List.length_append]; omega) (by rw [size_vseat]; rfl) (one_vs _ _)
  have hgB := h.gB
  have hbel : Below w.heap.size w W' := h.bel.grown hg h.bel.size (fun q hq => by injection hq with hq; omega)
  refine ⟨W', hrun, ?_, hbel, hSS.grown hg (fun e => hne (by injection e))⟩
  have hoff : offT 59 := by unfold offT; decide
  have hbox := h.box.grown hg (fun e => by injection e with e; omega)
  have hres := h.res.grown hg (fun e => by injection e with e; omega)
  have hS := h.S.blk h.P hg (by decide) (by decide)
  have hQ := h.Q.blk h.P hg (by decide) (by decide)
  have hA := h.A.blk_ h.P hg (by decide)
  have hK := h.K.blk_ h.P hg (by decide)
  have hm' := hm.blk h.P hg hoff
  rcases (show k = 0 ∨ k = 1 by omega) with rfl | rfl
  · refine ⟨(vsN b 0).cells m, c1, ?_, rfl, l1, fun _ => ⟨m, rfl, hm'⟩, fun h => absurd h (by omega), hS, hQ, hA, hK, hbox, hres, hgB, hbel⟩
    refine (congrArg (fun l : List Value => Blk W' g 59 l.toArray) ?_).mp hP
    rw [lv, Nat.zero_mul, List.take_zero, List.nil_append, List.append_assoc, List.append_assoc, List.drop_append_of_le_length (by omega), Nat.zero_add, List.drop_of_length_le (by omega), List.nil_append]
  · refine ⟨c0, (vsN b 1).cells m, ?_, l0, rfl, fun _ => (h.v0 (Nat.le_refl _)).imp fun _ h1 => ⟨h1.1, h1.2.blk h.P hg hoff⟩, fun _ => ⟨m, rfl, hm'⟩, hS, hQ, hA, hK, hbox, hres, hgB, hbel⟩
    refine (congrArg (fun l : List Value => Blk W' g 59 l.toArray) ?_).mp hP
    rw [lv, Nat.one_mul, List.append_assoc c0 c1 tl, List.take_append_of_le_length (by omega), List.take_of_length_le (by omega), List.drop_append, List.drop_of_length_le (by omega), l0, List.drop_append, List.drop_of_length_le (by omega), l1, List.nil_append, List.nil_append]
    rfl
set_option maxRecDepth 100000 in
set_option maxHeartbeats 3200000 in
theorem of_seat (w W : World) (b : Bd) (m : BdM) (cs : Array Value) (g gS k : Nat) (sS sQ sA sK : Sl) (ST QT : List Sl) (tl : List Value) (c0 c1 : List Value) (hk : k < 2) (ht : tl.length = 9) (hcs : (b.cells m).toArray = cs) (hR : BdR w b m) (hp : plcP b) (hsm : BdSm b)
    (hof : OfS w b cs g sS sQ sA sK ST QT tl k c0 c1 W) (hne : gS ≠ g) (hS : Blk W gS 27 ((seN b k).cells (smN m k)).toArray) (Q : Exit → Act → World → Prop) (t0 t2 t3 t7 t8 t9 t10 t11 t12 t13 t14 t15 t16 t17 t18 t19 t20 t21 t22 t23 t24 t25 t26 t27 t28 t29 t30 t31 t32 t33 t34 t35 t36 t37 t38 t39 t40 t41 t42 t43 t44 t45 t46 t47 t48 t49 t50 t51 t52 t53 t54 t55 t56 t57 t58 t59 t60 t61 t62 t63 t64 t65 t66 t67 t68 t69 t70 t71 t72 t73 : Value)
    (hQ : ∀ d v c a w, Q (.panic c) (Act.put a d v) w → Q (.panic c) a w)
    (hK : ∀ (u40 u41 u42 u43 u44 u45 u46 u47 u48 u49 u50 u51 u52 u53 u54 u55 u56 u57 u58 u59 u60 u61 u62 u63 u64 u65 u66 u67 u68 u69 u70 u71 : Value) (c0' c1' : List Value) (W9 : World), OfS w b cs g sS sQ sA sK ST QT tl (k + 1) c0' c1' W9 → Q .normal ⟨#[t0, .pointer (some ⟨w.heap.size, 0, none⟩), t2, t3, .pointer (some ⟨g, 0, none⟩), .int .i64 k, .pointer (some ⟨gS, 0, none⟩), t7, t8, t9, t10, t11, t12, t13, t14, t15, t16, t17, t18, t19, t20, t21, t22, t23, t24, t25, t26, t27, t28, t29, t30, t31, t32, t33, t34, t35, t36, t37, t38, t39, u40, u41, u42, u43, u44, u45, u46, u47, u48, u49, u50, u51, u52, u53, u54, u55, u56, u57, u58, u59, u60, u61, u62, u63, u64, u65, u66, u67, u68, u69, u70, u71, t72, t73], []⟩ W9) :
    Code.wp Try.prog (regOf Try.f38 7) Q ⟨#[t0, .pointer (some ⟨w.heap.size, 0, none⟩), t2, t3, .pointer (some ⟨g, 0, none⟩), .int .i64 k, .pointer (some ⟨gS, 0, none⟩), t7, t8, t9, t10, t11, t12, t13, t14, t15, t16, t17, t18, t19, t20, t21, t22, t23, t24, t25, t26, t27, t28, t29, t30, t31, t32, t33, t34, t35, t36, t37, t38, t39, t40, t41, t42, t43, t44, t45, t46, t47, t48, t49, t50, t51, t52, t53, t54, t55, t56, t57, t58, t59, t60, t61, t62, t63, t64, t65, t66, t67, t68, t69, t70, t71, t72, t73], []⟩ W := by
  have HKK := Lib.hid hK
  clear hK
  conv => arg 2; whnf
  have hse : SeR w (seN b k) (smN m k) := by unfold seN smN; split <;> first | exact hR.s0 | exact hR.s1
  have hsx : SeSm (seN b k) b.objs := by unfold seN; split <;> first | exact hsm.s0 | exact hsm.s1
  have hvs := vsN_of b k
  obtain ⟨⟨LA, Lc⟩, hmL⟩ : ∃ x, (smN m k).L = x := ⟨_, rfl⟩
  obtain ⟨nl, hnl⟩ : ∃ x, (seN b k).lib.length = x := ⟨_, rfl⟩
  obtain ⟨⟨HA, Hc⟩, hmH⟩ : ∃ x, (smN m k).H = x := ⟨_, rfl⟩
  obtain ⟨nh, hnh⟩ : ∃ x, (seN b k).hand.length = x := ⟨_, rfl⟩
  obtain ⟨⟨FA, Fc⟩, hmF⟩ : ∃ x, (smN m k).F = x := ⟨_, rfl⟩
  obtain ⟨nf, hnf⟩ : ∃ x, (seN b k).fld.length = x := ⟨_, rfl⟩
  obtain ⟨⟨GA, Gc⟩, hmG⟩ : ∃ x, (smN m k).G = x := ⟨_, rfl⟩
  obtain ⟨ng, hng⟩ : ∃ x, (seN b k).grv.length = x := ⟨_, rfl⟩
  obtain ⟨se, hseN⟩ : ∃ x, seN b k = x := ⟨_, rfl⟩
  have hSc : Blk W gS 27 #[.int .i64 se.life, .int .i64 se.p0, .int .i64 se.p1, .int .i64 se.p2, .int .i64 se.p3, .slice LA nl Lc, .slice HA nh Hc, .slice FA nf Fc, .slice GA ng Gc, .bool se.emp, .bool se.ply, .bool se.kpt, .int .i64 se.mul, .int .i64 se.act] := by
    have h := hS
    simp only [Se.cells, Sl.v, hmL, hmH, hmF, hmG, hnl, hnh, hnf, hng] at h
    simp only [hseN] at h
    exact h
  rw [hseN] at hse hsx hvs hnl hnh hnf hng
  have HSX := Lib.hid hsx
  have HNE := Lib.hid hne
  have HQ := Lib.hid hQ
  have HSE := Lib.hid hse
  have HR := Lib.hid hR
  have HP := Lib.hid hp
  have HOF := Lib.hid hof
  have HVS := Lib.hid hvs
  have HT := Lib.hid ht
  have HNN := Lib.hid (And.intro hnl (And.intro hnh (And.intro hnf hng)))
  have HMM := Lib.hid (And.intro hmF hmG)
  have hkk : (k : Int) < 2 := by omega
  have hk0 : 0 ≤ (k : Int) := by omega
  have HK2 := Lib.hid hk
  have HLB0 : ∀ W', Blk W' w.heap.size 33 cs → (Instr.loadAt 33 (.pointer (some ⟨w.heap.size, 0, none⟩))).run Try.prog W' = .ok (.agg cs) W' := fun W' hW => by
    rw [← hcs] at hW ⊢
    exact hW.mid (b.cells m) _ (fun j v hj => by rw [Nat.zero_add]; simpa using hj) Try.underlying33 rfl size_board
  have HLB : Hid (∀ W', (∃ s : In (fun W' => Blk W' gS 27 #[.int .i64 se.life, .int .i64 se.p0, .int .i64 se.p1, .int .i64 se.p2, .int .i64 se.p3, .slice LA nl Lc, .slice HA nh Hc, .slice FA nf Fc, .slice GA ng Gc, .bool se.emp, .bool se.ply, .bool se.kpt, .int .i64 se.mul, .int .i64 se.act] ∧ Blk W' w.heap.size 33 cs), W' = s.W) → (Instr.loadAt 33 (.pointer (some ⟨w.heap.size, 0, none⟩))).run Try.prog W' = .ok (.agg cs) W') := Lib.hid (fun W' hW => by
    obtain ⟨s, rfl⟩ := hW
    exact HLB0 _ s.h.2)
  clear HLB0
  have HC : Hid (∀ W' (s : Sl) (ids : List Int) (n : Nat), Below W.heap.size W W' → LsR w s ids → (∀ i ∈ ids, ∃ o ∈ b.objs, o.id = i) → ids.length ≤ 500 → ids.length = n → Calls Try.prog 64 #[.agg cs, .slice s.A n s.c] W' (SobEnd b.objs ids W')) := Lib.hid (fun W' s ids n hb hl hall hn e => by
    have hb2 : Below w.heap.size w W' := below_call hof.bel hb hof.bel.size
    rw [← hcs, ← e]
    exact sobjs_any b m s ids W' (hR.below hb2) hp (hl.below hb2) hall hn)
  have x0 : ∀ s : In (fun W' => Blk W' gS 27 #[.int .i64 se.life, .int .i64 se.p0, .int .i64 se.p1, .int .i64 se.p2, .int .i64 se.p3, .slice LA nl Lc, .slice HA nh Hc, .slice FA nf Fc, .slice GA ng Gc, .bool se.emp, .bool se.ply, .bool se.kpt, .int .i64 se.mul, .int .i64 se.act] ∧ Blk W' w.heap.size 33 cs), s.W.cell? ⟨gS, 0, none⟩ = some (.int .i64 se.life) := fun s => (s.h.1.at_ 0).trans rfl
  have x1 : ∀ s : In (fun W' => Blk W' gS 27 #[.int .i64 se.life, .int .i64 se.p0, .int .i64 se.p1, .int .i64 se.p2, .int .i64 se.p3, .slice LA nl Lc, .slice HA nh Hc, .slice FA nf Fc, .slice GA ng Gc, .bool se.emp, .bool se.ply, .bool se.kpt, .int .i64 se.mul, .int .i64 se.act] ∧ Blk W' w.heap.size 33 cs), s.W.cell? ⟨gS, 1, none⟩ = some (.int .i64 se.p0) := fun s => (s.h.1.at_ 1).trans rfl
  have x2 : ∀ s : In (fun W' => Blk W' gS 27 #[.int .i64 se.life, .int .i64 se.p0, .int .i64 se.p1, .int .i64 se.p2, .int .i64 se.p3, .slice LA nl Lc, .slice HA nh Hc, .slice FA nf Fc, .slice GA ng Gc, .bool se.emp, .bool se.ply, .bool se.kpt, .int .i64 se.mul, .int .i64 se.act] ∧ Blk W' w.heap.size 33 cs), s.W.cell? ⟨gS, 2, none⟩ = some (.int .i64 se.p1) := fun s => (s.h.1.at_ 2).trans rfl
  have x3 : ∀ s : In (fun W' => Blk W' gS 27 #[.int .i64 se.life, .int .i64 se.p0, .int .i64 se.p1, .int .i64 se.p2, .int .i64 se.p3, .slice LA nl Lc, .slice HA nh Hc, .slice FA nf Fc, .slice GA ng Gc, .bool se.emp, .bool se.ply, .bool se.kpt, .int .i64 se.mul, .int .i64 se.act] ∧ Blk W' w.heap.size 33 cs), s.W.cell? ⟨gS, 3, none⟩ = some (.int .i64 se.p2) := fun s => (s.h.1.at_ 3).trans rfl
  have x4 : ∀ s : In (fun W' => Blk W' gS 27 #[.int .i64 se.life, .int .i64 se.p0, .int .i64 se.p1, .int .i64 se.p2, .int .i64 se.p3, .slice LA nl Lc, .slice HA nh Hc, .slice FA nf Fc, .slice GA ng Gc, .bool se.emp, .bool se.ply, .bool se.kpt, .int .i64 se.mul, .int .i64 se.act] ∧ Blk W' w.heap.size 33 cs), s.W.cell? ⟨gS, 4, none⟩ = some (.int .i64 se.p3) := fun s => (s.h.1.at_ 4).trans rfl
  have x5 : ∀ s : In (fun W' => Blk W' gS 27 #[.int .i64 se.life, .int .i64 se.p0, .int .i64 se.p1, .int .i64 se.p2, .int .i64 se.p3, .slice LA nl Lc, .slice HA nh Hc, .slice FA nf Fc, .slice GA ng Gc, .bool se.emp, .bool se.ply, .bool se.kpt, .int .i64 se.mul, .int .i64 se.act] ∧ Blk W' w.heap.size 33 cs), s.W.cell? ⟨gS, 5, none⟩ = some (.slice LA nl Lc) := fun s => (s.h.1.at_ 5).trans rfl
  have x6 : ∀ s : In (fun W' => Blk W' gS 27 #[.int .i64 se.life, .int .i64 se.p0, .int .i64 se.p1, .int .i64 se.p2, .int .i64 se.p3, .slice LA nl Lc, .slice HA nh Hc, .slice FA nf Fc, .slice GA ng Gc, .bool se.emp, .bool se.ply, .bool se.kpt, .int .i64 se.mul, .int .i64 se.act] ∧ Blk W' w.heap.size 33 cs), s.W.cell? ⟨gS, 6, none⟩ = some (.slice HA nh Hc) := fun s => (s.h.1.at_ 6).trans rfl
  have x7 : ∀ s : In (fun W' => Blk W' gS 27 #[.int .i64 se.life, .int .i64 se.p0, .int .i64 se.p1, .int .i64 se.p2, .int .i64 se.p3, .slice LA nl Lc, .slice HA nh Hc, .slice FA nf Fc, .slice GA ng Gc, .bool se.emp, .bool se.ply, .bool se.kpt, .int .i64 se.mul, .int .i64 se.act] ∧ Blk W' w.heap.size 33 cs), s.W.cell? ⟨gS, 7, none⟩ = some (.slice FA nf Fc) := fun s => (s.h.1.at_ 7).trans rfl
  have x8 : ∀ s : In (fun W' => Blk W' gS 27 #[.int .i64 se.life, .int .i64 se.p0, .int .i64 se.p1, .int .i64 se.p2, .int .i64 se.p3, .slice LA nl Lc, .slice HA nh Hc, .slice FA nf Fc, .slice GA ng Gc, .bool se.emp, .bool se.ply, .bool se.kpt, .int .i64 se.mul, .int .i64 se.act] ∧ Blk W' w.heap.size 33 cs), s.W.cell? ⟨gS, 8, none⟩ = some (.slice GA ng Gc) := fun s => (s.h.1.at_ 8).trans rfl
  have x9 : ∀ s : In (fun W' => Blk W' gS 27 #[.int .i64 se.life, .int .i64 se.p0, .int .i64 se.p1, .int .i64 se.p2, .int .i64 se.p3, .slice LA nl Lc, .slice HA nh Hc, .slice FA nf Fc, .slice GA ng Gc, .bool se.emp, .bool se.ply, .bool se.kpt, .int .i64 se.mul, .int .i64 se.act] ∧ Blk W' w.heap.size 33 cs), s.W.cell? ⟨gS, 9, none⟩ = some (.bool se.emp) := fun s => (s.h.1.at_ 9).trans rfl
  have x10 : ∀ s : In (fun W' => Blk W' gS 27 #[.int .i64 se.life, .int .i64 se.p0, .int .i64 se.p1, .int .i64 se.p2, .int .i64 se.p3, .slice LA nl Lc, .slice HA nh Hc, .slice FA nf Fc, .slice GA ng Gc, .bool se.emp, .bool se.ply, .bool se.kpt, .int .i64 se.mul, .int .i64 se.act] ∧ Blk W' w.heap.size 33 cs), s.W.cell? ⟨gS, 10, none⟩ = some (.bool se.ply) := fun s => (s.h.1.at_ 10).trans rfl
  have x11 : ∀ s : In (fun W' => Blk W' gS 27 #[.int .i64 se.life, .int .i64 se.p0, .int .i64 se.p1, .int .i64 se.p2, .int .i64 se.p3, .slice LA nl Lc, .slice HA nh Hc, .slice FA nf Fc, .slice GA ng Gc, .bool se.emp, .bool se.ply, .bool se.kpt, .int .i64 se.mul, .int .i64 se.act] ∧ Blk W' w.heap.size 33 cs), s.W.cell? ⟨gS, 11, none⟩ = some (.bool se.kpt) := fun s => (s.h.1.at_ 11).trans rfl
  have x12 : ∀ s : In (fun W' => Blk W' gS 27 #[.int .i64 se.life, .int .i64 se.p0, .int .i64 se.p1, .int .i64 se.p2, .int .i64 se.p3, .slice LA nl Lc, .slice HA nh Hc, .slice FA nf Fc, .slice GA ng Gc, .bool se.emp, .bool se.ply, .bool se.kpt, .int .i64 se.mul, .int .i64 se.act] ∧ Blk W' w.heap.size 33 cs), s.W.cell? ⟨gS, 12, none⟩ = some (.int .i64 se.mul) := fun s => (s.h.1.at_ 12).trans rfl
  have x13 : ∀ s : In (fun W' => Blk W' gS 27 #[.int .i64 se.life, .int .i64 se.p0, .int .i64 se.p1, .int .i64 se.p2, .int .i64 se.p3, .slice LA nl Lc, .slice HA nh Hc, .slice FA nf Fc, .slice GA ng Gc, .bool se.emp, .bool se.ply, .bool se.kpt, .int .i64 se.mul, .int .i64 se.act] ∧ Blk W' w.heap.size 33 cs), s.W.cell? ⟨gS, 13, none⟩ = some (.int .i64 se.act) := fun s => (s.h.1.at_ 13).trans rfl
  have HSC := Lib.hid hSc
  have hne_ : Nonempty (In (fun W' => Blk W' gS 27 #[.int .i64 se.life, .int .i64 se.p0, .int .i64 se.p1, .int .i64 se.p2, .int .i64 se.p3, .slice LA nl Lc, .slice HA nh Hc, .slice FA nf Fc, .slice GA ng Gc, .bool se.emp, .bool se.ply, .bool se.kpt, .int .i64 se.mul, .int .i64 se.act] ∧ Blk W' w.heap.size 33 cs)) := ⟨⟨W, hSc, hof.box⟩⟩
  have hgS := hSc.lt
  have hbx := hof.box.lt
  clear hne hQ hcs hR hp hsm hof hS hSc hse hsx hvs ht hmL hmH hmF hmG hnl hnh hnf hng hk hseN
  refine wp_region_sched (fun w' => ∃ s : In (fun W' => Blk W' gS 27 #[.int .i64 se.life, .int .i64 se.p0, .int .i64 se.p1, .int .i64 se.p2, .int .i64 se.p3, .slice LA nl Lc, .slice HA nh Hc, .slice FA nf Fc, .slice GA ng Gc, .bool se.emp, .bool se.ply, .bool se.kpt, .int .i64 se.mul, .int .i64 se.act] ∧ Blk W' w.heap.size 33 cs), w' = s.W) [0,1,2,3,4,5,6,7,8,9,10,11,12,13,15,16,17,19,20,21,22,23,24,25,26,27,28,30] ((.one 14 [] (.one 18 [29,31] (.one 32 [] .done)))) (by kernel_rfl) (by kernel_rfl) HQ.out ⟨⟨_, ⟨HSC.out.drew, HOF.out.box.drew⟩⟩, rfl⟩ ?_
  refine quiet_as (C' := (fun w' => ∃ s : In (fun W' => Blk W' gS 27 #[.int .i64 se.life, .int .i64 se.p0, .int .i64 se.p1, .int .i64 se.p2, .int .i64 se.p3, .slice LA nl Lc, .slice HA nh Hc, .slice FA nf Fc, .slice GA ng Gc, .bool se.emp, .bool se.ply, .bool se.kpt, .int .i64 se.mul, .int .i64 se.act] ∧ Blk W' w.heap.size 33 cs), w' = s.W)) rfl ?_
  simp only [opsAt, List.getElem?_toArray, List.getElem?_cons_succ, List.getElem?_cons_zero]
  repeat (first | (refine wpQuiet_load_by HLB.out ⟨_, ⟨⟨_, HSC.out, HOF.out.box⟩, rfl⟩⟩ rfl rfl rfl ?_; simp only [Act.put, List.setIfInBounds_toArray, List.set_cons_succ, List.set_cons_zero]) | go_big_quiet_step (fail))
  refine wpQuiet_nil ?_
  obtain ⟨W_d, hwd⟩ : ∃ v, W.drew = v := ⟨_, rfl⟩
  have HBR0 : Hid (Below W.heap.size W W_d) := Lib.hid (by rw [← hwd]; exact (Below.refl _ _).drew)
  rw [hwd]
  clear hwd
  refine eff_as (C' := (fun w' => ∃ s : In (fun W' => Blk W' gS 27 #[.int .i64 se.life, .int .i64 se.p0, .int .i64 se.p1, .int .i64 se.p2, .int .i64 se.p3, .slice LA nl Lc, .slice HA nh Hc, .slice FA nf Fc, .slice GA ng Gc, .bool se.emp, .bool se.ply, .bool se.kpt, .int .i64 se.mul, .int .i64 se.act] ∧ Blk W' w.heap.size 33 cs), w' = s.W)) rfl ?_
  (refine eff_lit rfl rfl (fun K hK => ?_))
  go_big_op
  refine (HC.out W_d ⟨FA, Fc⟩ se.fld nf HBR0.out (by have h := HSE.out.F; rw [HMM.out.1] at h; exact h) HSX.out.Fi HSX.out.F HNN.out.2.2.1).mono ?_
  rintro e W_1 ⟨A1, e1, rfl, hx, hbW_1⟩
  have HBR2 := Lib.hid (below_call HBR0.out hbW_1 HBR0.out.size)
  have FF_2 := Lib.hid ((hx.more (Nat.le_trans HOF.out.bel.size HBR0.out.size)))
  clear hbW_1
  clear hx
  refine hK _ _ ⟨⟨_, ⟨HSC.out.call HBR2.out, HOF.out.box.call HBR2.out⟩⟩, rfl⟩ ?_
  clear hK K
  simp only [opsAt, List.getElem?_toArray, List.getElem?_cons_succ, List.getElem?_cons_zero]
  refine wpQuiet_nil ?_
  refine eff_as (C' := (fun w' => ∃ s : In (fun W' => Blk W' gS 27 #[.int .i64 se.life, .int .i64 se.p0, .int .i64 se.p1, .int .i64 se.p2, .int .i64 se.p3, .slice LA nl Lc, .slice HA nh Hc, .slice FA nf Fc, .slice GA ng Gc, .bool se.emp, .bool se.ply, .bool se.kpt, .int .i64 se.mul, .int .i64 se.act] ∧ Blk W' w.heap.size 33 cs), w' = s.W)) rfl ?_
  (refine eff_lit rfl rfl (fun K hK => ?_))
  go_big_op
  refine (HC.out W_1 ⟨GA, Gc⟩ se.grv ng HBR2.out (by have h := HSE.out.G; rw [HMM.out.2] at h; exact h) HSX.out.Gi HSX.out.G HNN.out.2.2.2).mono ?_
  rintro e W_3 ⟨A2, e2, rfl, hx, hbW_3⟩
  have HBR4 := Lib.hid (below_call HBR2.out hbW_3 HBR2.out.size)
  have FF_4 := Lib.hid (FF_2.out.below hbW_3)
  have FG_4 := Lib.hid ((hx.more (Nat.le_trans HOF.out.bel.size HBR2.out.size)))
  clear hbW_3
  clear hx
  refine hK _ _ ⟨⟨_, ⟨HSC.out.call HBR4.out, HOF.out.box.call HBR4.out⟩⟩, rfl⟩ ?_
  clear hK K
  simp only [opsAt, List.getElem?_toArray, List.getElem?_cons_succ, List.getElem?_cons_zero]
  repeat (first | (refine wpQuiet_load_by HLB.out ⟨_, ⟨⟨_, HSC.out, HOF.out.box⟩, rfl⟩⟩ rfl rfl rfl ?_; simp only [Act.put, List.setIfInBounds_toArray, List.set_cons_succ, List.set_cons_zero]) | go_big_quiet_step (fail))
  refine wpQuiet_nil ?_
  refine eff_as (C' := (fun w' => ∃ s : In (fun W' => Blk W' gS 27 #[.int .i64 se.life, .int .i64 se.p0, .int .i64 se.p1, .int .i64 se.p2, .int .i64 se.p3, .slice LA nl Lc, .slice HA nh Hc, .slice FA nf Fc, .slice GA ng Gc, .bool se.emp, .bool se.ply, .bool se.kpt, .int .i64 se.mul, .int .i64 se.act] ∧ Blk W' w.heap.size 33 cs), w' = s.W)) rfl ?_
  (refine eff_lit rfl rfl (fun K hK => ?_))
  obtain ⟨W8, hrun, ⟨c0', c1', hof8⟩, hb8, hgs8⟩ := (HOF.out.below HBR4.out).step (HSC.out.call HBR4.out) HNE.out HK2.out HT.out ⟨⟨A1, e1⟩, ⟨A2, e2⟩⟩ (by
    rw [HVS.out]
    refine ⟨?_, ?_⟩
    · show XOwns _ _ _ _ _ (se.fld.map (obI b.objs)).length _ _
      rw [List.length_map]
      exact FF_4.out
    · show XOwns _ _ _ _ _ (se.grv.map (obI b.objs)).length _ _
      rw [List.length_map]
      exact FG_4.out)
  have hrun2 := hrun
  rw [HVS.out] at hrun2
  have hl2 : (vsOf b.objs se).cells ⟨⟨A1, e1⟩, ⟨A2, e2⟩⟩ = [.int .i64 se.life, .int .i64 se.p0, .int .i64 se.p1, .int .i64 se.p2, .int .i64 se.p3, .int .i64 nl, .int .i64 nh, .slice A1 se.fld.length e1, .slice A2 se.grv.length e2, .bool se.emp, .bool se.ply, .bool se.kpt, .int .i64 se.mul, .int .i64 se.act] := by
    simp only [vsOf, Vs.cells, Sl.v, List.length_map]
    rw [HNN.out.1, HNN.out.2.1]
  rw [hl2] at hrun2
  refine wp_store_by hrun2 rfl rfl rfl ?_
  simp only [Act.put, List.setIfInBounds_toArray, List.set_cons_succ, List.set_cons_zero]
  clear hrun hrun2 hl2
  have HF8 := Lib.hid hof8
  have HGS8 : Hid (Blk W8 gS 27 #[.int .i64 se.life, .int .i64 se.p0, .int .i64 se.p1, .int .i64 se.p2, .int .i64 se.p3, .slice LA nl Lc, .slice HA nh Hc, .slice FA nf Fc, .slice GA ng Gc, .bool se.emp, .bool se.ply, .bool se.kpt, .int .i64 se.mul, .int .i64 se.act]) := Lib.hid hgs8
  clear hof8 hb8 hgs8
  refine hK _ _ ⟨⟨_, ⟨HGS8.out, HF8.out.box⟩⟩, rfl⟩ ?_
  clear hK K
  simp only [opsAt, List.getElem?_toArray, List.getElem?_cons_succ, List.getElem?_cons_zero]
  refine wpQuiet_nil ?_
  refine effs_done ?_
  exact HKK.out _ _ _ _ _ _ _ _ _ _ _ _ _ _ _ _ _ _ _ _ _ _ _ _ _ _ _ _ _ _ _ _ c0' c1' W8 HF8.out

end Go.Proofs.Ytagpphelgghbpaa
