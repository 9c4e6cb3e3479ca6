/-
  Texts: Rof.
-/
import Derived.Test.YtagpphelgghbpaaGreatAk32
import Derived.Test.YtagpphelgghbpaaGreatAk36
import Derived.Test.YtagpphelgghbpaaGreatAk43
set_option linter.unusedSimpArgs false
set_option linter.unusedVariables false
namespace Go.Proofs.YtagpphelgghbpaaGreat
open Go.RowKit

structure RoC (w : World) (cs : Array Value) (W : World) : Prop where
  box : Blk W w.heap.size 33 cs
  prm : Blk W (w.heap.size + 1) 92 #[.int .i64 0, .int .i64 0, .slice none 0 0]
  res : Blk W (w.heap.size + 2) 98 zvw
  bel : Below w.heap.size w W
section
variable {w : World} {cs : Array Value} {W W' : World}
theorem RoC.below (h : RoC w cs W) (hb : Below W.heap.size W W') : RoC w cs W' := ⟨h.box.call hb, h.prm.call hb, h.res.call hb, below_call h.bel hb h.bel.size⟩
theorem RoC.store {g : Nat} (h : RoC w cs W) (hg : W.grownBy W' (some g)) (hN : w.heap.size + 2 < g) : RoC w cs W' := ⟨h.box.grown hg (fun e => by injection e with e; omega), h.prm.grown hg (fun e => by injection e with e; omega), h.res.grown hg (fun e => by injection e with e; omega), h.bel.grown hg h.bel.size (fun q hq => by injection hq with hq; omega)⟩
end
set_option maxRecDepth 100000 in
set_option maxHeartbeats 3200000 in
theorem rof_seat0 (k : Nat) (hk : k = 0) (w W : World) (b : Bd) (m : BdM) (cs : Array Value) (hcs : (b.cells m).toArray = cs) (hR : BdR w b m) (hp : plcP b) (hsm : BdSm b) (hV : RoC w cs W) (g : Nat) (who : Int) (c0 c1 tl : List Value) (h : Value) (l0 : c0.length = 14) (l1 : c1.length = 14) (hG : Blk W g 98 (vwc who c0 c1 h tl).toArray) (hN : w.heap.size + 2 < g) (gS : Nat) (hne : gS ≠ g) (hS : Blk W gS 27 (b.s0.cells m.m0).toArray) (Q : Exit → Act → World → Prop) (t0 t1 t2 t4 t5 t6 t10 t11 t12 t13 t14 t15 t16 t17 t18 t19 t20 t21 t22 t23 t24 t25 t26 t27 t28 t29 t30 t31 t32 t33 t34 t35 t36 t37 t38 t39 t40 t41 t42 t43 t44 t45 t46 t47 t48 t49 t50 t51 t52 t53 t54 t55 t56 t57 t58 t59 t60 t61 t62 t63 t64 t65 t66 t67 t68 t69 t70 t71 t72 t73 t74 t75 t76 t77 t78 t79 t80 t81 t82 t83 t84 t85 t86 t87 t88 t89 t90 t91 t92 t93 t94 t95 t96 t97 t98 t99 t100 t101 t102 t103 : Value)
    (hQ : ∀ d v c a w, Q (.panic c) (Act.put a d v) w → Q (.panic c) a w)
    (hK : ∀ (u38 u39 u40 u41 u42 u43 u44 u45 u46 u47 u48 u49 u50 u51 u52 u53 u54 u55 u56 u57 u58 u59 u60 u61 u62 u63 u64 u65 u66 u67 u68 u69 : Value) (v' : VsM) (W9 : World), VsO W9 w.heap.size (puOf b).v0 v' ∧ Blk W9 g 98 (vwc who ((puOf b).v0.cells v') c1 h tl).toArray ∧ RoC w cs W9 → Q .normal ⟨#[t0, t1, t2, .pointer (some ⟨w.heap.size, 0, none⟩), t4, t5, t6, .pointer (some ⟨g, 0, none⟩), .int .i64 k, .pointer (some ⟨gS, 0, none⟩), t10, t11, t12, t13, t14, t15, t16, t17, t18, t19, t20, t21, t22, t23, t24, t25, t26, t27, t28, t29, t30, t31, t32, t33, t34, t35, t36, t37, u38, u39, u40, u41, u42, u43, u44, u45, u46, u47, u48, u49, u50, u51, u52, u53, u54, u55, u56, u57, u58, u59, u60, u61, u62, u63, u64, u65, u66, u67, u68, u69, t70, t71, t72, t73, t74, t75, t76, t77, t78, t79, t80, t81, t82, t83, t84, t85, t86, t87, t88, t89, t90, t91, t92, t93, t94, t95, t96, t97, t98, t99, t100, t101, t102, t103], []⟩ W9) :
    Code.wp Tryz.prog (regOf Tryz.f41 6) Q ⟨#[t0, t1, t2, .pointer (some ⟨w.heap.size, 0, none⟩), t4, t5, t6, .pointer (some ⟨g, 0, none⟩), .int .i64 k, .pointer (some ⟨gS, 0, none⟩), t10, t11, t12, t13, t14, t15, t16, t17, t18, t19, t20, t21, t22, t23, t24, t25, t26, t27, t28, t29, t30, t31, t32, t33, t34, t35, t36, t37, t38, t39, t40, t41, t42, t43, t44, t45, t46, t47, t48, t49, t50, t51, t52, t53, t54, t55, t56, t57, t58, t59, t60, t61, t62, t63, t64, t65, t66, t67, t68, t69, t70, t71, t72, t73, t74, t75, t76, t77, t78, t79, t80, t81, t82, t83, t84, t85, t86, t87, t88, t89, t90, t91, t92, t93, t94, t95, t96, t97, t98, t99, t100, t101, t102, t103], []⟩ W := by
  have HKK := Lib.hid hK
  clear hK
  conv => arg 2; whnf
  subst hk
  obtain ⟨⟨LA, Lc⟩, hmL⟩ : ∃ x, m.m0.L = x := ⟨_, rfl⟩
  obtain ⟨nl, hnl⟩ : ∃ x, b.s0.lib.length = x := ⟨_, rfl⟩
  obtain ⟨⟨HA, Hc⟩, hmH⟩ : ∃ x, m.m0.H = x := ⟨_, rfl⟩
  obtain ⟨nh, hnh⟩ : ∃ x, b.s0.hand.length = x := ⟨_, rfl⟩
  obtain ⟨⟨FA, Fc⟩, hmF⟩ : ∃ x, m.m0.F = x := ⟨_, rfl⟩
  obtain ⟨nf, hnf⟩ : ∃ x, b.s0.fld.length = x := ⟨_, rfl⟩
  obtain ⟨⟨GA, Gc⟩, hmG⟩ : ∃ x, m.m0.G = x := ⟨_, rfl⟩
  obtain ⟨ng, hng⟩ : ∃ x, b.s0.grv.length = x := ⟨_, rfl⟩
  have hsx := hsm.s0
  have hse := hR.s0
  have HVS : Hid ((puOf b).v0 = vsOf b.objs b.s0) := Lib.hid rfl
  have HC : Hid (∀ W' (s : Sl) (ids : List Int) (n : Nat), RoC w cs W' → LsR w s ids → (∀ i ∈ ids, ∃ o ∈ b.objs, o.id = i) → ids.length ≤ 500 → ids.length = n → Calls Tryz.prog 75 #[.agg cs, .slice s.A n s.c] W' (SobEnd b.objs ids W')) := Lib.hid (fun W' s ids n hc hl hall hn e => by
    rw [← e, ← hcs]
    exact robjs_any b m s ids W' (hR.below hc.bel) hp (hl.below hc.bel).row hall hn)
  have HLB : Hid (∀ W', Blk W' w.heap.size 33 cs → (Instr.loadAt 33 (.pointer (some ⟨w.heap.size, 0, none⟩))).run Tryz.prog W' = .ok (.agg cs) W') := Lib.hid (fun W' hW => by
    rw [← hcs] at hW ⊢
    exact board_load hW)
  obtain ⟨se, hseN⟩ : ∃ x, b.s0 = x := ⟨_, rfl⟩
  have hSc : Blk W gS 27 #[Value.int .i64 se.life, .int .i64 se.p0, .int .i64 se.p1, .int .i64 se.p2, .int .i64 se.p3, .slice LA nl Lc, .slice HA nh Hc, .slice FA nf Fc, .slice GA ng Gc, .bool se.emp, .bool se.ply, .bool se.kpt, .int .i64 se.mul, .int .i64 se.act] := by
    have h := hS
    simp only [Se.cells, Sl.v, hmL, hmH, hmF, hmG, hnl, hnh, hnf, hng] at h
    simp only [hseN] at h
    exact h
  rw [hseN] at hse hsx hnl hnh hnf hng HVS
  have HSX := Lib.hid hsx
  have HSE := Lib.hid hse
  have HV := Lib.hid hV
  have HQ := Lib.hid hQ
  have HN := Lib.hid hN
  have HL01 := Lib.hid (And.intro l0 l1)
  have HG := Lib.hid hG
  have HNE := Lib.hid hne
  have HNN := Lib.hid (And.intro hnl (And.intro hnh (And.intro hnf hng)))
  have HMM := Lib.hid (And.intro hmF hmG)
  have HSC := Lib.hid hSc
  have hne_ : Nonempty (In (fun W' => Blk W' gS 27 #[Value.int .i64 se.life, .int .i64 se.p0, .int .i64 se.p1, .int .i64 se.p2, .int .i64 se.p3, .slice LA nl Lc, .slice HA nh Hc, .slice FA nf Fc, .slice GA ng Gc, .bool se.emp, .bool se.ply, .bool se.kpt, .int .i64 se.mul, .int .i64 se.act] ∧ Blk W' w.heap.size 33 cs)) := ⟨⟨W, hSc, hV.box⟩⟩
  have hgS := hSc.lt
  have hbx := hV.box.lt
  have HLQ : Hid (∀ W', (∃ s : In (fun W' => Blk W' gS 27 #[Value.int .i64 se.life, .int .i64 se.p0, .int .i64 se.p1, .int .i64 se.p2, .int .i64 se.p3, .slice LA nl Lc, .slice HA nh Hc, .slice FA nf Fc, .slice GA ng Gc, .bool se.emp, .bool se.ply, .bool se.kpt, .int .i64 se.mul, .int .i64 se.act] ∧ Blk W' w.heap.size 33 cs), W' = s.W) → (Instr.loadAt 33 (.pointer (some ⟨w.heap.size, 0, none⟩))).run Tryz.prog W' = .ok (.agg cs) W') := Lib.hid (fun W' hW => by
    obtain ⟨s, rfl⟩ := hW
    exact HLB.out _ s.h.2)
  have x0 : ∀ s : In (fun W' => Blk W' gS 27 #[Value.int .i64 se.life, .int .i64 se.p0, .int .i64 se.p1, .int .i64 se.p2, .int .i64 se.p3, .slice LA nl Lc, .slice HA nh Hc, .slice FA nf Fc, .slice GA ng Gc, .bool se.emp, .bool se.ply, .bool se.kpt, .int .i64 se.mul, .int .i64 se.act] ∧ Blk W' w.heap.size 33 cs), s.W.cell? ⟨gS, 0, none⟩ = some (.int .i64 se.life) := fun s => (s.h.1.at_ 0).trans rfl
  have x1 : ∀ s : In (fun W' => Blk W' gS 27 #[Value.int .i64 se.life, .int .i64 se.p0, .int .i64 se.p1, .int .i64 se.p2, .int .i64 se.p3, .slice LA nl Lc, .slice HA nh Hc, .slice FA nf Fc, .slice GA ng Gc, .bool se.emp, .bool se.ply, .bool se.kpt, .int .i64 se.mul, .int .i64 se.act] ∧ Blk W' w.heap.size 33 cs), s.W.cell? ⟨gS, 1, none⟩ = some (.int .i64 se.p0) := fun s => (s.h.1.at_ 1).trans rfl
  have x2 : ∀ s : In (fun W' => Blk W' gS 27 #[Value.int .i64 se.life, .int .i64 se.p0, .int .i64 se.p1, .int .i64 se.p2, .int .i64 se.p3, .slice LA nl Lc, .slice HA nh Hc, .slice FA nf Fc, .slice GA ng Gc, .bool se.emp, .bool se.ply, .bool se.kpt, .int .i64 se.mul, .int .i64 se.act] ∧ Blk W' w.heap.size 33 cs), s.W.cell? ⟨gS, 2, none⟩ = some (.int .i64 se.p1) := fun s => (s.h.1.at_ 2).trans rfl
  have x3 : ∀ s : In (fun W' => Blk W' gS 27 #[Value.int .i64 se.life, .int .i64 se.p0, .int .i64 se.p1, .int .i64 se.p2, .int .i64 se.p3, .slice LA nl Lc, .slice HA nh Hc, .slice FA nf Fc, .slice GA ng Gc, .bool se.emp, .bool se.ply, .bool se.kpt, .int .i64 se.mul, .int .i64 se.act] ∧ Blk W' w.heap.size 33 cs), s.W.cell? ⟨gS, 3, none⟩ = some (.int .i64 se.p2) := fun s => (s.h.1.at_ 3).trans rfl
  have x4 : ∀ s : In (fun W' => Blk W' gS 27 #[Value.int .i64 se.life, .int .i64 se.p0, .int .i64 se.p1, .int .i64 se.p2, .int .i64 se.p3, .slice LA nl Lc, .slice HA nh Hc, .slice FA nf Fc, .slice GA ng Gc, .bool se.emp, .bool se.ply, .bool se.kpt, .int .i64 se.mul, .int .i64 se.act] ∧ Blk W' w.heap.size 33 cs), s.W.cell? ⟨gS, 4, none⟩ = some (.int .i64 se.p3) := fun s => (s.h.1.at_ 4).trans rfl
  have x5 : ∀ s : In (fun W' => Blk W' gS 27 #[Value.int .i64 se.life, .int .i64 se.p0, .int .i64 se.p1, .int .i64 se.p2, .int .i64 se.p3, .slice LA nl Lc, .slice HA nh Hc, .slice FA nf Fc, .slice GA ng Gc, .bool se.emp, .bool se.ply, .bool se.kpt, .int .i64 se.mul, .int .i64 se.act] ∧ Blk W' w.heap.size 33 cs), s.W.cell? ⟨gS, 5, none⟩ = some (.slice LA nl Lc) := fun s => (s.h.1.at_ 5).trans rfl
  have x6 : ∀ s : In (fun W' => Blk W' gS 27 #[Value.int .i64 se.life, .int .i64 se.p0, .int .i64 se.p1, .int .i64 se.p2, .int .i64 se.p3, .slice LA nl Lc, .slice HA nh Hc, .slice FA nf Fc, .slice GA ng Gc, .bool se.emp, .bool se.ply, .bool se.kpt, .int .i64 se.mul, .int .i64 se.act] ∧ Blk W' w.heap.size 33 cs), s.W.cell? ⟨gS, 6, none⟩ = some (.slice HA nh Hc) := fun s => (s.h.1.at_ 6).trans rfl
  have x7 : ∀ s : In (fun W' => Blk W' gS 27 #[Value.int .i64 se.life, .int .i64 se.p0, .int .i64 se.p1, .int .i64 se.p2, .int .i64 se.p3, .slice LA nl Lc, .slice HA nh Hc, .slice FA nf Fc, .slice GA ng Gc, .bool se.emp, .bool se.ply, .bool se.kpt, .int .i64 se.mul, .int .i64 se.act] ∧ Blk W' w.heap.size 33 cs), s.W.cell? ⟨gS, 7, none⟩ = some (.slice FA nf Fc) := fun s => (s.h.1.at_ 7).trans rfl
  have x8 : ∀ s : In (fun W' => Blk W' gS 27 #[Value.int .i64 se.life, .int .i64 se.p0, .int .i64 se.p1, .int .i64 se.p2, .int .i64 se.p3, .slice LA nl Lc, .slice HA nh Hc, .slice FA nf Fc, .slice GA ng Gc, .bool se.emp, .bool se.ply, .bool se.kpt, .int .i64 se.mul, .int .i64 se.act] ∧ Blk W' w.heap.size 33 cs), s.W.cell? ⟨gS, 8, none⟩ = some (.slice GA ng Gc) := fun s => (s.h.1.at_ 8).trans rfl
  have x9 : ∀ s : In (fun W' => Blk W' gS 27 #[Value.int .i64 se.life, .int .i64 se.p0, .int .i64 se.p1, .int .i64 se.p2, .int .i64 se.p3, .slice LA nl Lc, .slice HA nh Hc, .slice FA nf Fc, .slice GA ng Gc, .bool se.emp, .bool se.ply, .bool se.kpt, .int .i64 se.mul, .int .i64 se.act] ∧ Blk W' w.heap.size 33 cs), s.W.cell? ⟨gS, 9, none⟩ = some (.bool se.emp) := fun s => (s.h.1.at_ 9).trans rfl
  have x10 : ∀ s : In (fun W' => Blk W' gS 27 #[Value.int .i64 se.life, .int .i64 se.p0, .int .i64 se.p1, .int .i64 se.p2, .int .i64 se.p3, .slice LA nl Lc, .slice HA nh Hc, .slice FA nf Fc, .slice GA ng Gc, .bool se.emp, .bool se.ply, .bool se.kpt, .int .i64 se.mul, .int .i64 se.act] ∧ Blk W' w.heap.size 33 cs), s.W.cell? ⟨gS, 10, none⟩ = some (.bool se.ply) := fun s => (s.h.1.at_ 10).trans rfl
  have x11 : ∀ s : In (fun W' => Blk W' gS 27 #[Value.int .i64 se.life, .int .i64 se.p0, .int .i64 se.p1, .int .i64 se.p2, .int .i64 se.p3, .slice LA nl Lc, .slice HA nh Hc, .slice FA nf Fc, .slice GA ng Gc, .bool se.emp, .bool se.ply, .bool se.kpt, .int .i64 se.mul, .int .i64 se.act] ∧ Blk W' w.heap.size 33 cs), s.W.cell? ⟨gS, 11, none⟩ = some (.bool se.kpt) := fun s => (s.h.1.at_ 11).trans rfl
  have x12 : ∀ s : In (fun W' => Blk W' gS 27 #[Value.int .i64 se.life, .int .i64 se.p0, .int .i64 se.p1, .int .i64 se.p2, .int .i64 se.p3, .slice LA nl Lc, .slice HA nh Hc, .slice FA nf Fc, .slice GA ng Gc, .bool se.emp, .bool se.ply, .bool se.kpt, .int .i64 se.mul, .int .i64 se.act] ∧ Blk W' w.heap.size 33 cs), s.W.cell? ⟨gS, 12, none⟩ = some (.int .i64 se.mul) := fun s => (s.h.1.at_ 12).trans rfl
  have x13 : ∀ s : In (fun W' => Blk W' gS 27 #[Value.int .i64 se.life, .int .i64 se.p0, .int .i64 se.p1, .int .i64 se.p2, .int .i64 se.p3, .slice LA nl Lc, .slice HA nh Hc, .slice FA nf Fc, .slice GA ng Gc, .bool se.emp, .bool se.ply, .bool se.kpt, .int .i64 se.mul, .int .i64 se.act] ∧ Blk W' w.heap.size 33 cs), s.W.cell? ⟨gS, 13, none⟩ = some (.int .i64 se.act) := fun s => (s.h.1.at_ 13).trans rfl
  clear hne hQ hcs hR hp hsm hV hS hSc hse hsx hmL hmH hmF hmG hnl hnh hnf hng hseN hN l0 l1 hG
  refine wp_region_sched (fun w' => ∃ s : In (fun W' => Blk W' gS 27 #[Value.int .i64 se.life, .int .i64 se.p0, .int .i64 se.p1, .int .i64 se.p2, .int .i64 se.p3, .slice LA nl Lc, .slice HA nh Hc, .slice FA nf Fc, .slice GA ng Gc, .bool se.emp, .bool se.ply, .bool se.kpt, .int .i64 se.mul, .int .i64 se.act] ∧ Blk W' w.heap.size 33 cs), w' = s.W) [0,1,2,3,4,5,6,7,8,9,10,11,12,13,15,16,17,19,20,21,22,23,24,25,26,27,28,30] (.one 14 [] (.one 18 [29,31] (.one 32 [] .done))) (by kernel_rfl) (by kernel_rfl) HQ.out ⟨⟨_, ⟨HSC.out.drew, HV.out.box.drew⟩⟩, rfl⟩ ?_
  refine quiet_as (C' := (fun w' => ∃ s : In (fun W' => Blk W' gS 27 #[Value.int .i64 se.life, .int .i64 se.p0, .int .i64 se.p1, .int .i64 se.p2, .int .i64 se.p3, .slice LA nl Lc, .slice HA nh Hc, .slice FA nf Fc, .slice GA ng Gc, .bool se.emp, .bool se.ply, .bool se.kpt, .int .i64 se.mul, .int .i64 se.act] ∧ Blk W' w.heap.size 33 cs), w' = s.W)) rfl ?_
  simp only [opsAt, List.getElem?_toArray, List.getElem?_cons_succ, List.getElem?_cons_zero]
  repeat (first | (refine wpQuiet_load_by HLQ.out ⟨_, ⟨⟨_, HSC.out, HV.out.box⟩, rfl⟩⟩ rfl rfl rfl ?_; simp only [Act.put, List.setIfInBounds_toArray, List.set_cons_succ, List.set_cons_zero]) | go_big_quiet_step (fail))
  refine wpQuiet_nil ?_
  obtain ⟨W_d, hwd⟩ : ∃ v, W.drew = v := ⟨_, rfl⟩
  have HBW_1 : Hid (Below w.heap.size w W_d) := Lib.hid (by rw [← hwd]; exact (HV.out.bel).drew)
  have HBR_1 : Hid (Below W.heap.size W W_d) := Lib.hid (by rw [← hwd]; exact (Below.refl _ _).drew)
  have VC_1 := Lib.hid ((HV.out).below (show Below W.heap.size W W_d by rw [← hwd]; exact (Below.refl _ _).drew))
  have SB_1 := Lib.hid ((HSC.out).call (show Below W.heap.size W W_d by rw [← hwd]; exact (Below.refl _ _).drew))
  have GB_1 := Lib.hid ((HG.out).call (show Below W.heap.size W W_d by rw [← hwd]; exact (Below.refl _ _).drew))
  rw [hwd]
  clear hwd
  refine eff_as (C' := (fun w' => ∃ s : In (fun W' => Blk W' gS 27 #[Value.int .i64 se.life, .int .i64 se.p0, .int .i64 se.p1, .int .i64 se.p2, .int .i64 se.p3, .slice LA nl Lc, .slice HA nh Hc, .slice FA nf Fc, .slice GA ng Gc, .bool se.emp, .bool se.ply, .bool se.kpt, .int .i64 se.mul, .int .i64 se.act] ∧ Blk W' w.heap.size 33 cs), w' = s.W)) rfl ?_
  (refine eff_lit rfl rfl (fun K hK => ?_))
  go_big_op
  refine (HC.out W_d ⟨FA, Fc⟩ se.fld nf VC_1.out (by have h := HSE.out.F; rw [HMM.out.1] at h; exact h) HSX.out.Fi HSX.out.F HNN.out.2.2.1).mono ?_
  rintro e W_2 ⟨A1, e1, rfl, hx, hbW_2⟩
  have FF_3 := Lib.hid (hx.more HBW_1.out.size)
  have HBW_3 := Lib.hid (below_call HBW_1.out hbW_2 HBW_1.out.size)
  clear HBW_1
  have HBR_3 := Lib.hid (below_call HBR_1.out hbW_2 HBR_1.out.size)
  clear HBR_1
  have VC_3 := Lib.hid (VC_1.out.below hbW_2)
  clear VC_1
  have SB_3 := Lib.hid (SB_1.out.call hbW_2)
  clear SB_1
  have GB_3 := Lib.hid (GB_1.out.call hbW_2)
  clear GB_1
  clear hbW_2
  clear hx
  refine hK _ _ ⟨⟨_, ⟨SB_3.out, VC_3.out.box⟩⟩, rfl⟩ ?_
  clear hK K
  try simp only [opsAt, List.getElem?_toArray, List.getElem?_cons_succ, List.getElem?_cons_zero]
  refine wpQuiet_nil ?_
  refine eff_as (C' := (fun w' => ∃ s : In (fun W' => Blk W' gS 27 #[Value.int .i64 se.life, .int .i64 se.p0, .int .i64 se.p1, .int .i64 se.p2, .int .i64 se.p3, .slice LA nl Lc, .slice HA nh Hc, .slice FA nf Fc, .slice GA ng Gc, .bool se.emp, .bool se.ply, .bool se.kpt, .int .i64 se.mul, .int .i64 se.act] ∧ Blk W' w.heap.size 33 cs), w' = s.W)) rfl ?_
  (refine eff_lit rfl rfl (fun K hK => ?_))
  go_big_op
  refine (HC.out W_2 ⟨GA, Gc⟩ se.grv ng VC_3.out (by have h := HSE.out.G; rw [HMM.out.2] at h; exact h) HSX.out.Gi HSX.out.G HNN.out.2.2.2).mono ?_
  rintro e W_4 ⟨A2, e2, rfl, hx, hbW_4⟩
  have FG_5 := Lib.hid (hx.more HBW_3.out.size)
  have HBW_5 := Lib.hid (below_call HBW_3.out hbW_4 HBW_3.out.size)
  clear HBW_3
  have HBR_5 := Lib.hid (below_call HBR_3.out hbW_4 HBR_3.out.size)
  clear HBR_3
  have VC_5 := Lib.hid (VC_3.out.below hbW_4)
  clear VC_3
  have SB_5 := Lib.hid (SB_3.out.call hbW_4)
  clear SB_3
  have GB_5 := Lib.hid (GB_3.out.call hbW_4)
  clear GB_3
  have FF_5 := Lib.hid (FF_3.out.below hbW_4)
  clear FF_3
  clear hbW_4
  clear hx
  refine hK _ _ ⟨⟨_, ⟨SB_5.out, VC_5.out.box⟩⟩, rfl⟩ ?_
  clear hK K
  try simp only [opsAt, List.getElem?_toArray, List.getElem?_cons_succ, List.getElem?_cons_zero]
  repeat (first | (refine wpQuiet_load_by HLQ.out ⟨_, ⟨⟨_, HSC.out, HV.out.box⟩, rfl⟩⟩ rfl rfl rfl ?_; simp only [Act.put, List.setIfInBounds_toArray, List.set_cons_succ, List.set_cons_zero]) | go_big_quiet_step (fail))
  refine wpQuiet_nil ?_
  refine eff_as (C' := (fun w' => ∃ s : In (fun W' => Blk W' gS 27 #[Value.int .i64 se.life, .int .i64 se.p0, .int .i64 se.p1, .int .i64 se.p2, .int .i64 se.p3, .slice LA nl Lc, .slice HA nh Hc, .slice FA nf Fc, .slice GA ng Gc, .bool se.emp, .bool se.ply, .bool se.kpt, .int .i64 se.mul, .int .i64 se.act] ∧ Blk W' w.heap.size 33 cs), w' = s.W)) rfl ?_
  (refine eff_lit rfl rfl (fun K hK => ?_))
  obtain ⟨W_6, hrun, hk9, hg9⟩ := GB_5.out.storeMid (ty := 95) 1 [Value.int .i64 se.life, .int .i64 se.p0, .int .i64 se.p1, .int .i64 se.p2, .int .i64 se.p3, .int .i64 nl, .int .i64 nh, .slice A1 se.fld.length e1, .slice A2 se.grv.length e2, .bool se.emp, .bool se.ply, .bool se.kpt, .int .i64 se.mul, .int .i64 se.act] (by rw [vwc_len _ _ _ _ _ HL01.out.1 HL01.out.2]; simp; omega) (by rw [size_vseat]; rfl) (by simp [Value.oneCell'])
  refine wp_store_by hrun rfl rfl rfl ?_
  simp only [Act.put, List.setIfInBounds_toArray, List.set_cons_succ, List.set_cons_zero]
  clear hrun
  rw [vwc_set0 _ _ _ _ _ _ HL01.out.1 rfl] at hk9
  have hN9 := HN.out
  have HBW_7 := Lib.hid (HBW_5.out.grown hg9 HBW_5.out.size (fun q hq => by injection hq with hq; omega))
  clear HBW_5
  have VC_7 := Lib.hid (VC_5.out.store hg9 hN9)
  clear VC_5
  have SB_7 := Lib.hid (SB_5.out.grown hg9 (fun e => by injection e with e; exact HNE.out e))
  clear SB_5
  have FF_7 := Lib.hid (FF_5.out.blk_ GB_5.out hg9 (by decide))
  clear FF_5
  have FG_7 := Lib.hid (FG_5.out.blk_ GB_5.out hg9 (by decide))
  clear FG_5
  have HK9 := Lib.hid hk9
  clear hk9 hg9 hN9
  refine hK _ _ ⟨⟨_, ⟨SB_7.out, VC_7.out.box⟩⟩, rfl⟩ ?_
  clear hK K
  try simp only [opsAt, List.getElem?_toArray, List.getElem?_cons_succ, List.getElem?_cons_zero]
  refine wpQuiet_nil ?_
  refine effs_done ?_
  have hl2 : ((puOf b).v0.cells ⟨⟨A1, e1⟩, ⟨A2, e2⟩⟩) = [Value.int .i64 se.life, .int .i64 se.p0, .int .i64 se.p1, .int .i64 se.p2, .int .i64 se.p3, .int .i64 nl, .int .i64 nh, .slice A1 se.fld.length e1, .slice A2 se.grv.length e2, .bool se.emp, .bool se.ply, .bool se.kpt, .int .i64 se.mul, .int .i64 se.act] := by
    rw [HVS.out]
    simp only [vsOf, Vs.cells, Sl.v, List.length_map]
    rw [HNN.out.1, HNN.out.2.1]
  rw [← hl2] at HK9
  refine HKK.out _ _ _ _ _ _ _ _ _ _ _ _ _ _ _ _ _ _ _ _ _ _ _ _ _ _ _ _ _ _ _ _ ⟨⟨A1, e1⟩, ⟨A2, e2⟩⟩ _ ⟨?_, HK9.out, VC_7.out⟩
  rw [HVS.out]
  refine ⟨?_, ?_⟩
  · show XOwns _ _ _ _ _ (se.fld.map (obI b.objs)).length _ _
    rw [List.length_map]
    exact FF_7.out
  · show XOwns _ _ _ _ _ (se.grv.map (obI b.objs)).length _ _
    rw [List.length_map]
    exact FG_7.out

set_option maxRecDepth 100000 in
set_option maxHeartbeats 3200000 in
theorem rof_seat1 (k : Nat) (hk : k = 1) (w W : World) (b : Bd) (m : BdM) (cs : Array Value) (hcs : (b.cells m).toArray = cs) (hR : BdR w b m) (hp : plcP b) (hsm : BdSm b) (hV : RoC w cs W) (g : Nat) (who : Int) (c0 c1 tl : List Value) (h : Value) (l0 : c0.length = 14) (l1 : c1.length = 14) (hG : Blk W g 98 (vwc who c0 c1 h tl).toArray) (hN : w.heap.size + 2 < g) (gS : Nat) (hne : gS ≠ g) (hS : Blk W gS 27 (b.s1.cells m.m1).toArray) (x0 : VsM) (hX0 : VsO W w.heap.size (puOf b).v0 x0) (Q : Exit → Act → World → Prop) (t0 t1 t2 t4 t5 t6 t10 t11 t12 t13 t14 t15 t16 t17 t18 t19 t20 t21 t22 t23 t24 t25 t26 t27 t28 t29 t30 t31 t32 t33 t34 t35 t36 t37 t38 t39 t40 t41 t42 t43 t44 t45 t46 t47 t48 t49 t50 t51 t52 t53 t54 t55 t56 t57 t58 t59 t60 t61 t62 t63 t64 t65 t66 t67 t68 t69 t70 t71 t72 t73 t74 t75 t76 t77 t78 t79 t80 t81 t82 t83 t84 t85 t86 t87 t88 t89 t90 t91 t92 t93 t94 t95 t96 t97 t98 t99 t100 t101 t102 t103 : Value)
    (hQ : ∀ d v c a w, Q (.panic c) (Act.put a d v) w → Q (.panic c) a w)
    (hK : ∀ (u38 u39 u40 u41 u42 u43 u44 u45 u46 u47 u48 u49 u50 u51 u52 u53 u54 u55 u56 u57 u58 u59 u60 u61 u62 u63 u64 u65 u66 u67 u68 u69 : Value) (v' : VsM) (W9 : World), VsO W9 w.heap.size (puOf b).v1 v' ∧ Blk W9 g 98 (vwc who c0 ((puOf b).v1.cells v') h tl).toArray ∧ RoC w cs W9 ∧ VsO W9 w.heap.size (puOf b).v0 x0 → Q .normal ⟨#[t0, t1, t2, .pointer (some ⟨w.heap.size, 0, none⟩), t4, t5, t6, .pointer (some ⟨g, 0, none⟩), .int .i64 k, .pointer (some ⟨gS, 0, none⟩), t10, t11, t12, t13, t14, t15, t16, t17, t18, t19, t20, t21, t22, t23, t24, t25, t26, t27, t28, t29, t30, t31, t32, t33, t34, t35, t36, t37, u38, u39, u40, u41, u42, u43, u44, u45, u46, u47, u48, u49, u50, u51, u52, u53, u54, u55, u56, u57, u58, u59, u60, u61, u62, u63, u64, u65, u66, u67, u68, u69, t70, t71, t72, t73, t74, t75, t76, t77, t78, t79, t80, t81, t82, t83, t84, t85, t86, t87, t88, t89, t90, t91, t92, t93, t94, t95, t96, t97, t98, t99, t100, t101, t102, t103], []⟩ W9) :
    Code.wp Tryz.prog (regOf Tryz.f41 6) Q ⟨#[t0, t1, t2, .pointer (some ⟨w.heap.size, 0, none⟩), t4, t5, t6, .pointer (some ⟨g, 0, none⟩), .int .i64 k, .pointer (some ⟨gS, 0, none⟩), t10, t11, t12, t13, t14, t15, t16, t17, t18, t19, t20, t21, t22, t23, t24, t25, t26, t27, t28, t29, t30, t31, t32, t33, t34, t35, t36, t37, t38, t39, t40, t41, t42, t43, t44, t45, t46, t47, t48, t49, t50, t51, t52, t53, t54, t55, t56, t57, t58, t59, t60, t61, t62, t63, t64, t65, t66, t67, t68, t69, t70, t71, t72, t73, t74, t75, t76, t77, t78, t79, t80, t81, t82, t83, t84, t85, t86, t87, t88, t89, t90, t91, t92, t93, t94, t95, t96, t97, t98, t99, t100, t101, t102, t103], []⟩ W := by
  have HKK := Lib.hid hK
  clear hK
  conv => arg 2; whnf
  subst hk
  obtain ⟨⟨LA, Lc⟩, hmL⟩ : ∃ x, m.m1.L = x := ⟨_, rfl⟩
  obtain ⟨nl, hnl⟩ : ∃ x, b.s1.lib.length = x := ⟨_, rfl⟩
  obtain ⟨⟨HA, Hc⟩, hmH⟩ : ∃ x, m.m1.H = x := ⟨_, rfl⟩
  obtain ⟨nh, hnh⟩ : ∃ x, b.s1.hand.length = x := ⟨_, rfl⟩
  obtain ⟨⟨FA, Fc⟩, hmF⟩ : ∃ x, m.m1.F = x := ⟨_, rfl⟩
  obtain ⟨nf, hnf⟩ : ∃ x, b.s1.fld.length = x := ⟨_, rfl⟩
  obtain ⟨⟨GA, Gc⟩, hmG⟩ : ∃ x, m.m1.G = x := ⟨_, rfl⟩
  obtain ⟨ng, hng⟩ : ∃ x, b.s1.grv.length = x := ⟨_, rfl⟩
  have hsx := hsm.s1
  have hse := hR.s1
  have HVS : Hid ((puOf b).v1 = vsOf b.objs b.s1) := Lib.hid rfl
  have HC : Hid (∀ W' (s : Sl) (ids : List Int) (n : Nat), RoC w cs W' → LsR w s ids → (∀ i ∈ ids, ∃ o ∈ b.objs, o.id = i) → ids.length ≤ 500 → ids.length = n → Calls Tryz.prog 75 #[.agg cs, .slice s.A n s.c] W' (SobEnd b.objs ids W')) := Lib.hid (fun W' s ids n hc hl hall hn e => by
    rw [← e, ← hcs]
    exact robjs_any b m s ids W' (hR.below hc.bel) hp (hl.below hc.bel).row hall hn)
  have HLB : Hid (∀ W', Blk W' w.heap.size 33 cs → (Instr.loadAt 33 (.pointer (some ⟨w.heap.size, 0, none⟩))).run Tryz.prog W' = .ok (.agg cs) W') := Lib.hid (fun W' hW => by
    rw [← hcs] at hW ⊢
    exact board_load hW)
  obtain ⟨se, hseN⟩ : ∃ x, b.s1 = x := ⟨_, rfl⟩
  have hSc : Blk W gS 27 #[Value.int .i64 se.life, .int .i64 se.p0, .int .i64 se.p1, .int .i64 se.p2, .int .i64 se.p3, .slice LA nl Lc, .slice HA nh Hc, .slice FA nf Fc, .slice GA ng Gc, .bool se.emp, .bool se.ply, .bool se.kpt, .int .i64 se.mul, .int .i64 se.act] := by
    have h := hS
    simp only [Se.cells, Sl.v, hmL, hmH, hmF, hmG, hnl, hnh, hnf, hng] at h
    simp only [hseN] at h
    exact h
  rw [hseN] at hse hsx hnl hnh hnf hng HVS
  have HSX := Lib.hid hsx
  have HSE := Lib.hid hse
  have HV := Lib.hid hV
  have HQ := Lib.hid hQ
  have HN := Lib.hid hN
  have HL01 := Lib.hid (And.intro l0 l1)
  have HG := Lib.hid hG
  have HNE := Lib.hid hne
  have HNN := Lib.hid (And.intro hnl (And.intro hnh (And.intro hnf hng)))
  have HMM := Lib.hid (And.intro hmF hmG)
  have HSC := Lib.hid hSc
  have hne_ : Nonempty (In (fun W' => Blk W' gS 27 #[Value.int .i64 se.life, .int .i64 se.p0, .int .i64 se.p1, .int .i64 se.p2, .int .i64 se.p3, .slice LA nl Lc, .slice HA nh Hc, .slice FA nf Fc, .slice GA ng Gc, .bool se.emp, .bool se.ply, .bool se.kpt, .int .i64 se.mul, .int .i64 se.act] ∧ Blk W' w.heap.size 33 cs)) := ⟨⟨W, hSc, hV.box⟩⟩
  have hgS := hSc.lt
  have hbx := hV.box.lt
  have HLQ : Hid (∀ W', (∃ s : In (fun W' => Blk W' gS 27 #[Value.int .i64 se.life, .int .i64 se.p0, .int .i64 se.p1, .int .i64 se.p2, .int .i64 se.p3, .slice LA nl Lc, .slice HA nh Hc, .slice FA nf Fc, .slice GA ng Gc, .bool se.emp, .bool se.ply, .bool se.kpt, .int .i64 se.mul, .int .i64 se.act] ∧ Blk W' w.heap.size 33 cs), W' = s.W) → (Instr.loadAt 33 (.pointer (some ⟨w.heap.size, 0, none⟩))).run Tryz.prog W' = .ok (.agg cs) W') := Lib.hid (fun W' hW => by
    obtain ⟨s, rfl⟩ := hW
    exact HLB.out _ s.h.2)
  have x0 : ∀ s : In (fun W' => Blk W' gS 27 #[Value.int .i64 se.life, .int .i64 se.p0, .int .i64 se.p1, .int .i64 se.p2, .int .i64 se.p3, .slice LA nl Lc, .slice HA nh Hc, .slice FA nf Fc, .slice GA ng Gc, .bool se.emp, .bool se.ply, .bool se.kpt, .int .i64 se.mul, .int .i64 se.act] ∧ Blk W' w.heap.size 33 cs), s.W.cell? ⟨gS, 0, none⟩ = some (.int .i64 se.life) := fun s => (s.h.1.at_ 0).trans rfl
  have x1 : ∀ s : In (fun W' => Blk W' gS 27 #[Value.int .i64 se.life, .int .i64 se.p0, .int .i64 se.p1, .int .i64 se.p2, .int .i64 se.p3, .slice LA nl Lc, .slice HA nh Hc, .slice FA nf Fc, .slice GA ng Gc, .bool se.emp, .bool se.ply, .bool se.kpt, .int .i64 se.mul, .int .i64 se.act] ∧ Blk W' w.heap.size 33 cs), s.W.cell? ⟨gS, 1, none⟩ = some (.int .i64 se.p0) := fun s => (s.h.1.at_ 1).trans rfl
  have x2 : ∀ s : In (fun W' => Blk W' gS 27 #[Value.int .i64 se.life, .int .i64 se.p0, .int .i64 se.p1, .int .i64 se.p2, .int .i64 se.p3, .slice LA nl Lc, .slice HA nh Hc, .slice FA nf Fc, .slice GA ng Gc, .bool se.emp, .bool se.ply, .bool se.kpt, .int .i64 se.mul, .int .i64 se.act] ∧ Blk W' w.heap.size 33 cs), s.W.cell? ⟨gS, 2, none⟩ = some (.int .i64 se.p1) := fun s => (s.h.1.at_ 2).trans rfl
  have x3 : ∀ s : In (fun W' => Blk W' gS 27 #[Value.int .i64 se.life, .int .i64 se.p0, .int .i64 se.p1, .int .i64 se.p2, .int .i64 se.p3, .slice LA nl Lc, .slice HA nh Hc, .slice FA nf Fc, .slice GA ng Gc, .bool se.emp, .bool se.ply, .bool se.kpt, .int .i64 se.mul, .int .i64 se.act] ∧ Blk W' w.heap.size 33 cs), s.W.cell? ⟨gS, 3, none⟩ = some (.int .i64 se.p2) := fun s => (s.h.1.at_ 3).trans rfl
  have x4 : ∀ s : In (fun W' => Blk W' gS 27 #[Value.int .i64 se.life, .int .i64 se.p0, .int .i64 se.p1, .int .i64 se.p2, .int .i64 se.p3, .slice LA nl Lc, .slice HA nh Hc, .slice FA nf Fc, .slice GA ng Gc, .bool se.emp, .bool se.ply, .bool se.kpt, .int .i64 se.mul, .int .i64 se.act] ∧ Blk W' w.heap.size 33 cs), s.W.cell? ⟨gS, 4, none⟩ = some (.int .i64 se.p3) := fun s => (s.h.1.at_ 4).trans rfl
  have x5 : ∀ s : In (fun W' => Blk W' gS 27 #[Value.int .i64 se.life, .int .i64 se.p0, .int .i64 se.p1, .int .i64 se.p2, .int .i64 se.p3, .slice LA nl Lc, .slice HA nh Hc, .slice FA nf Fc, .slice GA ng Gc, .bool se.emp, .bool se.ply, .bool se.kpt, .int .i64 se.mul, .int .i64 se.act] ∧ Blk W' w.heap.size 33 cs), s.W.cell? ⟨gS, 5, none⟩ = some (.slice LA nl Lc) := fun s => (s.h.1.at_ 5).trans rfl
  have x6 : ∀ s : In (fun W' => Blk W' gS 27 #[Value.int .i64 se.life, .int .i64 se.p0, .int .i64 se.p1, .int .i64 se.p2, .int .i64 se.p3, .slice LA nl Lc, .slice HA nh Hc, .slice FA nf Fc, .slice GA ng Gc, .bool se.emp, .bool se.ply, .bool se.kpt, .int .i64 se.mul, .int .i64 se.act] ∧ Blk W' w.heap.size 33 cs), s.W.cell? ⟨gS, 6, none⟩ = some (.slice HA nh Hc) := fun s => (s.h.1.at_ 6).trans rfl
  have x7 : ∀ s : In (fun W' => Blk W' gS 27 #[Value.int .i64 se.life, .int .i64 se.p0, .int .i64 se.p1, .int .i64 se.p2, .int .i64 se.p3, .slice LA nl Lc, .slice HA nh Hc, .slice FA nf Fc, .slice GA ng Gc, .bool se.emp, .bool se.ply, .bool se.kpt, .int .i64 se.mul, .int .i64 se.act] ∧ Blk W' w.heap.size 33 cs), s.W.cell? ⟨gS, 7, none⟩ = some (.slice FA nf Fc) := fun s => (s.h.1.at_ 7).trans rfl
  have x8 : ∀ s : In (fun W' => Blk W' gS 27 #[Value.int .i64 se.life, .int .i64 se.p0, .int .i64 se.p1, .int .i64 se.p2, .int .i64 se.p3, .slice LA nl Lc, .slice HA nh Hc, .slice FA nf Fc, .slice GA ng Gc, .bool se.emp, .bool se.ply, .bool se.kpt, .int .i64 se.mul, .int .i64 se.act] ∧ Blk W' w.heap.size 33 cs), s.W.cell? ⟨gS, 8, none⟩ = some (.slice GA ng Gc) := fun s => (s.h.1.at_ 8).trans rfl
  have x9 : ∀ s : In (fun W' => Blk W' gS 27 #[Value.int .i64 se.life, .int .i64 se.p0, .int .i64 se.p1, .int .i64 se.p2, .int .i64 se.p3, .slice LA nl Lc, .slice HA nh Hc, .slice FA nf Fc, .slice GA ng Gc, .bool se.emp, .bool se.ply, .bool se.kpt, .int .i64 se.mul, .int .i64 se.act] ∧ Blk W' w.heap.size 33 cs), s.W.cell? ⟨gS, 9, none⟩ = some (.bool se.emp) := fun s => (s.h.1.at_ 9).trans rfl
  have x10 : ∀ s : In (fun W' => Blk W' gS 27 #[Value.int .i64 se.life, .int .i64 se.p0, .int .i64 se.p1, .int .i64 se.p2, .int .i64 se.p3, .slice LA nl Lc, .slice HA nh Hc, .slice FA nf Fc, .slice GA ng Gc, .bool se.emp, .bool se.ply, .bool se.kpt, .int .i64 se.mul, .int .i64 se.act] ∧ Blk W' w.heap.size 33 cs), s.W.cell? ⟨gS, 10, none⟩ = some (.bool se.ply) := fun s => (s.h.1.at_ 10).trans rfl
  have x11 : ∀ s : In (fun W' => Blk W' gS 27 #[Value.int .i64 se.life, .int .i64 se.p0, .int .i64 se.p1, .int .i64 se.p2, .int .i64 se.p3, .slice LA nl Lc, .slice HA nh Hc, .slice FA nf Fc, .slice GA ng Gc, .bool se.emp, .bool se.ply, .bool se.kpt, .int .i64 se.mul, .int .i64 se.act] ∧ Blk W' w.heap.size 33 cs), s.W.cell? ⟨gS, 11, none⟩ = some (.bool se.kpt) := fun s => (s.h.1.at_ 11).trans rfl
  have x12 : ∀ s : In (fun W' => Blk W' gS 27 #[Value.int .i64 se.life, .int .i64 se.p0, .int .i64 se.p1, .int .i64 se.p2, .int .i64 se.p3, .slice LA nl Lc, .slice HA nh Hc, .slice FA nf Fc, .slice GA ng Gc, .bool se.emp, .bool se.ply, .bool se.kpt, .int .i64 se.mul, .int .i64 se.act] ∧ Blk W' w.heap.size 33 cs), s.W.cell? ⟨gS, 12, none⟩ = some (.int .i64 se.mul) := fun s => (s.h.1.at_ 12).trans rfl
  have x13 : ∀ s : In (fun W' => Blk W' gS 27 #[Value.int .i64 se.life, .int .i64 se.p0, .int .i64 se.p1, .int .i64 se.p2, .int .i64 se.p3, .slice LA nl Lc, .slice HA nh Hc, .slice FA nf Fc, .slice GA ng Gc, .bool se.emp, .bool se.ply, .bool se.kpt, .int .i64 se.mul, .int .i64 se.act] ∧ Blk W' w.heap.size 33 cs), s.W.cell? ⟨gS, 13, none⟩ = some (.int .i64 se.act) := fun s => (s.h.1.at_ 13).trans rfl
  clear hne hQ hcs hR hp hsm hV hS hSc hse hsx hmL hmH hmF hmG hnl hnh hnf hng hseN hN l0 l1 hG
  have HX0 := Lib.hid hX0
  clear hX0
  refine wp_region_sched (fun w' => ∃ s : In (fun W' => Blk W' gS 27 #[Value.int .i64 se.life, .int .i64 se.p0, .int .i64 se.p1, .int .i64 se.p2, .int .i64 se.p3, .slice LA nl Lc, .slice HA nh Hc, .slice FA nf Fc, .slice GA ng Gc, .bool se.emp, .bool se.ply, .bool se.kpt, .int .i64 se.mul, .int .i64 se.act] ∧ Blk W' w.heap.size 33 cs), w' = s.W) [0,1,2,3,4,5,6,7,8,9,10,11,12,13,15,16,17,19,20,21,22,23,24,25,26,27,28,30] (.one 14 [] (.one 18 [29,31] (.one 32 [] .done))) (by kernel_rfl) (by kernel_rfl) HQ.out ⟨⟨_, ⟨HSC.out.drew, HV.out.box.drew⟩⟩, rfl⟩ ?_
  refine quiet_as (C' := (fun w' => ∃ s : In (fun W' => Blk W' gS 27 #[Value.int .i64 se.life, .int .i64 se.p0, .int .i64 se.p1, .int .i64 se.p2, .int .i64 se.p3, .slice LA nl Lc, .slice HA nh Hc, .slice FA nf Fc, .slice GA ng Gc, .bool se.emp, .bool se.ply, .bool se.kpt, .int .i64 se.mul, .int .i64 se.act] ∧ Blk W' w.heap.size 33 cs), w' = s.W)) rfl ?_
  simp only [opsAt, List.getElem?_toArray, List.getElem?_cons_succ, List.getElem?_cons_zero]
  repeat (first | (refine wpQuiet_load_by HLQ.out ⟨_, ⟨⟨_, HSC.out, HV.out.box⟩, rfl⟩⟩ rfl rfl rfl ?_; simp only [Act.put, List.setIfInBounds_toArray, List.set_cons_succ, List.set_cons_zero]) | go_big_quiet_step (fail))
  refine wpQuiet_nil ?_
  obtain ⟨W_d, hwd⟩ : ∃ v, W.drew = v := ⟨_, rfl⟩
  have HBW_1 : Hid (Below w.heap.size w W_d) := Lib.hid (by rw [← hwd]; exact (HV.out.bel).drew)
  have HBR_1 : Hid (Below W.heap.size W W_d) := Lib.hid (by rw [← hwd]; exact (Below.refl _ _).drew)
  have VC_1 := Lib.hid ((HV.out).below (show Below W.heap.size W W_d by rw [← hwd]; exact (Below.refl _ _).drew))
  have SB_1 := Lib.hid ((HSC.out).call (show Below W.heap.size W W_d by rw [← hwd]; exact (Below.refl _ _).drew))
  have GB_1 := Lib.hid ((HG.out).call (show Below W.heap.size W W_d by rw [← hwd]; exact (Below.refl _ _).drew))
  have FV_1 := Lib.hid ((HX0.out).below (show Below W.heap.size W W_d by rw [← hwd]; exact (Below.refl _ _).drew))
  rw [hwd]
  clear hwd
  refine eff_as (C' := (fun w' => ∃ s : In (fun W' => Blk W' gS 27 #[Value.int .i64 se.life, .int .i64 se.p0, .int .i64 se.p1, .int .i64 se.p2, .int .i64 se.p3, .slice LA nl Lc, .slice HA nh Hc, .slice FA nf Fc, .slice GA ng Gc, .bool se.emp, .bool se.ply, .bool se.kpt, .int .i64 se.mul, .int .i64 se.act] ∧ Blk W' w.heap.size 33 cs), w' = s.W)) rfl ?_
  (refine eff_lit rfl rfl (fun K hK => ?_))
  go_big_op
  refine (HC.out W_d ⟨FA, Fc⟩ se.fld nf VC_1.out (by have h := HSE.out.F; rw [HMM.out.1] at h; exact h) HSX.out.Fi HSX.out.F HNN.out.2.2.1).mono ?_
  rintro e W_2 ⟨A1, e1, rfl, hx, hbW_2⟩
  have FF_3 := Lib.hid (hx.more HBW_1.out.size)
  have HBW_3 := Lib.hid (below_call HBW_1.out hbW_2 HBW_1.out.size)
  clear HBW_1
  have HBR_3 := Lib.hid (below_call HBR_1.out hbW_2 HBR_1.out.size)
  clear HBR_1
  have VC_3 := Lib.hid (VC_1.out.below hbW_2)
  clear VC_1
  have SB_3 := Lib.hid (SB_1.out.call hbW_2)
  clear SB_1
  have GB_3 := Lib.hid (GB_1.out.call hbW_2)
  clear GB_1
  have FV_3 := Lib.hid (FV_1.out.below hbW_2)
  clear FV_1
  clear hbW_2
  clear hx
  refine hK _ _ ⟨⟨_, ⟨SB_3.out, VC_3.out.box⟩⟩, rfl⟩ ?_
  clear hK K
  try simp only [opsAt, List.getElem?_toArray, List.getElem?_cons_succ, List.getElem?_cons_zero]
  refine wpQuiet_nil ?_
  refine eff_as (C' := (fun w' => ∃ s : In (fun W' => Blk W' gS 27 #[Value.int .i64 se.life, .int .i64 se.p0, .int .i64 se.p1, .int .i64 se.p2, .int .i64 se.p3, .slice LA nl Lc, .slice HA nh Hc, .slice FA nf Fc, .slice GA ng Gc, .bool se.emp, .bool se.ply, .bool se.kpt, .int .i64 se.mul, .int .i64 se.act] ∧ Blk W' w.heap.size 33 cs), w' = s.W)) rfl ?_
  (refine eff_lit rfl rfl (fun K hK => ?_))
  go_big_op
  refine (HC.out W_2 ⟨GA, Gc⟩ se.grv ng VC_3.out (by have h := HSE.out.G; rw [HMM.out.2] at h; exact h) HSX.out.Gi HSX.out.G HNN.out.2.2.2).mono ?_
  rintro e W_4 ⟨A2, e2, rfl, hx, hbW_4⟩
  have FG_5 := Lib.hid (hx.more HBW_3.out.size)
  have HBW_5 := Lib.hid (below_call HBW_3.out hbW_4 HBW_3.out.size)
  clear HBW_3
  have HBR_5 := Lib.hid (below_call HBR_3.out hbW_4 HBR_3.out.size)
  clear HBR_3
  have VC_5 := Lib.hid (VC_3.out.below hbW_4)
  clear VC_3
  have SB_5 := Lib.hid (SB_3.out.call hbW_4)
  clear SB_3
  have GB_5 := Lib.hid (GB_3.out.call hbW_4)
  clear GB_3
  have FV_5 := Lib.hid (FV_3.out.below hbW_4)
  clear FV_3
  have FF_5 := Lib.hid (FF_3.out.below hbW_4)
  clear FF_3
  clear hbW_4
  clear hx
  refine hK _ _ ⟨⟨_, ⟨SB_5.out, VC_5.out.box⟩⟩, rfl⟩ ?_
  clear hK K
  try simp only [opsAt, List.getElem?_toArray, List.getElem?_cons_succ, List.getElem?_cons_zero]
  repeat (first | (refine wpQuiet_load_by HLQ.out ⟨_, ⟨⟨_, HSC.out, HV.out.box⟩, rfl⟩⟩ rfl rfl rfl ?_; simp only [Act.put, List.setIfInBounds_toArray, List.set_cons_succ, List.set_cons_zero]) | go_big_quiet_step (fail))
  refine wpQuiet_nil ?_
  refine eff_as (C' := (fun w' => ∃ s : In (fun W' => Blk W' gS 27 #[Value.int .i64 se.life, .int .i64 se.p0, .int .i64 se.p1, .int .i64 se.p2, .int .i64 se.p3, .slice LA nl Lc, .slice HA nh Hc, .slice FA nf Fc, .slice GA ng Gc, .bool se.emp, .bool se.ply, .bool se.kpt, .int .i64 se.mul, .int .i64 se.act] ∧ Blk W' w.heap.size 33 cs), w' = s.W)) rfl ?_
  (refine eff_lit rfl rfl (fun K hK => ?_))
  obtain ⟨W_6, hrun, hk9, hg9⟩ := GB_5.out.storeMid (ty := 95) 15 [Value.int .i64 se.life, .int .i64 se.p0, .int .i64 se.p1, .int .i64 se.p2, .int .i64 se.p3, .int .i64 nl, .int .i64 nh, .slice A1 se.fld.length e1, .slice A2 se.grv.length e2, .bool se.emp, .bool se.ply, .bool se.kpt, .int .i64 se.mul, .int .i64 se.act] (by rw [vwc_len _ _ _ _ _ HL01.out.1 HL01.out.2]; simp; omega) (by rw [size_vseat]; rfl) (by simp [Value.oneCell'])
  refine wp_store_by hrun rfl rfl rfl ?_
  simp only [Act.put, List.setIfInBounds_toArray, List.set_cons_succ, List.set_cons_zero]
  clear hrun
  rw [vwc_set1 _ _ _ _ _ _ HL01.out.1 HL01.out.2 rfl] at hk9
  have hN9 := HN.out
  have HBW_7 := Lib.hid (HBW_5.out.grown hg9 HBW_5.out.size (fun q hq => by injection hq with hq; omega))
  clear HBW_5
  have VC_7 := Lib.hid (VC_5.out.store hg9 hN9)
  clear VC_5
  have SB_7 := Lib.hid (SB_5.out.grown hg9 (fun e => by injection e with e; exact HNE.out e))
  clear SB_5
  have FV_7 := Lib.hid (FV_5.out.blk GB_5.out hg9 off_view)
  clear FV_5
  have FF_7 := Lib.hid (FF_5.out.blk_ GB_5.out hg9 (by decide))
  clear FF_5
  have FG_7 := Lib.hid (FG_5.out.blk_ GB_5.out hg9 (by decide))
  clear FG_5
  have HK9 := Lib.hid hk9
  clear hk9 hg9 hN9
  refine hK _ _ ⟨⟨_, ⟨SB_7.out, VC_7.out.box⟩⟩, rfl⟩ ?_
  clear hK K
  try simp only [opsAt, List.getElem?_toArray, List.getElem?_cons_succ, List.getElem?_cons_zero]
  refine wpQuiet_nil ?_
  refine effs_done ?_
  have hl2 : ((puOf b).v1.cells ⟨⟨A1, e1⟩, ⟨A2, e2⟩⟩) = [Value.int .i64 se.life, .int .i64 se.p0, .int .i64 se.p1, .int .i64 se.p2, .int .i64 se.p3, .int .i64 nl, .int .i64 nh, .slice A1 se.fld.length e1, .slice A2 se.grv.length e2, .bool se.emp, .bool se.ply, .bool se.kpt, .int .i64 se.mul, .int .i64 se.act] := by
    rw [HVS.out]
    simp only [vsOf, Vs.cells, Sl.v, List.length_map]
    rw [HNN.out.1, HNN.out.2.1]
  rw [← hl2] at HK9
  refine HKK.out _ _ _ _ _ _ _ _ _ _ _ _ _ _ _ _ _ _ _ _ _ _ _ _ _ _ _ _ _ _ _ _ ⟨⟨A1, e1⟩, ⟨A2, e2⟩⟩ _ ⟨?_, HK9.out, VC_7.out, FV_7.out⟩
  rw [HVS.out]
  refine ⟨?_, ?_⟩
  · show XOwns _ _ _ _ _ (se.fld.map (obI b.objs)).length _ _
    rw [List.length_map]
    exact FF_7.out
  · show XOwns _ _ _ _ _ (se.grv.map (obI b.objs)).length _ _
    rw [List.length_map]
    exact FG_7.out

theorem vwc_hand (who : Int) (c0 c1 tl : List Value) (h : Value) (l0 : c0.length = 14) (l1 : c1.length = 14) : (vwc who c0 c1 h tl).toArray[29]? = some h := by
  unfold vwc
  rw [List.getElem?_toArray, show 29 = 28 + 1 from rfl, List.getElem?_cons_succ, List.getElem?_append_right (by omega), List.getElem?_append_right (by omega), l0, l1]
  rfl
theorem vwc_seth (who : Int) (c0 c1 tl : List Value) (h h' : Value) (l0 : c0.length = 14) (l1 : c1.length = 14) : (vwc who c0 c1 h tl).toArray.setIfInBounds 29 h' = (vwc who c0 c1 h' tl).toArray := by
  unfold vwc
  rw [List.setIfInBounds_toArray, show 29 = 28 + 1 from rfl, List.set_cons_succ, List.set_append_right _ _ (by omega), List.set_append_right _ _ (by omega), l0, l1]
  rfl
set_option maxRecDepth 100000 in
set_option maxHeartbeats 3200000 in
theorem rof_hand0 (k : Nat) (hk : k = 0) (w W : World) (b : Bd) (m : BdM) (cs : Array Value) (hcs : (b.cells m).toArray = cs) (hR : BdR w b m) (hp : plcP b) (hsm : BdSm b) (hV : RoC w cs W) (g : Nat) (who : Int) (c0 c1 tl : List Value) (h : Value) (l0 : c0.length = 14) (l1 : c1.length = 14) (hG : Blk W g 98 (vwc who c0 c1 h tl).toArray) (hN : w.heap.size + 2 < g) (x0 x1 : VsM) (hX0 : VsO W w.heap.size (puOf b).v0 x0) (hX1 : VsO W w.heap.size (puOf b).v1 x1) (Q : Exit → Act → World → Prop) (t0 t1 t4 t5 t6 t8 t9 t10 t11 t12 t13 t14 t15 t16 t17 t18 t19 t20 t21 t22 t23 t24 t25 t26 t27 t28 t29 t30 t31 t32 t33 t34 t35 t36 t37 t38 t39 t40 t41 t42 t43 t44 t45 t46 t47 t48 t49 t50 t51 t52 t53 t54 t55 t56 t57 t58 t59 t60 t61 t62 t63 t64 t65 t66 t67 t68 t69 t70 t71 t72 t73 t74 t75 t76 t77 t78 t79 t80 t81 t82 t83 t84 t85 t86 t87 t88 t89 t90 t91 t92 t93 t94 t95 t96 t97 t98 t99 t100 t101 t102 t103 : Value)
    (hQ : ∀ d v c a w, Q (.panic c) (Act.put a d v) w → Q (.panic c) a w)
    (hK : ∀ (u70 u71 u72 u73 u74 u75 u76 u77 : Value) (A : Option Addr) (c : Nat) (W9 : World), Blk W9 g 98 (vwc who c0 c1 (.slice A b.s0.hand.length c) tl).toArray ∧ XOwns W9 w.heap.size 46 12 A b.s0.hand.length c (ocs (b.s0.hand.map (obI b.objs))) ∧ RoC w cs W9 ∧ VsO W9 w.heap.size (puOf b).v0 x0 ∧ VsO W9 w.heap.size (puOf b).v1 x1 → Q .normal ⟨#[t0, t1, .int .i64 k, .pointer (some ⟨w.heap.size, 0, none⟩), t4, t5, t6, .pointer (some ⟨g, 0, none⟩), t8, t9, t10, t11, t12, t13, t14, t15, t16, t17, t18, t19, t20, t21, t22, t23, t24, t25, t26, t27, t28, t29, t30, t31, t32, t33, t34, t35, t36, t37, t38, t39, t40, t41, t42, t43, t44, t45, t46, t47, t48, t49, t50, t51, t52, t53, t54, t55, t56, t57, t58, t59, t60, t61, t62, t63, t64, t65, t66, t67, t68, t69, u70, u71, u72, u73, u74, u75, u76, u77, t78, t79, t80, t81, t82, t83, t84, t85, t86, t87, t88, t89, t90, t91, t92, t93, t94, t95, t96, t97, t98, t99, t100, t101, t102, t103], []⟩ W9) :
    Code.wp Tryz.prog (regOf Tryz.f41 7) Q ⟨#[t0, t1, .int .i64 k, .pointer (some ⟨w.heap.size, 0, none⟩), t4, t5, t6, .pointer (some ⟨g, 0, none⟩), t8, t9, t10, t11, t12, t13, t14, t15, t16, t17, t18, t19, t20, t21, t22, t23, t24, t25, t26, t27, t28, t29, t30, t31, t32, t33, t34, t35, t36, t37, t38, t39, t40, t41, t42, t43, t44, t45, t46, t47, t48, t49, t50, t51, t52, t53, t54, t55, t56, t57, t58, t59, t60, t61, t62, t63, t64, t65, t66, t67, t68, t69, t70, t71, t72, t73, t74, t75, t76, t77, t78, t79, t80, t81, t82, t83, t84, t85, t86, t87, t88, t89, t90, t91, t92, t93, t94, t95, t96, t97, t98, t99, t100, t101, t102, t103], []⟩ W := by
  have HKK := Lib.hid hK
  clear hK
  conv => arg 2; whnf
  subst hk
  obtain ⟨⟨HA, Hc⟩, hmH⟩ : ∃ x, m.m0.H = x := ⟨_, rfl⟩
  obtain ⟨hs, hhs⟩ : ∃ x, b.s0.hand = x := ⟨_, rfl⟩
  obtain ⟨nh, hnh⟩ : ∃ x, hs.length = x := ⟨_, rfl⟩
  have hc7 : cs[7]? = some (.slice HA nh Hc) := by
    rw [← hcs]
    show some (m.m0.H.v b.s0.hand.length) = _
    rw [hmH, hhs, hnh]
    rfl
  have hsx := hsm.s0
  have hse := hR.s0.H
  have hHi := hsx.Hi
  have hH5 := hsx.H
  rw [hhs] at hse hHi hH5 HKK
  rw [hnh] at HKK
  rw [hmH] at hse
  have HC : Hid (∀ W' (s : Sl) (ids : List Int) (n : Nat), RoC w cs W' → LsR w s ids → (∀ i ∈ ids, ∃ o ∈ b.objs, o.id = i) → ids.length ≤ 500 → ids.length = n → Calls Tryz.prog 75 #[.agg cs, .slice s.A n s.c] W' (SobEnd b.objs ids W')) := Lib.hid (fun W' s ids n hc hl hall hn e => by
    rw [← e, ← hcs]
    exact robjs_any b m s ids W' (hR.below hc.bel) hp (hl.below hc.bel).row hall hn)
  have HLB : Hid (∀ W', Blk W' w.heap.size 33 cs → (Instr.loadAt 33 (.pointer (some ⟨w.heap.size, 0, none⟩))).run Tryz.prog W' = .ok (.agg cs) W') := Lib.hid (fun W' hW => by
    rw [← hcs] at hW ⊢
    exact board_load hW)
  have HSE := Lib.hid hse
  have HSX := Lib.hid (And.intro hHi (And.intro hH5 hnh))
  have HV := Lib.hid hV
  have HQ := Lib.hid hQ
  have HN := Lib.hid hN
  have HL01 := Lib.hid (And.intro l0 l1)
  have HG := Lib.hid hG
  have HX0 := Lib.hid hX0
  have HX1 := Lib.hid hX1
  have hne_ : Nonempty (In (fun W' => Blk W' w.heap.size 33 cs)) := ⟨⟨W, hV.box⟩⟩
  have hbx := hV.box.lt
  have x9 : ∀ s : In (fun W' => Blk W' w.heap.size 33 cs), s.W.cell? ⟨w.heap.size, 7, none⟩ = some (.slice HA nh Hc) := fun s => (s.h.at_ 7).trans hc7
  have HLQ : Hid (∀ W', (∃ s : In (fun W' => Blk W' w.heap.size 33 cs), W' = s.W) → (Instr.loadAt 33 (.pointer (some ⟨w.heap.size, 0, none⟩))).run Tryz.prog W' = .ok (.agg cs) W') := Lib.hid (fun W' hW => by
    obtain ⟨s, rfl⟩ := hW
    exact HLB.out _ s.h)
  clear hQ hcs hR hp hsm hV hse hsx hmH hnh hhs hN l0 l1 hG hX0 hX1 hHi hH5
  refine wp_region_sched (fun w' => ∃ s : In (fun W' => Blk W' w.heap.size 33 cs), w' = s.W) [0,1,2,3,4,5] (.one 6 [7] (.one 8 [] .done)) (by kernel_rfl) (by kernel_rfl) HQ.out ⟨⟨_, HV.out.box.drew⟩, rfl⟩ ?_
  refine quiet_as (C' := (fun w' => ∃ s : In (fun W' => Blk W' w.heap.size 33 cs), w' = s.W)) rfl ?_
  simp only [opsAt, List.getElem?_toArray, List.getElem?_cons_succ, List.getElem?_cons_zero]
  repeat (first | (refine wpQuiet_load_by HLQ.out ⟨_, ⟨⟨_, HV.out.box⟩, rfl⟩⟩ rfl rfl rfl ?_; simp only [Act.put, List.setIfInBounds_toArray, List.set_cons_succ, List.set_cons_zero]) | go_big_quiet_step (fail))
  refine wpQuiet_nil ?_
  obtain ⟨W_d, hwd⟩ : ∃ v, W.drew = v := ⟨_, rfl⟩
  have HBW_1 : Hid (Below w.heap.size w W_d) := Lib.hid (by rw [← hwd]; exact (HV.out.bel).drew)
  have HBR_1 : Hid (Below W.heap.size W W_d) := Lib.hid (by rw [← hwd]; exact (Below.refl _ _).drew)
  have VC_1 := Lib.hid ((HV.out).below (show Below W.heap.size W W_d by rw [← hwd]; exact (Below.refl _ _).drew))
  have GB_1 := Lib.hid ((HG.out).call (show Below W.heap.size W W_d by rw [← hwd]; exact (Below.refl _ _).drew))
  have F0_1 := Lib.hid ((HX0.out).below (show Below W.heap.size W W_d by rw [← hwd]; exact (Below.refl _ _).drew))
  have F1_1 := Lib.hid ((HX1.out).below (show Below W.heap.size W W_d by rw [← hwd]; exact (Below.refl _ _).drew))
  rw [hwd]
  clear hwd
  refine eff_as (C' := (fun w' => ∃ s : In (fun W' => Blk W' w.heap.size 33 cs), w' = s.W)) rfl ?_
  (refine eff_lit rfl rfl (fun K hK => ?_))
  go_big_op
  refine (HC.out W_d ⟨HA, Hc⟩ hs nh VC_1.out HSE.out HSX.out.1 HSX.out.2.1 HSX.out.2.2).mono ?_
  rintro e W_2 ⟨A1, e1, rfl, hx, hbW_2⟩
  have FF_3 := Lib.hid ((by have h := hx.more HBW_1.out.size; rw [HSX.out.2.2] at h; exact h : XOwns _ w.heap.size 46 12 A1 nh e1 (ocs (hs.map (obI b.objs)))))
  have HBW_3 := Lib.hid (below_call HBW_1.out hbW_2 HBW_1.out.size)
  clear HBW_1
  have HBR_3 := Lib.hid (below_call HBR_1.out hbW_2 HBR_1.out.size)
  clear HBR_1
  have VC_3 := Lib.hid (VC_1.out.below hbW_2)
  clear VC_1
  have GB_3 := Lib.hid (GB_1.out.call hbW_2)
  clear GB_1
  have F0_3 := Lib.hid (F0_1.out.below hbW_2)
  clear F0_1
  have F1_3 := Lib.hid (F1_1.out.below hbW_2)
  clear F1_1
  clear hbW_2
  clear hx
  rw [HSX.out.2.2]
  refine hK _ _ ⟨⟨_, VC_3.out.box⟩, rfl⟩ ?_
  clear hK K
  try simp only [opsAt, List.getElem?_toArray, List.getElem?_cons_succ, List.getElem?_cons_zero]
  repeat (first | (refine wpQuiet_load_by HLQ.out ⟨_, ⟨⟨_, HV.out.box⟩, rfl⟩⟩ rfl rfl rfl ?_; simp only [Act.put, List.setIfInBounds_toArray, List.set_cons_succ, List.set_cons_zero]) | go_big_quiet_step (fail))
  refine wpQuiet_nil ?_
  refine eff_as (C' := (fun w' => ∃ s : In (fun W' => Blk W' w.heap.size 33 cs), w' = s.W)) rfl ?_
  (refine eff_lit rfl rfl (fun K hK => ?_))
  have q9 : W_2.cell? ⟨g, 29, none⟩ = some h := (GB_3.out.at_ 29).trans (vwc_hand _ _ _ _ _ HL01.out.1 HL01.out.2)
  have f9 := GB_3.out.free 29
  have l9 := GB_3.out.lt
  go_big_op
  obtain ⟨W_4, hv9⟩ : ∃ v, W_2.setCell ⟨g, 29, none⟩ (.slice A1 nh e1) = v := ⟨_, rfl⟩
  have hg9 : W_2.grownBy W_4 (some g) := by rw [← hv9]; exact only_setCell (only_refl _ _) (.inl rfl) _
  have hk9 := GB_3.out.put 29 (.slice A1 nh e1)
  rw [vwc_seth _ _ _ _ _ _ HL01.out.1 HL01.out.2, hv9] at hk9
  rw [hv9]
  clear q9 f9 l9 hv9
  have hN9 := HN.out
  have HBW_5 := Lib.hid (HBW_3.out.grown hg9 HBW_3.out.size (fun q hq => by injection hq with hq; omega))
  clear HBW_3
  have VC_5 := Lib.hid (VC_3.out.store hg9 hN9)
  clear VC_3
  have F0_5 := Lib.hid (F0_3.out.blk GB_3.out hg9 off_view)
  clear F0_3
  have F1_5 := Lib.hid (F1_3.out.blk GB_3.out hg9 off_view)
  clear F1_3
  have FF_5 := Lib.hid (FF_3.out.blk_ GB_3.out hg9 (by decide))
  clear FF_3
  have HK9 := Lib.hid hk9
  clear hk9 hg9 hN9
  refine hK _ _ ⟨⟨_, VC_5.out.box⟩, rfl⟩ ?_
  clear hK K
  try simp only [opsAt, List.getElem?_toArray, List.getElem?_cons_succ, List.getElem?_cons_zero]
  refine wpQuiet_nil ?_
  refine effs_done ?_
  refine HKK.out _ _ _ _ _ _ _ _ A1 e1 _ ⟨HK9.out, FF_5.out, VC_5.out, F0_5.out, F1_5.out⟩

set_option maxRecDepth 100000 in
set_option maxHeartbeats 3200000 in
theorem rof_hand1 (k : Nat) (hk : k = 1) (w W : World) (b : Bd) (m : BdM) (cs : Array Value) (hcs : (b.cells m).toArray = cs) (hR : BdR w b m) (hp : plcP b) (hsm : BdSm b) (hV : RoC w cs W) (g : Nat) (who : Int) (c0 c1 tl : List Value) (h : Value) (l0 : c0.length = 14) (l1 : c1.length = 14) (hG : Blk W g 98 (vwc who c0 c1 h tl).toArray) (hN : w.heap.size + 2 < g) (x0 x1 : VsM) (hX0 : VsO W w.heap.size (puOf b).v0 x0) (hX1 : VsO W w.heap.size (puOf b).v1 x1) (Q : Exit → Act → World → Prop) (t0 t1 t4 t5 t6 t8 t9 t10 t11 t12 t13 t14 t15 t16 t17 t18 t19 t20 t21 t22 t23 t24 t25 t26 t27 t28 t29 t30 t31 t32 t33 t34 t35 t36 t37 t38 t39 t40 t41 t42 t43 t44 t45 t46 t47 t48 t49 t50 t51 t52 t53 t54 t55 t56 t57 t58 t59 t60 t61 t62 t63 t64 t65 t66 t67 t68 t69 t70 t71 t72 t73 t74 t75 t76 t77 t78 t79 t80 t81 t82 t83 t84 t85 t86 t87 t88 t89 t90 t91 t92 t93 t94 t95 t96 t97 t98 t99 t100 t101 t102 t103 : Value)
    (hQ : ∀ d v c a w, Q (.panic c) (Act.put a d v) w → Q (.panic c) a w)
    (hK : ∀ (u70 u71 u72 u73 u74 u75 u76 u77 : Value) (A : Option Addr) (c : Nat) (W9 : World), Blk W9 g 98 (vwc who c0 c1 (.slice A b.s1.hand.length c) tl).toArray ∧ XOwns W9 w.heap.size 46 12 A b.s1.hand.length c (ocs (b.s1.hand.map (obI b.objs))) ∧ RoC w cs W9 ∧ VsO W9 w.heap.size (puOf b).v0 x0 ∧ VsO W9 w.heap.size (puOf b).v1 x1 → Q .normal ⟨#[t0, t1, .int .i64 k, .pointer (some ⟨w.heap.size, 0, none⟩), t4, t5, t6, .pointer (some ⟨g, 0, none⟩), t8, t9, t10, t11, t12, t13, t14, t15, t16, t17, t18, t19, t20, t21, t22, t23, t24, t25, t26, t27, t28, t29, t30, t31, t32, t33, t34, t35, t36, t37, t38, t39, t40, t41, t42, t43, t44, t45, t46, t47, t48, t49, t50, t51, t52, t53, t54, t55, t56, t57, t58, t59, t60, t61, t62, t63, t64, t65, t66, t67, t68, t69, u70, u71, u72, u73, u74, u75, u76, u77, t78, t79, t80, t81, t82, t83, t84, t85, t86, t87, t88, t89, t90, t91, t92, t93, t94, t95, t96, t97, t98, t99, t100, t101, t102, t103], []⟩ W9) :
    Code.wp Tryz.prog (regOf Tryz.f41 7) Q ⟨#[t0, t1, .int .i64 k, .pointer (some ⟨w.heap.size, 0, none⟩), t4, t5, t6, .pointer (some ⟨g, 0, none⟩), t8, t9, t10, t11, t12, t13, t14, t15, t16, t17, t18, t19, t20, t21, t22, t23, t24, t25, t26, t27, t28, t29, t30, t31, t32, t33, t34, t35, t36, t37, t38, t39, t40, t41, t42, t43, t44, t45, t46, t47, t48, t49, t50, t51, t52, t53, t54, t55, t56, t57, t58, t59, t60, t61, t62, t63, t64, t65, t66, t67, t68, t69, t70, t71, t72, t73, t74, t75, t76, t77, t78, t79, t80, t81, t82, t83, t84, t85, t86, t87, t88, t89, t90, t91, t92, t93, t94, t95, t96, t97, t98, t99, t100, t101, t102, t103], []⟩ W := by
  have HKK := Lib.hid hK
  clear hK
  conv => arg 2; whnf
  subst hk
  obtain ⟨⟨HA, Hc⟩, hmH⟩ : ∃ x, m.m1.H = x := ⟨_, rfl⟩
  obtain ⟨hs, hhs⟩ : ∃ x, b.s1.hand = x := ⟨_, rfl⟩
  obtain ⟨nh, hnh⟩ : ∃ x, hs.length = x := ⟨_, rfl⟩
  have hc21 : cs[21]? = some (.slice HA nh Hc) := by
    rw [← hcs]
    show some (m.m1.H.v b.s1.hand.length) = _
    rw [hmH, hhs, hnh]
    rfl
  have hsx := hsm.s1
  have hse := hR.s1.H
  have hHi := hsx.Hi
  have hH5 := hsx.H
  rw [hhs] at hse hHi hH5 HKK
  rw [hnh] at HKK
  rw [hmH] at hse
  have HC : Hid (∀ W' (s : Sl) (ids : List Int) (n : Nat), RoC w cs W' → LsR w s ids → (∀ i ∈ ids, ∃ o ∈ b.objs, o.id = i) → ids.length ≤ 500 → ids.length = n → Calls Tryz.prog 75 #[.agg cs, .slice s.A n s.c] W' (SobEnd b.objs ids W')) := Lib.hid (fun W' s ids n hc hl hall hn e => by
    rw [← e, ← hcs]
    exact robjs_any b m s ids W' (hR.below hc.bel) hp (hl.below hc.bel).row hall hn)
  have HLB : Hid (∀ W', Blk W' w.heap.size 33 cs → (Instr.loadAt 33 (.pointer (some ⟨w.heap.size, 0, none⟩))).run Tryz.prog W' = .ok (.agg cs) W') := Lib.hid (fun W' hW => by
    rw [← hcs] at hW ⊢
    exact board_load hW)
  have HSE := Lib.hid hse
  have HSX := Lib.hid (And.intro hHi (And.intro hH5 hnh))
  have HV := Lib.hid hV
  have HQ := Lib.hid hQ
  have HN := Lib.hid hN
  have HL01 := Lib.hid (And.intro l0 l1)
  have HG := Lib.hid hG
  have HX0 := Lib.hid hX0
  have HX1 := Lib.hid hX1
  have hne_ : Nonempty (In (fun W' => Blk W' w.heap.size 33 cs)) := ⟨⟨W, hV.box⟩⟩
  have hbx := hV.box.lt
  have x9 : ∀ s : In (fun W' => Blk W' w.heap.size 33 cs), s.W.cell? ⟨w.heap.size, 21, none⟩ = some (.slice HA nh Hc) := fun s => (s.h.at_ 21).trans hc21
  have HLQ : Hid (∀ W', (∃ s : In (fun W' => Blk W' w.heap.size 33 cs), W' = s.W) → (Instr.loadAt 33 (.pointer (some ⟨w.heap.size, 0, none⟩))).run Tryz.prog W' = .ok (.agg cs) W') := Lib.hid (fun W' hW => by
    obtain ⟨s, rfl⟩ := hW
    exact HLB.out _ s.h)
  clear hQ hcs hR hp hsm hV hse hsx hmH hnh hhs hN l0 l1 hG hX0 hX1 hHi hH5
  refine wp_region_sched (fun w' => ∃ s : In (fun W' => Blk W' w.heap.size 33 cs), w' = s.W) [0,1,2,3,4,5] (.one 6 [7] (.one 8 [] .done)) (by kernel_rfl) (by kernel_rfl) HQ.out ⟨⟨_, HV.out.box.drew⟩, rfl⟩ ?_
  refine quiet_as (C' := (fun w' => ∃ s : In (fun W' => Blk W' w.heap.size 33 cs), w' = s.W)) rfl ?_
  simp only [opsAt, List.getElem?_toArray, List.getElem?_cons_succ, List.getElem?_cons_zero]
  repeat (first | (refine wpQuiet_load_by HLQ.out ⟨_, ⟨⟨_, HV.out.box⟩, rfl⟩⟩ rfl rfl rfl ?_; simp only [Act.put, List.setIfInBounds_toArray, List.set_cons_succ, List.set_cons_zero]) | go_big_quiet_step (fail))
  refine wpQuiet_nil ?_
  obtain ⟨W_d, hwd⟩ : ∃ v, W.drew = v := ⟨_, rfl⟩
  have HBW_1 : Hid (Below w.heap.size w W_d) := Lib.hid (by rw [← hwd]; exact (HV.out.bel).drew)
  have HBR_1 : Hid (Below W.heap.size W W_d) := Lib.hid (by rw [← hwd]; exact (Below.refl _ _).drew)
  have VC_1 := Lib.hid ((HV.out).below (show Below W.heap.size W W_d by rw [← hwd]; exact (Below.refl _ _).drew))
  have GB_1 := Lib.hid ((HG.out).call (show Below W.heap.size W W_d by rw [← hwd]; exact (Below.refl _ _).drew))
  have F0_1 := Lib.hid ((HX0.out).below (show Below W.heap.size W W_d by rw [← hwd]; exact (Below.refl _ _).drew))
  have F1_1 := Lib.hid ((HX1.out).below (show Below W.heap.size W W_d by rw [← hwd]; exact (Below.refl _ _).drew))
  rw [hwd]
  clear hwd
  refine eff_as (C' := (fun w' => ∃ s : In (fun W' => Blk W' w.heap.size 33 cs), w' = s.W)) rfl ?_
  (refine eff_lit rfl rfl (fun K hK => ?_))
  go_big_op
  refine (HC.out W_d ⟨HA, Hc⟩ hs nh VC_1.out HSE.out HSX.out.1 HSX.out.2.1 HSX.out.2.2).mono ?_
  rintro e W_2 ⟨A1, e1, rfl, hx, hbW_2⟩
  have FF_3 := Lib.hid ((by have h := hx.more HBW_1.out.size; rw [HSX.out.2.2] at h; exact h : XOwns _ w.heap.size 46 12 A1 nh e1 (ocs (hs.map (obI b.objs)))))
  have HBW_3 := Lib.hid (below_call HBW_1.out hbW_2 HBW_1.out.size)
  clear HBW_1
  have HBR_3 := Lib.hid (below_call HBR_1.out hbW_2 HBR_1.out.size)
  clear HBR_1
  have VC_3 := Lib.hid (VC_1.out.below hbW_2)
  clear VC_1
  have GB_3 := Lib.hid (GB_1.out.call hbW_2)
  clear GB_1
  have F0_3 := Lib.hid (F0_1.out.below hbW_2)
  clear F0_1
  have F1_3 := Lib.hid (F1_1.out.below hbW_2)
  clear F1_1
  clear hbW_2
  clear hx
  rw [HSX.out.2.2]
  refine hK _ _ ⟨⟨_, VC_3.out.box⟩, rfl⟩ ?_
  clear hK K
  try simp only [opsAt, List.getElem?_toArray, List.getElem?_cons_succ, List.getElem?_cons_zero]
  repeat (first | (refine wpQuiet_load_by HLQ.out ⟨_, ⟨⟨_, HV.out.box⟩, rfl⟩⟩ rfl rfl rfl ?_; simp only [Act.put, List.setIfInBounds_toArray, List.set_cons_succ, List.set_cons_zero]) | go_big_quiet_step (fail))
  refine wpQuiet_nil ?_
  refine eff_as (C' := (fun w' => ∃ s : In (fun W' => Blk W' w.heap.size 33 cs), w' = s.W)) rfl ?_
  (refine eff_lit rfl rfl (fun K hK => ?_))
  have q9 : W_2.cell? ⟨g, 29, none⟩ = some h := (GB_3.out.at_ 29).trans (vwc_hand _ _ _ _ _ HL01.out.1 HL01.out.2)
  have f9 := GB_3.out.free 29
  have l9 := GB_3.out.lt
  go_big_op
  obtain ⟨W_4, hv9⟩ : ∃ v, W_2.setCell ⟨g, 29, none⟩ (.slice A1 nh e1) = v := ⟨_, rfl⟩
  have hg9 : W_2.grownBy W_4 (some g) := by rw [← hv9]; exact only_setCell (only_refl _ _) (.inl rfl) _
  have hk9 := GB_3.out.put 29 (.slice A1 nh e1)
  rw [vwc_seth _ _ _ _ _ _ HL01.out.1 HL01.out.2, hv9] at hk9
  rw [hv9]
  clear q9 f9 l9 hv9
  have hN9 := HN.out
  have HBW_5 := Lib.hid (HBW_3.out.grown hg9 HBW_3.out.size (fun q hq => by injection hq with hq; omega))
  clear HBW_3
  have VC_5 := Lib.hid (VC_3.out.store hg9 hN9)
  clear VC_3
  have F0_5 := Lib.hid (F0_3.out.blk GB_3.out hg9 off_view)
  clear F0_3
  have F1_5 := Lib.hid (F1_3.out.blk GB_3.out hg9 off_view)
  clear F1_3
  have FF_5 := Lib.hid (FF_3.out.blk_ GB_3.out hg9 (by decide))
  clear FF_3
  have HK9 := Lib.hid hk9
  clear hk9 hg9 hN9
  refine hK _ _ ⟨⟨_, VC_5.out.box⟩, rfl⟩ ?_
  clear hK K
  try simp only [opsAt, List.getElem?_toArray, List.getElem?_cons_succ, List.getElem?_cons_zero]
  refine wpQuiet_nil ?_
  refine effs_done ?_
  refine HKK.out _ _ _ _ _ _ _ _ A1 e1 _ ⟨HK9.out, FF_5.out, VC_5.out, F0_5.out, F1_5.out⟩

end Go.Proofs.YtagpphelgghbpaaGreat
