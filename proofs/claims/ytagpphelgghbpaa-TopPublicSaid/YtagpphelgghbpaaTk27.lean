/-
  Texts: Peq, Pue, Lay.
-/
import Derived.Test.YtagpphelgghbpaaTk26
import Derived.ChangeKeysEq
import Derived.Shelf.SortM.Plain
import Derived.Shelf.SortM.SortNone
import Derived.Test.YtagpphelgghbpaaTk2
/-
  Items, seats, what is public: equal ones.
-/
set_option linter.unusedSimpArgs false
set_option linter.unusedVariables false
namespace Go.Proofs.Ytagpphelgghbpaa
open Go.RowKit

set_option maxRecDepth 100000 in
theorem objs_top (A B : Option Addr) (n c c' : Nat) (l : List Ob) (w : World) (hx : Reads w 12 A n (ocs l)) (hy : Reads w 12 B n (ocs l)) (hl : l.length = n) (hn : n ≤ 9223372036854775807) :
    Calls Try.prog 23 #[.slice A n c, .slice B n c'] w fun e w' => e = .returned (.bool true) ∧ Below w.heap.size w w' := by
  have HX := Lib.hid hx
  have HY := Lib.hid hy
  have HL := Lib.hid hl
  clear hx hy hl
  go_enter Try.func23, Try.ntmps23
  go_wp2
  go_loopw [5] (fun i W => ∃ k : Nat, k ≤ n ∧ i = .int .i64 k ∧ Below w.heap.size w W) (fun i _ => n - (intOf i).toNat)
  case atStart => exact ⟨0, Nat.zero_le _, rfl, Below.refl _ _⟩
  case round =>
    obtain ⟨k, hk, rfl, hB⟩ := hrel
    have hz := hB.size
    by_cases hlt : k < n
    · have hlt' : (k : Int) < n := by omega
      obtain ⟨o, ho⟩ := get_of (l := l) (k := k) (by have := HL.out; omega)
      obtain ⟨ad, rfl, hab, c0, c1, c2, c3, c4, c5, c6, c7, c8, c9, c10, c11⟩ := obj_at (HX.out.below hB) ho hlt
      obtain ⟨bd, rfl, hbb, e0, e1, e2, e3, e4, e5, e6, e7, e8, e9, e10, e11⟩ := obj_at (HY.out.below hB) ho hlt
      clear ho
      have hnq := neq_objs o
      have hgd : Try.prog.eqGuardType Try.prog.depth 88 = false := by kernel_rfl
      go_wp2
      go_quiet (fail)
      clear hnq
      go_wp2
      go_roundw
      case rel => exact ⟨k + 1, by omega, by go_num, below_drew_ hB nq⟩
      case measure => simp [intOf]; omega
    · have hlt' : decide ((k : Int) < n) = false := by simp; omega
      have HB := Lib.hid hB
      clear hB
      go_wp2
      go_ret
      exact ⟨rfl, HB.out⟩
set_option maxRecDepth 100000 in
theorem same_it (x : It) (t u : Sl) (n : Nat) (w : World) (hn : x.tgs.length = n) (h1 : Reads w 2 t.A n (tcs x.tgs)) (h2 : Reads w 2 u.A n (tcs x.tgs)) (h9 : n ≤ 9223372036854775807) :
    Calls Try.prog 52 #[.agg #[.int .i64 x.pl, .int .i64 x.id, .int .i64 x.card, .int .i64 x.trg, .slice t.A n t.c], .agg #[.int .i64 x.pl, .int .i64 x.id, .int .i64 x.card, .int .i64 x.trg, .slice u.A n u.c]] w fun e w' => e = .returned (.bool true) ∧ Below w.heap.size w w' := by
  obtain ⟨tA, tc⟩ := t
  obtain ⟨uA, uc⟩ := u
  have HC : Hid (∀ W, Below w.heap.size w W → Calls Try.prog 72 #[.slice tA n tc, .slice uA n uc] W fun e w' => e = .returned (.bool true) ∧ Below W.heap.size W w') := Lib.hid (fun W hb => eqs_tgts tA uA n tc uc x.tgs W (h1.below hb) (h2.below hb) hn h9)
  clear h1 h2 hn
  go_enter Try.func52, Try.ntmps52
  go_wp2_with fail
  have HB2 := Lib.hid (((Below.refl w.heap.size w).alloc (Nat.le_refl _) (.cells #[.int .i64 x.pl, .int .i64 x.id, .int .i64 x.card, .int .i64 x.trg, .slice tA n tc] 41)).alloc (by simp) (.cells #[.int .i64 x.pl, .int .i64 x.id, .int .i64 x.card, .int .i64 x.trg, .slice uA n uc] 41))
  refine (HC.out _ HB2.out).mono ?_
  rintro e w3 ⟨rfl, hb3⟩
  have HB3 := Lib.hid (below_call HB2.out hb3 HB2.out.size)
  clear hb3
  go_wp2_with fail
  go_ret
  exact ⟨rfl, HB3.out⟩
set_option maxRecDepth 100000 in
set_option maxHeartbeats 1600000 in
theorem same_its (s t : Sl) (n : Nat) (l : List It) (ss ts : List Sl) (w : World) (h1 : IsR w s l ss) (h2 : IsR w t l ts) (hl : l.length = n) (hn : n ≤ 9223372036854775807) (h4 : ∀ x ∈ l, x.tgs.length ≤ 100000) :
    Calls Try.prog 51 #[.slice s.A n s.c, .slice t.A n t.c, .func (.func 52) #[] #[]] w fun e w' => e = .returned (.bool true) ∧ Below w.heap.size w w' := by
  obtain ⟨A, c⟩ := s
  obtain ⟨B, c'⟩ := t
  have H1 := Lib.hid h1
  have H2 := Lib.hid h2
  have HL := Lib.hid hl
  have H4 := Lib.hid h4
  clear h1 h2 hl h4
  go_enter Try.func51, Try.ntmps51
  go_wp2
  go_loopw [17] (fun i W => ∃ k : Nat, k ≤ n ∧ i = .int .i64 k ∧ Hid (Below w.heap.size w W)) (fun i _ => n - (intOf i).toNat)
  case atStart => exact ⟨0, Nat.zero_le _, rfl, Lib.hid (Below.refl _ _)⟩
  case round =>
    obtain ⟨k, hk, rfl, HB⟩ := hrel
    by_cases hlt : k < n
    · have hlt' : (k : Int) < n := by omega
      obtain ⟨x, hx⟩ := get_of (l := l) (k := k) (by have := HL.out; omega)
      obtain ⟨u, hu, _, hr1, _⟩ := H1.out.at_ hx
      obtain ⟨v, hv, _, hr2, _⟩ := H2.out.at_ hx
      obtain ⟨uA, uc⟩ := u
      obtain ⟨vA, vc⟩ := v
      have r1 := H1.out.row.below HB.out
      have r2 := H2.out.row.below HB.out
      rw [HL.out] at r1 r2
      obtain ⟨ad, hA, hab, c0, c1, c2, c3, c4⟩ := item_at r1 hu hlt
      obtain ⟨bd, hB, hbb, e0, e1, e2, e3, e4⟩ := item_at r2 hv hlt
      simp only at hA hB
      subst hA hB
      obtain ⟨m, hm⟩ : ∃ m, x.tgs.length = m := ⟨_, rfl⟩
      have HM := Lib.hid (show m ≤ 9223372036854775807 by have := H4.out x (List.mem_of_getElem? hx); omega)
      rw [hm] at hr1 hr2
      rw [hm] at c4 e4
      have HC : Hid (∀ W, Below w.heap.size w W → Calls Try.prog 52 #[.agg #[.int .i64 x.pl, .int .i64 x.id, .int .i64 x.card, .int .i64 x.trg, .slice uA m uc], .agg #[.int .i64 x.pl, .int .i64 x.id, .int .i64 x.card, .int .i64 x.trg, .slice vA m vc]] W fun e w' => e = .returned (.bool true) ∧ Below W.heap.size W w') := Lib.hid (fun W hb => same_it x ⟨uA, uc⟩ ⟨vA, vc⟩ m W hm (hr1.below hb) (hr2.below hb) HM.out)
      clear hx hu hv hr1 hr2 hm r1 r2
      have hbb2 : (bd.add (k * 5)).block < wr.heap.size := by rw [block_of_add]; exact hbb
      have HBA := Lib.hid (((Below.refl wr.heap.size wr).alloc (Nat.le_refl _) (.cells #[.int .i64 x.pl, .int .i64 x.id, .int .i64 x.card, .int .i64 x.trg, .slice uA m uc] 41)).alloc (by simp) (.cells #[.int .i64 x.pl, .int .i64 x.id, .int .i64 x.card, .int .i64 x.trg, .slice vA m vc] 41))
      go_wp2_with fail
      refine (HC.out _ (below_call HB.out HBA.out HB.out.size)).mono ?_
      rintro e w3 ⟨rfl, hb3⟩
      have HB3 := Lib.hid (below_call HB.out (HBA.out.trans (hb3.mono HBA.out.size)) HB.out.size)
      clear hb3
      go_wp2_with fail
      go_roundw
      case rel => exact ⟨k + 1, by omega, by go_num, HB3⟩
      case measure => simp [intOf]; omega
    · have hlt' : decide ((k : Int) < n) = false := by simp; omega
      go_wp2
      go_ret
      exact ⟨rfl, HB.out⟩
theorem equalIn_int (d : Nat) (x : Int) (W : World) : (Op.equalIn (d + 1) 3 (.int .i64 x) (.int .i64 x)).run Try.prog W = .ok true W := by
  unfold Op.equalIn
  simp only [Sem.run_bind, run_underlying Try.underlying3, Result.andThen_ok, if_true, Sem.run_pure, beq_self_eq_true]
theorem equalIn_mana (d : Nat) (a b c e : Int) (W : World) : (Op.equalIn (d + 2) 24 (.agg #[.int .i64 a, .int .i64 b, .int .i64 c, .int .i64 e]) (.agg #[.int .i64 a, .int .i64 b, .int .i64 c, .int .i64 e])).run Try.prog W = .ok true W := by
  obtain ⟨i, hi⟩ := Option.isSome_iff_exists.1 (show (Try.prog.info? 3).isSome = true by kernel_rfl)
  rw [run_equalIn_array W (d + 1) _ _ Try.underlying24 hi]
  have h3 : Try.prog.cellsOf 3 = 1 := by kernel_rfl
  have hk : Try.prog.plainKey 3 = true := by kernel_rfl
  have hp : ∀ (xs : Array Value) (i : Nat) (u : Value), xs[i]? = some u → (part 3 xs i).run Try.prog W = .ok u W := fun xs i u hu => run_part_plain W hk hu
  rw [show List.range 4 = [0, 1, 2, 3] from rfl]
  obtain ⟨xs, hxs⟩ : ∃ xs : Array Value, #[Value.int .i64 a, .int .i64 b, .int .i64 c, .int .i64 e] = xs := ⟨_, rfl⟩
  have p0 := hp xs 0 (.int .i64 a) (by rw [← hxs]; rfl)
  have p1 := hp xs 1 (.int .i64 b) (by rw [← hxs]; rfl)
  have p2 := hp xs 2 (.int .i64 c) (by rw [← hxs]; rfl)
  have p3 := hp xs 3 (.int .i64 e) (by rw [← hxs]; rfl)
  rw [hxs]
  simp only [Op.eqItems, h3, Nat.mul_one, Sem.run_bind, p0, p1, p2, p3, Result.andThen_ok, equalIn_int, Bool.not_true, Bool.false_eq_true, if_false, Sem.run_pure]
theorem eql_mana (a b c d : Int) (W : World) : (binOp .eql 24 (.agg #[.int .i64 a, .int .i64 b, .int .i64 c, .int .i64 d]) (.agg #[.int .i64 a, .int .i64 b, .int .i64 c, .int .i64 d])).run Try.prog W = .ok (.bool true) W := by
  rw [run_eql_struct, show (10000 : Nat) = 9998 + 2 from rfl, equalIn_mana 9998 a b c d W]
  rfl
set_option maxRecDepth 100000 in
set_option maxHeartbeats 1600000 in
theorem seats_any (v : Vs) (m m' : VsM) (w : World) (h1 : VsR w v m) (h2 : VsR w v m') (hf : v.fld.length ≤ 100000) (hg : v.grv.length ≤ 100000) :
    Calls Try.prog 55 #[.agg (v.cells m).toArray, .agg (v.cells m').toArray] w fun e w' => e = .returned (.bool true) ∧ Below w.heap.size w w' := by
  obtain ⟨⟨FA, Fc⟩, ⟨GA, Gc⟩⟩ := m
  obtain ⟨⟨HA, Hc⟩, ⟨IA, Ic⟩⟩ := m'
  obtain ⟨nf, hnf⟩ : ∃ n, v.fld.length = n := ⟨_, rfl⟩
  obtain ⟨ng, hng⟩ : ∃ n, v.grv.length = n := ⟨_, rfl⟩
  have f1 := h1.F.row
  have f2 := h2.F.row
  have g1 := h1.G.row
  have g2 := h2.G.row
  rw [hnf] at f1 f2 hf
  rw [hng] at g1 g2 hg
  have HCF : Hid (∀ W, Below w.heap.size w W → Calls Try.prog 73 #[.slice FA nf Fc, .slice HA nf Hc] W fun e w' => e = .returned (.bool true) ∧ Below W.heap.size W w') := Lib.hid (fun W hb => eqs_objs FA HA nf Fc Hc v.fld W (f1.below hb) (f2.below hb) hnf (by omega))
  have HCG : Hid (∀ W, Below w.heap.size w W → Calls Try.prog 73 #[.slice GA ng Gc, .slice IA ng Ic] W fun e w' => e = .returned (.bool true) ∧ Below W.heap.size W w') := Lib.hid (fun W hb => eqs_objs GA IA ng Gc Ic v.grv W (g1.below hb) (g2.below hb) hng (by omega))
  have hem := eql_mana v.p0 v.p1 v.p2 v.p3
  have hgd : Try.prog.eqGuardType Try.prog.depth 24 = false := by kernel_rfl
  simp only [Vs.cells, Sl.v, hnf, hng]
  obtain ⟨w2, hw2⟩ : ∃ w2, (w.alloc (.cells #[Value.int .i64 v.life, .int .i64 v.p0, .int .i64 v.p1, .int .i64 v.p2, .int .i64 v.p3, .int .i64 v.lib, .int .i64 v.hand, Value.slice FA nf Fc, .slice GA ng Gc, .bool v.emp, .bool v.ply, .bool v.kpt, .int .i64 v.mul, .int .i64 v.act] 56)).alloc (.cells #[Value.int .i64 v.life, .int .i64 v.p0, .int .i64 v.p1, .int .i64 v.p2, .int .i64 v.p3, .int .i64 v.lib, .int .i64 v.hand, Value.slice HA nf Hc, .slice IA ng Ic, .bool v.emp, .bool v.ply, .bool v.kpt, .int .i64 v.mul, .int .i64 v.act] 56) = w2 := ⟨_, rfl⟩
  have HB2 : Hid (Below w.heap.size w w2) := Lib.hid (by rw [← hw2]; exact ((Below.refl _ _).alloc (Nat.le_refl _) _).alloc (by simp) _)
  have b1 : Blk w2 w.heap.size 56 #[Value.int .i64 v.life, .int .i64 v.p0, .int .i64 v.p1, .int .i64 v.p2, .int .i64 v.p3, .int .i64 v.lib, .int .i64 v.hand, Value.slice FA nf Fc, .slice GA ng Gc, .bool v.emp, .bool v.ply, .bool v.kpt, .int .i64 v.mul, .int .i64 v.act] := by rw [← hw2]; exact (Blk.mk_ w _ _ _ rfl).alloc _
  have b2 : Blk w2 (w.heap.size + 1) 56 #[Value.int .i64 v.life, .int .i64 v.p0, .int .i64 v.p1, .int .i64 v.p2, .int .i64 v.p3, .int .i64 v.lib, .int .i64 v.hand, Value.slice HA nf Hc, .slice IA ng Ic, .bool v.emp, .bool v.ply, .bool v.kpt, .int .i64 v.mul, .int .i64 v.act] := by rw [← hw2]; exact Blk.mk_ _ _ _ _ (by simp)
  have K1 := Lib.hid b1
  have K2 := Lib.hid b2
  have c7 := (b1.at_ 7).trans rfl
  have d7 := (b2.at_ 7).trans rfl
  clear h1 h2 f1 f2 g1 g2 hnf hng b1 b2
  go_enter Try.func55, Try.ntmps55
  go_wp2_with fail
  refine (HCF.out w2 HB2.out).mono ?_
  rintro e w3 ⟨rfl, hb3⟩
  have HB3 := Lib.hid (below_call HB2.out hb3 HB2.out.size)
  have K13 := Lib.hid (K1.out.call hb3)
  have K23 := Lib.hid (K2.out.call hb3)
  have c8 := (K13.out.at_ 8).trans rfl
  have d8 := (K23.out.at_ 8).trans rfl
  clear hb3 c7 d7 hw2
  go_wp2_with fail
  refine (HCG.out w3 HB3.out).mono ?_
  rintro e w4 ⟨rfl, hb4⟩
  have HB4 := Lib.hid (below_call HB3.out hb4 HB3.out.size)
  have K14 := K13.out.call hb4
  have K24 := K23.out.call hb4
  have c0 := (K14.at_ 0).trans rfl
  have d0 := (K24.at_ 0).trans rfl
  have c1 := (K14.at_ 1).trans rfl
  have d1 := (K24.at_ 1).trans rfl
  have c2 := (K14.at_ 2).trans rfl
  have d2 := (K24.at_ 2).trans rfl
  have c3 := (K14.at_ 3).trans rfl
  have d3 := (K24.at_ 3).trans rfl
  have c4 := (K14.at_ 4).trans rfl
  have d4 := (K24.at_ 4).trans rfl
  have c5 := (K14.at_ 5).trans rfl
  have d5 := (K24.at_ 5).trans rfl
  have c6 := (K14.at_ 6).trans rfl
  have d6 := (K24.at_ 6).trans rfl
  have c9 := (K14.at_ 9).trans rfl
  have d9 := (K24.at_ 9).trans rfl
  have c10 := (K14.at_ 10).trans rfl
  have d10 := (K24.at_ 10).trans rfl
  have c11 := (K14.at_ 11).trans rfl
  have d11 := (K24.at_ 11).trans rfl
  have c12 := (K14.at_ 12).trans rfl
  have d12 := (K24.at_ 12).trans rfl
  have c13 := (K14.at_ 13).trans rfl
  have d13 := (K24.at_ 13).trans rfl
  clear hb4 c8 d8 K14 K24
  go_wp2_with fail
  go_ret
  exact ⟨rfl, HB4.out⟩
end Go.Proofs.Ytagpphelgghbpaa

/-
  spectate.Equal of what is equal.
-/
set_option linter.unusedSimpArgs false
set_option linter.unusedVariables false
namespace Go.Proofs.Ytagpphelgghbpaa
open Go.RowKit

set_option maxRecDepth 100000 in
set_option maxHeartbeats 1600000 in
theorem pueq_any (p : Pu) (m m' : PuM) (w : World) (h1 : PuR w p m) (h2 : PuR w p m') (hsm : PuSm p) :
    Calls Try.prog 22 #[.agg (p.cells m).toArray, .agg (p.cells m').toArray] w fun e w' => e = .returned (.bool true) ∧ Below w.heap.size w w' := by
  obtain ⟨m0, m1, ⟨SA, Sc⟩, ⟨QA, Qc⟩, ST, QT, ⟨AA, Ac⟩, ⟨KA, Kc⟩⟩ := m
  obtain ⟨m0', m1', ⟨SB, Sd⟩, ⟨QB, Qd⟩, ST', QT', ⟨AB, Ad⟩, ⟨KB, Kd⟩⟩ := m'
  have H1 := Lib.hid h1
  have H2 := Lib.hid h2
  have HSM := Lib.hid hsm
  obtain ⟨ns, hns⟩ : ∃ n, p.stk.length = n := ⟨_, rfl⟩
  obtain ⟨nq, hnq⟩ : ∃ n, p.que.length = n := ⟨_, rfl⟩
  obtain ⟨na, hna⟩ : ∃ n, p.att.length = n := ⟨_, rfl⟩
  obtain ⟨nk, hnk⟩ : ∃ n, p.blk.length = n := ⟨_, rfl⟩
  have HCS : Hid (∀ W, Below w.heap.size w W → Calls Try.prog 51 #[.slice SA ns Sc, .slice SB ns Sd, .func (.func 52) #[] #[]] W fun e w' => e = .returned (.bool true) ∧ Below W.heap.size W w') := Lib.hid (fun W hb => same_its ⟨SA, Sc⟩ ⟨SB, Sd⟩ ns p.stk ST ST' W (h1.S.below hb) (h2.S.below hb) hns (by have := hsm.S; omega) (fun x hx => by have := hsm.ST x hx; omega))
  have HCQ : Hid (∀ W, Below w.heap.size w W → Calls Try.prog 51 #[.slice QA nq Qc, .slice QB nq Qd, .func (.func 52) #[] #[]] W fun e w' => e = .returned (.bool true) ∧ Below W.heap.size W w') := Lib.hid (fun W hb => same_its ⟨QA, Qc⟩ ⟨QB, Qd⟩ nq p.que QT QT' W (h1.Q.below hb) (h2.Q.below hb) hnq (by have := hsm.Q; omega) (fun x hx => by have := hsm.QT x hx; omega))
  have HCA : Hid (∀ W, Below w.heap.size w W → Calls Try.prog 53 #[.slice AA na Ac, .slice AB na Ad] W fun e w' => e = .returned (.bool true) ∧ Below W.heap.size W w') := Lib.hid (fun W hb => eqs_ints AA AB na Ac Ad p.att W (by have h := (h1.AT.below hb).row; rw [hna] at h; exact h) (by have h := (h2.AT.below hb).row; rw [hna] at h; exact h) hna (by have := hsm.AT; omega))
  have HCK : Hid (∀ W, Below w.heap.size w W → Calls Try.prog 54 #[.slice KA nk Kc, .slice KB nk Kd] W fun e w' => e = .returned (.bool true) ∧ Below W.heap.size W w') := Lib.hid (fun W hb => eqs_blks KA KB nk Kc Kd p.blk W (by have h := (h1.BK.below hb).row; rw [hnk] at h; exact h) (by have h := (h2.BK.below hb).row; rw [hnk] at h; exact h) hnk (by have := hsm.BK; omega))
  have HV0 : Hid (∀ W, Below w.heap.size w W → Calls Try.prog 55 #[.agg (p.v0.cells m0).toArray, .agg (p.v0.cells m0').toArray] W fun e w' => e = .returned (.bool true) ∧ Below W.heap.size W w') := Lib.hid (fun W hb => seats_any p.v0 m0 m0' W (h1.v0.below hb) (h2.v0.below hb) (by have := hsm.F0; omega) (by have := hsm.G0; omega))
  have HV1 : Hid (∀ W, Below w.heap.size w W → Calls Try.prog 55 #[.agg (p.v1.cells m1).toArray, .agg (p.v1.cells m1').toArray] W fun e w' => e = .returned (.bool true) ∧ Below W.heap.size W w') := Lib.hid (fun W hb => seats_any p.v1 m1 m1' W (h1.v1.below hb) (h2.v1.below hb) (by have := hsm.F1; omega) (by have := hsm.G1; omega))
  obtain ⟨c1, hc1⟩ : ∃ c, (p.cells ⟨m0, m1, ⟨SA, Sc⟩, ⟨QA, Qc⟩, ST, QT, ⟨AA, Ac⟩, ⟨KA, Kc⟩⟩).toArray = c := ⟨_, rfl⟩
  obtain ⟨c2, hc2⟩ : ∃ c, (p.cells ⟨m0', m1', ⟨SB, Sd⟩, ⟨QB, Qd⟩, ST', QT', ⟨AB, Ad⟩, ⟨KB, Kd⟩⟩).toArray = c := ⟨_, rfl⟩
  obtain ⟨x0, hx0⟩ : ∃ c, (p.v0.cells m0).toArray = c := ⟨_, rfl⟩
  obtain ⟨x1, hx1⟩ : ∃ c, (p.v1.cells m1).toArray = c := ⟨_, rfl⟩
  obtain ⟨y0, hy0⟩ : ∃ c, (p.v0.cells m0').toArray = c := ⟨_, rfl⟩
  obtain ⟨y1, hy1⟩ : ∃ c, (p.v1.cells m1').toArray = c := ⟨_, rfl⟩
  have HLx0 : Hid (∀ W, Blk W w.heap.size 59 c1 → (Instr.loadAt 56 (.pointer (some ⟨w.heap.size, 0, none⟩))).run Try.prog W = .ok (.agg x0) W) := Lib.hid (fun W hW => by
    rw [← hx0]
    refine hW.mid (p.v0.cells m0) _ (fun j v hj => ?_) Try.underlying56 rfl (by rw [size_vseat]; rfl)
    rw [← hc1]
    have hj2 := (List.getElem?_eq_some_iff.1 hj).1
    unfold Pu.cells
    rw [Nat.zero_add, List.getElem?_toArray, List.append_assoc, List.getElem?_append_left hj2]
    exact hj)
  have HLx1 : Hid (∀ W, Blk W w.heap.size 59 c1 → (Instr.loadAt 56 (.pointer (some ⟨w.heap.size, 14, none⟩))).run Try.prog W = .ok (.agg x1) W) := Lib.hid (fun W hW => by
    rw [← hx1]
    refine hW.mid (p.v1.cells m1) _ (fun j v hj => ?_) Try.underlying56 rfl (by rw [size_vseat]; rfl)
    rw [← hc1]
    have hj2 := (List.getElem?_eq_some_iff.1 hj).1
    unfold Pu.cells
    have h14 : ∀ mm, (p.v0.cells mm).length = 14 := fun _ => rfl
    rw [List.getElem?_toArray, List.append_assoc, List.getElem?_append_right (by rw [h14]; omega), h14, Nat.add_sub_cancel_left, List.getElem?_append_left hj2]
    exact hj)
  have HLy0 : Hid (∀ W, Blk W (w.heap.size + 1) 59 c2 → (Instr.loadAt 56 (.pointer (some ⟨w.heap.size + 1, 0, none⟩))).run Try.prog W = .ok (.agg y0) W) := Lib.hid (fun W hW => by
    rw [← hy0]
    refine hW.mid (p.v0.cells m0') _ (fun j v hj => ?_) Try.underlying56 rfl (by rw [size_vseat]; rfl)
    rw [← hc2]
    have hj2 := (List.getElem?_eq_some_iff.1 hj).1
    unfold Pu.cells
    rw [Nat.zero_add, List.getElem?_toArray, List.append_assoc, List.getElem?_append_left hj2]
    exact hj)
  have HLy1 : Hid (∀ W, Blk W (w.heap.size + 1) 59 c2 → (Instr.loadAt 56 (.pointer (some ⟨w.heap.size + 1, 14, none⟩))).run Try.prog W = .ok (.agg y1) W) := Lib.hid (fun W hW => by
    rw [← hy1]
    refine hW.mid (p.v1.cells m1') _ (fun j v hj => ?_) Try.underlying56 rfl (by rw [size_vseat]; rfl)
    rw [← hc2]
    have hj2 := (List.getElem?_eq_some_iff.1 hj).1
    unfold Pu.cells
    have h14 : ∀ mm, (p.v0.cells mm).length = 14 := fun _ => rfl
    rw [List.getElem?_toArray, List.append_assoc, List.getElem?_append_right (by rw [h14]; omega), h14, Nat.add_sub_cancel_left, List.getElem?_append_left hj2]
    exact hj)
  have Ec128 : Hid (c1[28]? = some (.slice SA ns Sc)) := Lib.hid (by rw [← hc1, ← hns]; rfl)
  have Ec228 : Hid (c2[28]? = some (.slice SB ns Sd)) := Lib.hid (by rw [← hc2, ← hns]; rfl)
  have Ec129 : Hid (c1[29]? = some (.slice QA nq Qc)) := Lib.hid (by rw [← hc1, ← hnq]; rfl)
  have Ec229 : Hid (c2[29]? = some (.slice QB nq Qd)) := Lib.hid (by rw [← hc2, ← hnq]; rfl)
  have Ec130 : Hid (c1[30]? = some (.slice AA na Ac)) := Lib.hid (by rw [← hc1, ← hna]; rfl)
  have Ec230 : Hid (c2[30]? = some (.slice AB na Ad)) := Lib.hid (by rw [← hc2, ← hna]; rfl)
  have Ec131 : Hid (c1[31]? = some (.slice KA nk Kc)) := Lib.hid (by rw [← hc1, ← hnk]; rfl)
  have Ec231 : Hid (c2[31]? = some (.slice KB nk Kd)) := Lib.hid (by rw [← hc2, ← hnk]; rfl)
  have Ec132 : Hid (c1[32]? = some (.int .i64 p.turn)) := Lib.hid (by rw [← hc1]; rfl)
  have Ec232 : Hid (c2[32]? = some (.int .i64 p.turn)) := Lib.hid (by rw [← hc2]; rfl)
  have Ec133 : Hid (c1[33]? = some (.int .i64 p.actv)) := Lib.hid (by rw [← hc1]; rfl)
  have Ec233 : Hid (c2[33]? = some (.int .i64 p.actv)) := Lib.hid (by rw [← hc2]; rfl)
  have Ec134 : Hid (c1[34]? = some (.int .i64 p.phs)) := Lib.hid (by rw [← hc1]; rfl)
  have Ec234 : Hid (c2[34]? = some (.int .i64 p.phs)) := Lib.hid (by rw [← hc2]; rfl)
  have Ec135 : Hid (c1[35]? = some (.int .i64 p.hold)) := Lib.hid (by rw [← hc1]; rfl)
  have Ec235 : Hid (c2[35]? = some (.int .i64 p.hold)) := Lib.hid (by rw [← hc2]; rfl)
  have Ec136 : Hid (c1[36]? = some (.int .i64 p.pas)) := Lib.hid (by rw [← hc1]; rfl)
  have Ec236 : Hid (c2[36]? = some (.int .i64 p.pas)) := Lib.hid (by rw [← hc2]; rfl)
  rw [hx0, hy0] at HV0
  rw [hx1, hy1] at HV1
  rw [hc1, hc2]
  obtain ⟨w2, hw2⟩ : ∃ w2, (w.alloc (.cells c1 59)).alloc (.cells c2 59) = w2 := ⟨_, rfl⟩
  have HB2 : Hid (Below w.heap.size w w2) := Lib.hid (by rw [← hw2]; exact ((Below.refl _ _).alloc (Nat.le_refl _) _).alloc (by simp) _)
  have K12 : Hid (Blk w2 w.heap.size 59 c1) := Lib.hid (by rw [← hw2]; exact (Blk.mk_ w _ _ _ rfl).alloc _)
  have K22 : Hid (Blk w2 (w.heap.size + 1) 59 c2) := Lib.hid (by rw [← hw2]; exact Blk.mk_ _ _ _ _ (by simp))
  clear h1 h2 hsm hns hnq hna hnk hc1 hc2 hx0 hx1 hy0 hy1
  have p28 := (K12.out.at_ 28).trans Ec128.out
  have q28 := (K22.out.at_ 28).trans Ec228.out
  go_enter Try.func22, Try.ntmps22
  go_wp2_with fail
  refine (HCS.out w2 HB2.out).mono ?_
  rintro e w3 ⟨rfl, hb3⟩
  have HB3 := Lib.hid (below_call HB2.out hb3 HB2.out.size)
  have K13 := Lib.hid (K12.out.call hb3)
  have K23 := Lib.hid (K22.out.call hb3)
  clear hb3 p28 q28 hw2
  have p29 := (K13.out.at_ 29).trans Ec129.out
  have q29 := (K23.out.at_ 29).trans Ec229.out
  go_wp2_with fail
  refine (HCQ.out w3 HB3.out).mono ?_
  rintro e w4 ⟨rfl, hb4⟩
  have HB4 := Lib.hid (below_call HB3.out hb4 HB3.out.size)
  have K14 := Lib.hid (K13.out.call hb4)
  have K24 := Lib.hid (K23.out.call hb4)
  clear hb4 p29 q29
  have p30 := (K14.out.at_ 30).trans Ec130.out
  have q30 := (K24.out.at_ 30).trans Ec230.out
  go_wp2_with fail
  refine (HCA.out w4 HB4.out).mono ?_
  rintro e w5 ⟨rfl, hb5⟩
  have HB5 := Lib.hid (below_call HB4.out hb5 HB4.out.size)
  have K15 := Lib.hid (K14.out.call hb5)
  have K25 := Lib.hid (K24.out.call hb5)
  clear hb5 p30 q30
  have p31 := (K15.out.at_ 31).trans Ec131.out
  have q31 := (K25.out.at_ 31).trans Ec231.out
  go_wp2_with fail
  refine (HCK.out w5 HB5.out).mono ?_
  rintro e w6 ⟨rfl, hb6⟩
  have HB6 := Lib.hid (below_call HB5.out hb6 HB5.out.size)
  have K16 := Lib.hid (K15.out.call hb6)
  have K26 := Lib.hid (K25.out.call hb6)
  clear hb6 p31 q31
  have HX0 := Lib.hid (HLx0.out w6 K16.out)
  have HY0 := Lib.hid (HLy0.out w6 K26.out)
  go_wp2_with (first | (refine wpList_load_by HX0.out rfl rfl rfl ?_; simp only [Act.put, List.setIfInBounds_toArray, List.set_cons_succ, List.set_cons_zero]) | (refine wpList_load_by HY0.out rfl rfl rfl ?_; simp only [Act.put, List.setIfInBounds_toArray, List.set_cons_succ, List.set_cons_zero]) | fail)
  refine (HV0.out w6 HB6.out).mono ?_
  rintro e w7 ⟨rfl, hb7⟩
  have HB7 := Lib.hid (below_call HB6.out hb7 HB6.out.size)
  have K17 := Lib.hid (K16.out.call hb7)
  have K27 := Lib.hid (K26.out.call hb7)
  have HX1 := Lib.hid (HLx1.out w7 K17.out)
  have HY1 := Lib.hid (HLy1.out w7 K27.out)
  clear hb7 HX0 HY0
  go_wp2_with (first | (refine wpList_load_by HX1.out rfl rfl rfl ?_; simp only [Act.put, List.setIfInBounds_toArray, List.set_cons_succ, List.set_cons_zero]) | (refine wpList_load_by HY1.out rfl rfl rfl ?_; simp only [Act.put, List.setIfInBounds_toArray, List.set_cons_succ, List.set_cons_zero]) | fail)
  refine (HV1.out w7 HB7.out).mono ?_
  rintro e w8 ⟨rfl, hb8⟩
  have HB8 := Lib.hid (below_call HB7.out hb8 HB7.out.size)
  have K18 := K17.out.call hb8
  have K28 := K27.out.call hb8
  have p32 := (K18.at_ 32).trans Ec132.out
  have q32 := (K28.at_ 32).trans Ec232.out
  have p33 := (K18.at_ 33).trans Ec133.out
  have q33 := (K28.at_ 33).trans Ec233.out
  have p34 := (K18.at_ 34).trans Ec134.out
  have q34 := (K28.at_ 34).trans Ec234.out
  have p35 := (K18.at_ 35).trans Ec135.out
  have q35 := (K28.at_ 35).trans Ec235.out
  have p36 := (K18.at_ 36).trans Ec136.out
  have q36 := (K28.at_ 36).trans Ec236.out
  clear hb8 HX1 HY1 K18 K28
  go_wp2_with fail
  go_ret
  exact ⟨rfl, HB8.out⟩
end Go.Proofs.Ytagpphelgghbpaa

/-
  slices.Sort at this seat: the library contract laid.
-/
set_option linter.unusedSimpArgs false
set_option linter.unusedVariables false
namespace Go.Proofs.Ytagpphelgghbpaa
open Go.Shelf
def laysSort_ren : Go.Shelf.Ren := ⟨fun | 5 => 50 | 8 => 71 | 7 => 70 | 19 => 85 | 20 => 86 | 10 => 76 | 11 => 77 | 12 => 78 | 13 => 79 | 14 => 80 | 15 => 81 | 16 => 82 | 17 => 83 | 18 => 84 | 30 => 87 | 31 => 88 | 32 => 89 | 33 => 90 | 34 => 91 | 35 => 92 | 40 => 93 | n => n, fun | 23 => 25 | 25 => 3 | 3 => 3 | 32 => 143 | 22 => 25 | 0 => 0 | 44 => 154 | 46 => 52 | 4 => 4 | 36 => 148 | 35 => 147 | 41 => 81 | 5 => 5 | 9 => 9 | 53 => 156 | 57 => 160 | 63 => 162 | 64 => 163 | n => n, fun | n => n⟩
theorem laysSort : Go.Proofs.SlLaysM.n5 Try.prog laysSort_ren := {
  mixed := by kernel_rfl,
  f5 := ⟨Try.f50.name, by decide, Try.func50.trans (congrArg some (by kernel_rfl))⟩,
  f7 := ⟨Try.f70.name, by decide, Try.func70.trans (congrArg some (by kernel_rfl))⟩,
  f8 := Try.func71.trans (congrArg some (by kernel_rfl)),
  f10 := ⟨Try.f76.name, by decide, Try.func76.trans (congrArg some (by kernel_rfl))⟩,
  f11 := ⟨Try.f77.name, by decide, Try.func77.trans (congrArg some (by kernel_rfl))⟩,
  f12 := ⟨Try.f78.name, by decide, Try.func78.trans (congrArg some (by kernel_rfl))⟩,
  f13 := ⟨Try.f79.name, by decide, Try.func79.trans (congrArg some (by kernel_rfl))⟩,
  f14 := ⟨Try.f80.name, by decide, Try.func80.trans (congrArg some (by kernel_rfl))⟩,
  f15 := ⟨Try.f81.name, by decide, Try.func81.trans (congrArg some (by kernel_rfl))⟩,
  f16 := ⟨Try.f82.name, by decide, Try.func82.trans (congrArg some (by kernel_rfl))⟩,
  f17 := ⟨Try.f83.name, by decide, Try.func83.trans (congrArg some (by kernel_rfl))⟩,
  f18 := ⟨Try.f84.name, by decide, Try.func84.trans (congrArg some (by kernel_rfl))⟩,
  f19 := Try.func85.trans (congrArg some (by kernel_rfl)),
  f20 := Try.func86.trans (congrArg some (by kernel_rfl)),
  f30 := ⟨Try.f87.name, by decide, Try.func87.trans (congrArg some (by kernel_rfl))⟩,
  f31 := Try.func88.trans (congrArg some (by kernel_rfl)),
  f32 := Try.func89.trans (congrArg some (by kernel_rfl)),
  f33 := ⟨Try.f90.name, by decide, Try.func90.trans (congrArg some (by kernel_rfl))⟩,
  f34 := ⟨Try.f91.name, by decide, Try.func91.trans (congrArg some (by kernel_rfl))⟩,
  f35 := ⟨Try.f92.name, by decide, Try.func92.trans (congrArg some (by kernel_rfl))⟩,
  f40 := ⟨Try.f93.name, by decide, Try.func93.trans (congrArg some (by kernel_rfl))⟩,
  t0 := Try.underlying0,
  a0 := Try.isAgg0,
  z0 := Try.sizeOf0,
  v0 := Try.zeroValue0,
  t3 := Try.underlying3,
  a3 := Try.isAgg3,
  z3 := Try.sizeOf3,
  v3 := Try.zeroValue3,
  t4 := Try.underlying4,
  a4 := Try.isAgg4,
  z4 := Try.sizeOf4,
  v4 := Try.zeroValue4,
  t5 := Try.underlying5,
  a5 := Try.isAgg5,
  z5 := Try.sizeOf5,
  v5 := Try.zeroValue5,
  t9 := Try.underlying9,
  a9 := Try.isAgg9,
  z9 := Try.sizeOf9,
  v9 := Try.zeroValue9,
  t22 := Try.underlying25,
  a22 := Try.isAgg25,
  z22 := Try.sizeOf25,
  v22 := Try.zeroValue25,
  t23 := Try.underlying25,
  a23 := Try.isAgg25,
  z23 := Try.sizeOf25,
  v23 := Try.zeroValue25,
  t25 := Try.underlying3,
  a25 := Try.isAgg3,
  z25 := Try.sizeOf3,
  v25 := Try.zeroValue3,
  t32 := Try.underlying143,
  a32 := Try.isAgg143,
  z32 := Try.sizeOf143,
  v32 := Try.zeroValue143,
  t35 := Try.underlying147,
  a35 := Try.isAgg147,
  z35 := Try.sizeOf147,
  v35 := Try.zeroValue147,
  t36 := Try.underlying148,
  a36 := Try.isAgg148,
  z36 := Try.sizeOf148,
  v36 := Try.zeroValue148,
  t41 := Try.underlying81,
  a41 := Try.isAgg81,
  z41 := Try.sizeOf81,
  v41 := Try.zeroValue81,
  t44 := Try.underlying154,
  a44 := Try.isAgg154,
  z44 := Try.sizeOf154,
  v44 := Try.zeroValue154,
  t46 := Try.underlying52,
  a46 := Try.isAgg52,
  z46 := Try.sizeOf52,
  v46 := Try.zeroValue52,
  t53 := Try.underlying156,
  a53 := Try.isAgg156,
  z53 := Try.sizeOf156,
  v53 := Try.zeroValue156,
  t57 := Try.underlying160,
  a57 := Try.isAgg160,
  z57 := Try.sizeOf160,
  v57 := Try.zeroValue160,
  t63 := Try.underlying162,
  a63 := Try.isAgg162,
  z63 := Try.sizeOf162,
  v63 := Try.zeroValue162,
  t64 := Try.underlying163,
  a64 := Try.isAgg163,
  z64 := Try.sizeOf163,
  v64 := Try.zeroValue163 }
end Go.Proofs.Ytagpphelgghbpaa
