/-
  LeagueHolds: its walk.
-/
import Derived.Test.YtekbjlihpmjlfaaLHQ
set_option linter.unusedSimpArgs false
set_option linter.unusedVariables false
namespace Go.Proofs.Ytekbjlihpmjlfaa
open Go.RowKit

/-- 'append(s, src...)' to a row of one's own that is not empty, src nil or not empty. -/
theorem append_xg_op {P : Program} {w : World} {o : Oper} {a : Act} {K : Act → World → Prop} {Q : Exit → Act → World → Prop} (s x : Operand) (t : TypeId)
    (ho : o.op = .call { callee := .builtin .append, args := #[s, x], argTypes := #[t, t] })
    (base : Nat) (e : TypeId) (z : Value) (size bytes : Nat) (hrow : (P.info? e).map (fun i => (i.zero, i.size, i.bytes)) = some (some z, size, bytes)) (ht : P.underlying t = some (.slice e)) (hzs : z.cells.size = size) (hsz : 0 < size)
    (g0 n cap : Nat) (xs : List Value) (hs : a.eval s = .slice (some ⟨g0, 0, none⟩) n cap) (hown : XOwns w base e size (some ⟨g0, 0, none⟩) n cap xs)
    (A' : Option Addr) (m c : Nat) (news : List Value) (hx : a.eval x = .slice A' m c) (hA : A' = none → c = 0) (hm0 : m = 0 → A' = none) (hr : Reads w size A' m news) (h1 : ∀ u ∈ news, u.oneCell' = true)
    (hbd : (n + m) * bytes ≤ 140737488355328) (hbd2 : n + m ≤ 140737488355328) (hbase : base ≤ w.heap.size)
    (h : ∀ g cap2 w', XOwns w' base e size (some ⟨g, 0, none⟩) (n + m) cap2 (xs ++ news) → w.grownBy w' (some g0) → (g = g0 ∨ g = w.heap.size) → K (a.put o.dst (.slice (some ⟨g, 0, none⟩) (n + m) cap2)) w') : o.wp P a w K Q := by
  by_cases hm : m = 0
  · subst hm
    have hA0 := hm0 rfl
    subst hA0
    have hc := hA rfl
    subst hc
    have hn : news = [] := List.eq_nil_of_length_eq_zero (by rw [hr.1]; simp)
    subst hn
    obtain ⟨i0, hi, hz0, hz1, hz2⟩ := info_parts hrow
    have hrun := run_append_owned_none (P := P) (w := w) base t o.type e i0 size ht hi (.slice (some ⟨g0, 0, none⟩) n cap) n xs hown.1
    unfold Oper.wp
    simp [execOp, ho, resolve, invoke, builtin, hs, hx, hrun, Result.andThen]
    have := h g0 cap w (by simpa using hown) (only_refl _ _) (.inl rfl)
    rw [Nat.add_zero] at this
    exact this
  · refine append_x_op s x t ho base e z size bytes hrow ht hzs hsz (some ⟨g0, 0, none⟩) n cap xs hs hown A' m c news hx hr h1 (by omega) hbd hbd2 hbase w.heap.size rfl ?_
    intro g cap2 w' h2 h3 h4 _
    refine h g cap2 w' h2 h3 ?_
    rcases h4 with h4 | h4
    · injection h4 with h4; exact .inl h4.symm
    · exact .inr h4

theorem XOwns.putx {w : World} {b b' : Nat} {e e' : TypeId} {s s' n n' c c' g : Nat} {A : Option Addr} {xs ys : List Value} (h : XOwns w b e s A n c xs) (hx : XOwns w b' e' s' (some ⟨g, 0, none⟩) n' c' ys) (hne : e ≠ e') {i : Nat} {u : Value} : XOwns (w.setCell ⟨g, i, none⟩ u) b e s A n c xs :=
  h.put fun q => by
    rcases h.apart hx hne with q2 | q2
    · rw [q2] at q; cases q
    · exact q2 q
theorem sep_ne {GA BA : Option Addr} (h : ∀ g, blkOf GA = some g → blkOf BA ≠ some g) : blkOf BA = none ∨ blkOf BA ≠ blkOf GA := by
  cases hg : blkOf GA with
  | none =>
    cases hb : blkOf BA with
    | none => exact .inl rfl
    | some b => exact .inr (by simp)
  | some g => exact .inr (h g hg)
/-- What is kept from round to round. -/
structure HS (B n NN : Nat) (xs : List Int) (ds : List D) (GA BA : Option Addr) (cG cB kg al : Nat) (wo : Int) (w1 W : World) : Prop where
  met : XOwns W B 3 1 (some ⟨B, 0, none⟩) NN NN (ics (metL n ds))
  gs : XOwns W B 30 3 GA kg cG (gcells (gmz ds xs))
  bk : XOwns W B 30 3 BA kg cB (gcells (gmz ds xs).reverse)
  sep : ∀ g, blkOf GA = some g → blkOf BA ≠ some g
  nilb : kg = 0 → BA = none
  al_ : al = ds.length
  wo_ : wo = worthS (gmz ds xs)
  bel : Below B w1 W
section
variable {B n NN : Nat} {xs : List Int} {ds : List D} {GA BA : Option Addr} {cG cB kg al : Nat} {wo : Int} {w1 W W' : World}
theorem HS.below (h : HS B n NN xs ds GA BA cG cB kg al wo w1 W) (hb : Below W.heap.size W W') : HS B n NN xs ds GA BA cG cB kg al wo w1 W' :=
  ⟨h.met.below hb, h.gs.below hb, h.bk.below hb, h.sep, h.nilb, h.al_, h.wo_, h.bel.trans (hb.mono (by have := (h.met.lt B rfl).2; omega))⟩
theorem HS.far (h : HS B n NN xs ds GA BA cG cB kg al wo w1 W) {g i : Nat} {u : Value} {e : TypeId} {k c g0 : Nat} {zs : List Value} (hx : XOwns W g0 e 1 (some ⟨g, 0, none⟩) k c zs) (h0 : B ≤ g0) (h1 : e ≠ 3) (h2 : e ≠ 30) : HS B n NN xs ds GA BA cG cB kg al wo w1 (W.setCell ⟨g, i, none⟩ u) := by
  have hg := (hx.lt g rfl).1
  refine ⟨h.met.put ?_, h.gs.put ?_, h.bk.put ?_, h.sep, h.nilb, h.al_, h.wo_, h.bel.setCell (p := ⟨g, i, none⟩) (Nat.le_trans h0 hg) u⟩
  · rcases h.met.apart hx (fun e => h1 e.symm) with q | q
    · cases q
    · exact q
  · intro q
    rcases h.gs.apart hx (fun e => h2 e.symm) with q2 | q2
    · rw [q2] at q; cases q
    · exact q2 q
  · intro q
    rcases h.bk.apart hx (fun e => h2 e.symm) with q2 | q2
    · rw [q2] at q; cases q
    · exact q2 q
theorem HS.meet (h : HS B n NN xs ds GA BA cG cB kg al wo w1 W) {a b : Nat} {x y : Int} (ha : a < n) (hb : b < n) (hab : a ≠ b) (hx : x = cntM ds a b) (hy : y = cntM ds b a) :
    XOwns ((W.setCell ⟨B, a * n + b, none⟩ (.int .i64 (x + 1))).setCell ⟨B, b * n + a, none⟩ (.int .i64 (y + 1))) B 3 1 (some ⟨B, 0, none⟩) NN NN (ics (metL n (ds ++ [⟨a, b⟩]))) := by
  have h1 := (h.met.setX (a * n + b) (.int .i64 (x + 1))).setX (b * n + a) (.int .i64 (y + 1))
  rw [← met_set ha hb hab hx hy]
  rwa [show ((ics (metL n ds)).set (a * n + b) (.int .i64 (x + 1))).set (b * n + a) (.int .i64 (y + 1)) = ics (((metL n ds).set (a * n + b) (x + 1)).set (b * n + a) (y + 1)) by simp [ics]] at h1
theorem HS.putm {zs ms : List Value} (h : XOwns W B 30 3 GA kg cG zs) (hm : XOwns W B 3 1 (some ⟨B, 0, none⟩) NN NN ms) {i : Nat} {u : Value} : XOwns (W.setCell ⟨B, i, none⟩ u) B 30 3 GA kg cG zs := by
  refine h.put fun q => ?_
  rcases h.apart hm (by decide) with q2 | q2
  · rw [q2] at q; cases q
  · exact q2 q
end
theorem Try.info4 : (Try.prog.info? 4).map (fun i => (i.zero, i.size, i.bytes)) = some (some (.bool false), 1, 1) := by kernel_rfl
theorem dtake_at {m : List D} {k : Nat} (hk : k < m.length) : m.take (k + 1) = m.take k ++ [dth m k] := dtake_snoc hk

set_option maxRecDepth 100000 in
set_option maxHeartbeats 6400000 in
theorem lholds_ok (n : Nat) (A : Option Addr) (len c : Nat) (xs : List Int) (w : World) (hn : 2 ≤ n ∧ n ≤ 20) (hx : BReads w A len xs) (hlen : len ≤ 400) :
    Calls Try.prog 7 #[.int .i64 n, .slice A len c] w fun e w' => e = .returned (.bool true) ∧ Below w.heap.size w w' := by
  have HX := Lib.hid hx
  have HXL := Lib.hid hx.length
  have HN := Lib.hid hn
  have d1 : decide ((n : Int) < 2) = false := decide_eq_false (by omega)
  have d2 : decide ((20 : Int) < n) = false := decide_eq_false (by omega)
  have d3 : decide ((400 : Int) < len) = false := decide_eq_false (by omega)
  have hn20 : n ≤ 20 := hn.2
  obtain ⟨NN, hNN⟩ : ∃ NN, n * n = NN := ⟨_, rfl⟩
  have hNN4 : NN ≤ 400 := by have := Nat.mul_le_mul hn.2 hn.2; omega
  have hNNi : (n : Int) * (n : Int) = (NN : Int) := by rw [← hNN]; exact (Int.natCast_mul n n).symm
  have hw0 : IntKind.i64.wrap ((n : Int) * (n : Int)) = (NN : Int) := by rw [hNNi]; exact IntWalk.i64_in _ (by omega)
  have HNN := Lib.hid hNN
  have HNNI := Lib.hid hNNi
  clear hx hn hNN hNNi
  go_enter Try.func7, Try.ntmps7
  go_wp2_with fail
  refine (schedule_ok n _ (by have := HN.out; omega)).mono ?_
  rintro e w1 ⟨gO, G, C, rfl, hs1, hb1⟩
  obtain ⟨M, hM⟩ : ∃ M, evN n - 1 = M := ⟨_, rfl⟩
  rw [hM] at hs1 ⊢
  have hM20 : M ≤ 20 := by have := HN.out; unfold evN at hM; omega
  have HMM := Lib.hid hM
  have HS1 := Lib.hid hs1
  have HB1 := Lib.hid hb1
  have HX1 := Lib.hid (HX.out.below hb1)
  clear hM hs1 hb1
  go_wp2_with (at_make; refine make_k _ rfl (.tmp 49) (.tmp 49) 42 rfl w1.heap.size 3 (.int .i64 0) 1 8 Try.info3 Try.underlying42 rfl (by decide) .i64 .i64 _ _ NN rfl rfl rfl rfl ?_ ?_ ?_ ?_; omega; omega; exact Nat.le_refl _; intro w2 ho2 hb2)
  have HO2 : Hid (XOwns w2 w1.heap.size 3 1 (some ⟨w1.heap.size, 0, none⟩) NN NN (ics (metL n []))) := Lib.hid (by (have h := ho2; rwa [rep_one NN _ rfl, ← HNN.out, ← metL_zero n, HNN.out] at h))
  have HB2 := Lib.hid hb2
  clear ho2 hb2
  obtain ⟨B, hB⟩ : ∃ B, w1.heap.size = B := ⟨_, rfl⟩
  rw [hB] at HO2 HB2 ⊢
  have HBB := Lib.hid hB
  clear hB
  have HH0 : Hid (HS B n NN xs (dsR n 0) none none 0 0 0 0 0 w1 w2) := Lib.hid ⟨HO2.out, XOwns.nil_ _ _ _ _, XOwns.nil_ _ _ _ _, (fun g h => by cases h), (fun _ => rfl), rfl, rfl, HB2.out⟩
  clear HO2 HB2
  go_loopw [8, 9, 10, 11, 12] (fun vg vb vw va i W => ∃ (r : Nat) (GA BA : Option Addr) (cG cB kg al : Nat) (wo : Int), r ≤ M ∧ vg = .slice GA kg cG ∧ vb = .slice BA kg cB ∧ vw = .int .i64 wo ∧ va = .int .i64 al ∧ i = .int .i64 r ∧ al ≤ 40 * r ∧ Hid (HS B n NN xs (dsR n r) GA BA cG cB kg al wo w1 W)) (fun _ _ _ _ i _ => M - (intOf i).toNat)
  case atStart => exact ⟨0, none, none, 0, 0, 0, 0, 0, Nat.zero_le _, rfl, rfl, rfl, rfl, rfl, by omega, HH0⟩
  case round =>
    obtain ⟨r, GA, BA, cG, cB, kg, al, wo, hr, rfl, rfl, rfl, rfl, rfl, hal, HH⟩ := hrel
    by_cases hrM : r < M
    · have hrM' : (r : Int) < M := by omega
      have HRM : Hid (r < evN n - 1) := Lib.hid (by rw [HMM.out]; exact hrM)
      obtain ⟨LN, hLN⟩ : ∃ LN, (schS n r).length = LN := ⟨_, rfl⟩
      have HLN := Lib.hid hLN
      have hLN40 : LN ≤ 40 := by rw [← hLN]; exact sch_len (by have := HN.out; omega) HRM.out
      clear hLN
      go_wp2_with (at_make; refine make_k _ rfl (.tmp 57) (.tmp 57) 54 rfl wr.heap.size 4 (.bool false) 1 1 Try.info4 Try.underlying54 rfl (by decide) .i64 .i64 _ _ n rfl rfl rfl rfl ?_ ?_ ?_ ?_; omega; omega; exact Nat.le_refl _; intro w3 ho3 hb3)
      obtain ⟨gS, hgS⟩ : ∃ g, wr.heap.size = g := ⟨_, rfl⟩
      rw [hgS] at ho3 ⊢
      have HS3 : Hid (XOwns w3 gS 4 1 (some ⟨gS, 0, none⟩) n n (vbs (seenL n (flatN ((schN n r).take 0))))) := Lib.hid (by (have h := ho3; rw [rep_one n _ rfl, ← seenL_zero n] at h; exact h))
      have HH3 : Hid (HS B n NN xs (dsR n r ++ (schS n r).take 0) GA BA cG cB kg al wo w1 w3) := Lib.hid (by
        have h := HH.out.below hb3
        rwa [List.take_zero, List.append_nil])
      have hBgS : B ≤ gS := by have := (HH.out.met.lt B rfl).2; omega
      clear ho3 hb3 hgS
      go_loopw [8, 9, 10, 11, 14] (fun vg vb vw va i W => ∃ (k : Nat) (GA BA : Option Addr) (cG cB kg al : Nat) (wo : Int), k ≤ LN ∧ vg = .slice GA kg cG ∧ vb = .slice BA kg cB ∧ vw = .int .i64 wo ∧ va = .int .i64 al ∧ i = .int .i64 k ∧ al ≤ 40 * r + k ∧ Hid (HS B n NN xs (dsR n r ++ (schS n r).take k) GA BA cG cB kg al wo w1 W) ∧ Hid (XOwns W gS 4 1 (some ⟨gS, 0, none⟩) n n (vbs (seenL n (flatN ((schN n r).take k)))))) (fun _ _ _ _ i _ => LN - (intOf i).toNat)
      case atStart => exact ⟨0, GA, BA, cG, cB, kg, al, wo, Nat.zero_le _, rfl, rfl, rfl, rfl, rfl, by omega, HH3, HS3⟩
      case round =>
        clear HH HH3 HS3 hal
        obtain ⟨k, GA, BA, cG, cB, kg, al, wo, hk, rfl, rfl, rfl, rfl, rfl, hal, HH, HSN⟩ := hrel
        have HB1W : Hid (Below w1.heap.size w1 wr) := Lib.hid (by rw [HBB.out]; exact HH.out.bel)
        have HSM := Lib.hid (HS1.out.below HB1W.out)
        obtain ⟨o1, o1l⟩ := HSM.out.inner (i := r) hrM hrM
        rw [HLN.out] at o1
        by_cases hkl : k < LN
        · have hkl' : (k : Int) < LN := by omega
          obtain ⟨a, b, hd, han, hbn, hab, hfl, hna, hnb⟩ := duel_of HN.out HRM.out (k := k) (by rw [HLN.out]; exact hkl)
          obtain ⟨ad, had, hadl, c0, c1⟩ := duel_at (HSM.out.I r hrM).reads (k := k) (by rw [HLN.out]; exact hkl)
          rw [hd] at c0 c1
          have had' : ad = ⟨G r, 0, none⟩ := by injection had with had; exact had.symm
          subst had'
          simp only at c0 c1
          have HTK : Hid ((schS n r).take (k + 1) = (schS n r).take k ++ [⟨a, b⟩]) := Lib.hid (by rw [dtake_at (by rw [HLN.out]; exact hkl), hd])
          have HFL := Lib.hid hfl
          clear had hd hfl
          simp only [ad_zero] at c0 c1
          have hGl : G r < wr.heap.size := hadl
          obtain ⟨gD, hgD⟩ : ∃ g, wr.heap.size = g := ⟨_, rfl⟩
          have hgDS : gS ≠ gD := by have := (HSN.out.lt gS rfl).2; omega
          have hgDB : B ≠ gD := by have := (HH.out.met.lt B rfl).2; omega
          have hBgD : B ≤ gD := by have := (HH.out.met.lt B rfl).2; omega
          have HH5 := Lib.hid (HH.out.below (al_below (.cells #[.int .i64 a, .int .i64 b] 57)))
          have HSN5 := Lib.hid (HSN.out.below (al_below (.cells #[.int .i64 a, .int .i64 b] 57)))
          have HD5 := Lib.hid (Blk.mk_ wr 57 #[.int .i64 a, .int .i64 b] _ hgD)
          have e1 : decide ((a : Int) < 0) = false := decide_eq_false (by omega)
          have e2 : decide ((n : Int) ≤ a) = false := decide_eq_false (by omega)
          have e3 : decide ((b : Int) < 0) = false := decide_eq_false (by omega)
          have e4 : decide ((n : Int) ≤ b) = false := decide_eq_false (by omega)
          have e5 : ((a : Int) == (b : Int)) = false := by rw [beq_eq_false_iff_ne]; omega
          have han' : (a : Int) < n := by omega
          have hbn' : (b : Int) < n := by omega
          obtain ⟨w5, hw5⟩ : ∃ w5, wr.alloc (.cells #[.int .i64 a, .int .i64 b] 57) = w5 := ⟨_, rfl⟩
          rw [hw5] at HH5 HSN5 HD5
          have cellS : ∀ (j : Nat) (u : Value), (vbs (seenL n (flatN ((schN n r).take k))))[j]? = some u → w5.cell? ⟨gS, j, none⟩ = some u ∧ w5.frozen? ⟨gS, j, none⟩ = false ∧ gS < w5.heap.size := fun j u hu => by
            obtain ⟨g', hg', _, h1, h2, h3⟩ := HSN5.out.cell hu
            injection hg' with hg'
            injection hg' with hg'
            subst hg'
            exact ⟨h2, h3, h1⟩
          obtain ⟨sa, saf, hgS5⟩ := cellS a (.bool false) (by rw [seenL_at han, decide_eq_false hna])
          obtain ⟨sb, sbf, -⟩ := cellS b (.bool false) (by rw [seenL_at hbn, decide_eq_false hnb])
          have d0 : w5.cell? ⟨gD, 0, none⟩ = some (.int .i64 a) := (HD5.out.at_ 0).trans rfl
          have d1' : w5.cell? ⟨gD, 1, none⟩ = some (.int .i64 b) := (HD5.out.at_ 1).trans rfl
          have hgD5 := HD5.out.lt
          have y0 : ∀ s : In (fun W => Blk W gD 57 #[.int .i64 a, .int .i64 b]), s.W.cell? ⟨gD, 0, none⟩ = some (.int .i64 a) := fun s => (s.h.at_ 0).trans rfl
          have y1 : ∀ s : In (fun W => Blk W gD 57 #[.int .i64 a, .int .i64 b]), s.W.cell? ⟨gD, 1, none⟩ = some (.int .i64 b) := fun s => (s.h.at_ 1).trans rfl
          clear cellS hadl
          go_wp2
          haveI : Nonempty (In (fun W => Blk W gD 57 #[.int .i64 a, .int .i64 b])) := ⟨⟨_, HD5.out⟩⟩
          refine wp_region_sched (fun w' => ∃ s : In (fun W => Blk W gD 57 #[.int .i64 a, .int .i64 b]), w' = s.W) [0,1,2,3,4,5,6] (.one 7 [8] (.one 9 [] .done)) (by kernel_rfl) (by kernel_rfl) (fun d _ _ _ _ h => by cases d <;> exact h) ⟨⟨_, HD5.out.drew⟩, rfl⟩ ?_
          refine quiet_as (C' := (fun w' => ∃ s : In (fun W => Blk W gD 57 #[.int .i64 a, .int .i64 b]), w' = s.W)) rfl ?_
          simp only [opsAt, List.getElem?_toArray, List.getElem?_cons_succ, List.getElem?_cons_zero]
          repeat (go_big_quiet_step (fail))
          refine wpQuiet_nil ?_
          refine eff_as (C' := (fun w' => ∃ s : In (fun W => Blk W gD 57 #[.int .i64 a, .int .i64 b]), w' = s.W)) rfl ?_
          (refine eff_lit rfl rfl (fun K hK => ?_))
          go_big_op
          refine hK _ _ ⟨⟨_, (HD5.out.far (p := ⟨gS, a, none⟩) (Ne.symm hgDS) (.bool true)).drew⟩, rfl⟩ ?_
          clear hK K
          simp only [opsAt, List.getElem?_toArray, List.getElem?_cons_succ, List.getElem?_cons_zero]
          repeat (go_big_quiet_step (fail))
          refine wpQuiet_nil ?_
          refine eff_as (C' := (fun w' => ∃ s : In (fun W => Blk W gD 57 #[.int .i64 a, .int .i64 b]), w' = s.W)) rfl ?_
          (refine eff_lit rfl rfl (fun K hK => ?_))
          go_big_op
          refine hK _ _ ⟨⟨_, ((HD5.out.far (p := ⟨gS, a, none⟩) (Ne.symm hgDS) (.bool true)).far (p := ⟨gS, b, none⟩) (Ne.symm hgDS) (.bool true)).drew⟩, rfl⟩ ?_
          clear hK K
          simp only [opsAt, List.getElem?_toArray, List.getElem?_cons_succ, List.getElem?_cons_zero]
          refine wpQuiet_nil ?_
          refine effs_done ?_
          clear y0 y1 this
          have HA1 := HSN5.out.setX a (.bool true)
          have HA2 := HA1.setX b (.bool true)
          rw [seen_set, ← HFL.out] at HA2
          have HSN6 := Lib.hid HA2.drew_
          have HH6 := Lib.hid (((HH5.out.far (i := a) (u := .bool true) HSN5.out hBgS (by decide) (by decide)).far (i := b) (u := .bool true) HA1 hBgS (by decide) (by decide)).below (Below.refl _ _).drew)
          have HD6 := Lib.hid ((HD5.out.far (p := ⟨gS, a, none⟩) (Ne.symm hgDS) (.bool true)).far (p := ⟨gS, b, none⟩) (Ne.symm hgDS) (.bool true)).drew
          clear HA1 HA2 sa sb saf sbf d0 d1' c0 c1 o1 o1l hGl hna hnb hgS5 hgD5 e1 e2 e3 e4 e5
          generalize ((w5.setCell ⟨gS, a, none⟩ (.bool true)).setCell ⟨gS, b, none⟩ (.bool true)).drew = w6 at *
          clear hw5 HSN5 HH5 HD5 hgD
          obtain ⟨xm, hxm⟩ : ∃ x, cntM (dsR n r ++ (schS n r).take k) a b = x := ⟨_, rfl⟩
          obtain ⟨ym, hym⟩ : ∃ x, cntM (dsR n r ++ (schS n r).take k) b a = x := ⟨_, rfl⟩
          have hxb := cntM_bd (dsR n r ++ (schS n r).take k) a b
          have hyb := cntM_bd (dsR n r ++ (schS n r).take k) b a
          rw [hxm, ← HH6.out.al_] at hxb
          rw [hym, ← HH6.out.al_] at hyb
          obtain ⟨P1, hP1⟩ : ∃ P, a * n = P := ⟨_, rfl⟩
          obtain ⟨P2, hP2⟩ : ∃ P, b * n = P := ⟨_, rfl⟩
          have hI1 := idx_lt han hbn
          have hI2 := idx_lt hbn han
          rw [HNN.out, hP1] at hI1
          rw [HNN.out, hP2] at hI2
          have hI12 : P1 + b ≠ P2 + a := by
            intro e
            have h1 := idx_div (n := n) (a := a) hbn
            have h2 := idx_div (n := n) (a := b) han
            rw [hP1, e] at h1
            rw [hP2] at h2
            exact hab (h1.1.symm.trans h2.1)
          have cellM : ∀ (i j : Nat) (u : Int), i < n → j < n → cntM (dsR n r ++ (schS n r).take k) i j = u → w6.cell? ⟨B, i * n + j, none⟩ = some (.int .i64 u) ∧ w6.frozen? ⟨B, i * n + j, none⟩ = false ∧ B < w6.heap.size := fun i j u hi hj hu => by
            obtain ⟨g', hg', _, h1, h2, h3⟩ := HH6.out.met.cell (j := i * n + j) (u := .int .i64 u) (by rw [ics, List.getElem?_map, ith_get (by rw [metL_len]; exact idx_lt hi hj), metL_at _ hi hj, hu]; rfl)
            injection hg' with hg'
            injection hg' with hg'
            subst hg'
            exact ⟨h2, h3, h1⟩
          obtain ⟨m1, m1f, hBl⟩ := cellM a b xm han hbn hxm
          obtain ⟨m2, m2f, -⟩ := cellM b a ym hbn han hym
          rw [hP1] at m1 m1f
          rw [hP2] at m2 m2f
          have w01 : IntKind.i64.wrap ((a : Int) * (n : Int)) = (P1 : Int) := by rw [← hP1, Int.natCast_mul]; exact IntWalk.i64_in _ (by rw [← Int.natCast_mul, hP1]; omega)
          have w02 : IntKind.i64.wrap ((b : Int) * (n : Int)) = (P2 : Int) := by rw [← hP2, Int.natCast_mul]; exact IntWalk.i64_in _ (by rw [← Int.natCast_mul, hP2]; omega)
          have w03 : IntKind.i64.wrap ((P1 : Int) + (b : Int)) = ((P1 + b : Nat) : Int) := by rw [Int.natCast_add]; exact IntWalk.i64_in _ (by omega)
          have w04 : IntKind.i64.wrap ((P2 : Int) + (a : Int)) = ((P2 + a : Nat) : Int) := by rw [Int.natCast_add]; exact IntWalk.i64_in _ (by omega)
          obtain ⟨I1, hI1e⟩ : ∃ I, P1 + b = I := ⟨_, rfl⟩
          obtain ⟨I2, hI2e⟩ : ∃ I, P2 + a = I := ⟨_, rfl⟩
          rw [hI1e] at hI1 hI12 m1 m1f w03
          rw [hI2e] at hI2 hI12 m2 m2f w04
          have hI1' : (I1 : Int) < NN := by omega
          have hI2' : (I2 : Int) < NN := by omega
          have d0 : w6.cell? ⟨gD, 0, none⟩ = some (.int .i64 a) := (HD6.out.at_ 0).trans rfl
          have d1' : w6.cell? ⟨gD, 1, none⟩ = some (.int .i64 b) := (HD6.out.at_ 1).trans rfl
          have hgD6 := HD6.out.lt
          have hMT := HH6.out.meet han hbn hab hxm.symm hym.symm
          rw [hP1, hP2, hI1e, hI2e] at hMT
          have HMT := Lib.hid hMT
          have hI21 : I2 ≠ I1 := Ne.symm hI12
          have hI12f : (I1 = I2) = False := eq_false hI12
          have hI21f : (I2 = I1) = False := eq_false hI21
          have hab3 : al ≤ 840 := by omega
          have hxb1 : 0 ≤ xm := hxb.1
          have hxb2 : xm ≤ 1680 := by omega
          have hyb1 : 0 ≤ ym := hyb.1
          have hyb2 : ym ≤ 1680 := by omega
          have HGS7 := Lib.hid (HS.putm (i := I2) (u := .int .i64 (ym + 1)) (HS.putm (i := I1) (u := .int .i64 (xm + 1)) HH6.out.gs HH6.out.met) (HH6.out.met.setX I1 (.int .i64 (xm + 1))))
          have HBK7 := Lib.hid (HS.putm (i := I2) (u := .int .i64 (ym + 1)) (HS.putm (i := I1) (u := .int .i64 (xm + 1)) HH6.out.bk HH6.out.met) (HH6.out.met.setX I1 (.int .i64 (xm + 1))))
          have HSN7 := Lib.hid ((HSN6.out.putx HH6.out.met (by decide) (i := I1) (u := .int .i64 (xm + 1))).putx (HH6.out.met.setX I1 (.int .i64 (xm + 1))) (by decide) (i := I2) (u := .int .i64 (ym + 1)))
          have HBE7 := Lib.hid ((HH6.out.bel.setCell (p := ⟨B, I1, none⟩) (Nat.le_refl B) (.int .i64 (xm + 1))).setCell (p := ⟨B, I2, none⟩) (Nat.le_refl B) (.int .i64 (ym + 1)))
          have HD7 := Lib.hid ((HD6.out.far (p := ⟨B, I1, none⟩) (Ne.symm hgDB) (.int .i64 (xm + 1))).far (p := ⟨B, I2, none⟩) (Ne.symm hgDB) (.int .i64 (ym + 1)))
          have HSEP := Lib.hid HH6.out.sep
          have HNB := Lib.hid HH6.out.nilb
          have HAL := Lib.hid HH6.out.al_
          have HWO := Lib.hid HH6.out.wo_
          clear cellM hxm hym hxb hyb hP1 hP2 hI1e hI2e hMT hI12 hI21
          by_cases hall : al < len
          · have hall' : (al : Int) < len := by omega
            obtain ⟨xd, hxd, hxl, hxc⟩ := HX.out.1.2 (show 0 < len by omega)
            subst hxd
            have hxb := HX.out.2 (nth xs al) (by
              have : al < xs.length := by rw [HXL.out]; exact hall
              rw [show nth xs al = xs[al]'this by simp [nth, List.getD, List.getElem?_eq_getElem this]]
              exact List.getElem_mem _)
            have hxat : w.cell? (xd.add al) = some (.int .u8 (nth xs al)) := hxc al _ (by
              have : al < xs.length := by rw [HXL.out]; exact hall
              rw [bys, List.getElem?_map, List.getElem?_eq_getElem this]
              simp [nth, List.getD, List.getElem?_eq_getElem this])
            obtain ⟨gs, hgs⟩ : ∃ gs, gmz (dsR n r ++ (schS n r).take k) xs = gs := ⟨_, rfl⟩
            have hs2 : gmz (dsR n r ++ (schS n r).take (k + 1)) xs = gs ++ [⟨a, b, nth xs al % 3 + 1⟩] := by
              rw [HTK.out, ← List.append_assoc, gmz_snoc (by rw [← HAL.out, HXL.out]; exact hall), hgs, ← HAL.out]
            rw [hgs] at HGS7 HBK7 HWO
            generalize nth xs al = x at *
            obtain ⟨y, hy⟩ : ∃ y, x % 3 = y := ⟨_, rfl⟩
            have hy0 : 0 ≤ y := by omega
            have hy2 : y ≤ 2 := by omega
            have hyt : x.tmod 3 = y := by rw [Int.tmod_eq_emod_of_nonneg hxb.1]; exact hy
            rw [hy] at hs2
            have hyu : IntKind.u8.wrap y = y := IntWalk.u8_in _ (by omega)
            have hyi : IntKind.i64.wrap y = y := IntWalk.i64_in _ (by omega)
            obtain ⟨oc, hoc0⟩ : ∃ o, y + 1 = o := ⟨_, rfl⟩
            rw [hoc0] at hs2
            have hyo : IntKind.i64.wrap (y + 1) = oc := by rw [hoc0]; exact IntWalk.i64_in _ (by omega)
            have hoc : (oc = 3 ∧ True) ∨ (oc == 3) = false := by
              by_cases q : oc = 3
              · exact .inl ⟨q, trivial⟩
              · exact .inr (by rw [beq_eq_false_iff_ne]; exact q)
            have hkgl := glen HGS7.out.reads
            have HSN2 := Lib.hid hs2
            have hkg4 : kg ≤ 400 := by
              rw [← hkgl, ← hgs]
              have := gmz_len (dsR n r ++ (schS n r).take k) xs
              rw [HXL.out] at this
              omega
            have hwo3 : 0 ≤ wo ∧ wo ≤ 1200 := by
              have := worthS_bd gs
              rw [← HWO.out, hkgl] at this
              omega
            have HXB := Lib.hid hxb
            clear hs2 hgs hxc hkgl hy hxb
            go_wp2
            generalize (w6.setCell ⟨B, I1, none⟩ (.int .i64 (xm + 1))).setCell ⟨B, I2, none⟩ (.int .i64 (ym + 1)) = w7 at *
            clear m1 m1f m2 m2f w01 w02 w03 w04 d0 d1' hgD6
            have hBW7 := HB1.out.trans (HBE7.out.mono (by rw [← HBB.out]; exact HB1.out.size))
            have z0 : ∀ s : Later w7.heap.size w7, s.W.cell? ⟨gD, 0, none⟩ = some (.int .i64 a) := fun s => ((HD7.out.below s.h HD7.out.lt).at_ 0).trans rfl
            have z1 : ∀ s : Later w7.heap.size w7, s.W.cell? ⟨gD, 1, none⟩ = some (.int .i64 b) := fun s => ((HD7.out.below s.h HD7.out.lt).at_ 1).trans rfl
            have z2 : ∀ s : Later w7.heap.size w7, s.W.cell? (xd.add al) = some (.int .u8 x) := fun s => ((below_call hBW7 s.h hBW7.size).cell (p := xd.add al) (by rw [block_of_add]; exact hxl)).trans hxat
            refine wp_region_sched (fun w' => ∃ s : Later w7.heap.size w7, w' = s.W) [0,1,2,3,4,5,6,7,8,9,10,11] (.one 12 [] (.one 13 [] .done)) (by kernel_rfl) (by kernel_rfl) (fun d _ _ _ _ h => by cases d <;> exact h) ⟨⟨_, (Below.refl _ _).drew⟩, rfl⟩ ?_
            refine quiet_as (C' := (fun w' => ∃ s : Later w7.heap.size w7, w' = s.W)) rfl ?_
            simp only [opsAt, List.getElem?_toArray, List.getElem?_cons_succ, List.getElem?_cons_zero]
            repeat (go_big_quiet_step (fail))
            refine wpQuiet_nil ?_
            refine eff_as (C' := (fun w' => ∃ s : Later w7.heap.size w7, w' = s.W)) rfl ?_
            (refine eff_lit rfl rfl (fun K hK => ?_))
            go_big_op
            refine hK _ _ ⟨⟨_, ((Below.refl _ _).alloc (Nat.le_refl _) (.cells #[.int .i64 0, .int .i64 0, .int .i64 0] 30)).drew⟩, rfl⟩ ?_
            clear hK K
            simp only [opsAt, List.getElem?_toArray, List.getElem?_cons_succ, List.getElem?_cons_zero]
            refine wpQuiet_nil ?_
            refine eff_as (C' := (fun w' => ∃ s : Later w7.heap.size w7, w' = s.W)) rfl ?_
            (refine eff_lit rfl rfl (fun K hK => ?_))
            go_big_op
            refine hK _ _ ⟨⟨_, ((Below.refl _ _).alloc (Nat.le_refl _) _).drew⟩, rfl⟩ ?_
            clear hK K z0 z1 z2 hyu hyi hyo hyt
            simp only [opsAt, List.getElem?_toArray, List.getElem?_cons_succ, List.getElem?_cons_zero]
            refine wpQuiet_nil ?_
            refine effs_done ?_
            have hb78 : Below w7.heap.size w7 (w7.alloc (.cells #[.int .i64 a, .int .i64 b, .int .i64 oc] 30)).drew := (al_below _).drew
            have HGLT : Hid (∀ g, blkOf GA = some g → g < w7.heap.size) := Lib.hid (fun g q => (HGS7.out.lt g q).2)
            have HGS_8 := Lib.hid (HGS7.out.below hb78)
            have HBK_8 := Lib.hid (HBK7.out.below hb78)
            have HMT_8 := Lib.hid (HMT.out.below hb78)
            have HSN_8 := Lib.hid (HSN7.out.below hb78)
            have HBE_8 := Lib.hid (HBE7.out.trans (hb78.mono (Nat.le_of_lt (HMT.out.lt B rfl).2)))
            have HH_8 := Lib.hid (Blk.mk_ w7 30 #[.int .i64 a, .int .i64 b, .int .i64 oc] _ rfl).drew
            have hBl7 : B < w7.heap.size := (HMT.out.lt B rfl).2
            have hgH8 : w7.heap.size < (w7.alloc (.cells #[.int .i64 a, .int .i64 b, .int .i64 oc] 30)).drew.heap.size := HH_8.out.lt
            generalize (w7.alloc (.cells #[.int .i64 a, .int .i64 b, .int .i64 oc] 30)).drew = w8 at *
            obtain ⟨gH, hgH⟩ : ∃ g, w7.heap.size = g := ⟨_, rfl⟩
            rw [hgH] at HGLT HH_8 hBl7 hgH8 ⊢
            clear hb78 HGS7 HBK7 HMT HSN7 HBE7 HD7 hgH hBl
            have y0 : ∀ s : In (fun W => Blk W gH 30 #[.int .i64 a, .int .i64 b, .int .i64 oc]), s.W.cell? ⟨gH, 0, none⟩ = some (.int .i64 a) := fun s => (s.h.at_ 0).trans rfl
            have y1 : ∀ s : In (fun W => Blk W gH 30 #[.int .i64 a, .int .i64 b, .int .i64 oc]), s.W.cell? ⟨gH, 1, none⟩ = some (.int .i64 b) := fun s => (s.h.at_ 1).trans rfl
            have y2 : ∀ s : In (fun W => Blk W gH 30 #[.int .i64 a, .int .i64 b, .int .i64 oc]), s.W.cell? ⟨gH, 2, none⟩ = some (.int .i64 oc) := fun s => (s.h.at_ 2).trans rfl
            haveI : Nonempty (In (fun W => Blk W gH 30 #[.int .i64 a, .int .i64 b, .int .i64 oc])) := ⟨⟨_, HH_8.out⟩⟩
            go_wp2
            refine wp_region_sched (fun w' => ∃ s : In (fun W => Blk W gH 30 #[.int .i64 a, .int .i64 b, .int .i64 oc]), w' = s.W) [0,1,4,6] (.two 2 [] (.two 3 [] (.one 5 [] (.one 7 [8,9] .done)) 5 [] (.one 3 [] (.one 7 [8,9] .done))) 5 [] (.one 2 [] (.one 3 [] (.one 7 [8,9] .done)))) (by kernel_rfl) (by kernel_rfl) (fun d _ _ _ _ h => by cases d <;> exact h) ⟨⟨_, HH_8.out.drew⟩, rfl⟩ ?_
            refine quiet_as (C' := (fun w' => ∃ s : In (fun W => Blk W gH 30 #[.int .i64 a, .int .i64 b, .int .i64 oc]), w' = s.W)) rfl ?_
            simp only [opsAt, List.getElem?_toArray, List.getElem?_cons_succ, List.getElem?_cons_zero]
            repeat (go_big_quiet_step (fail))
            refine wpQuiet_nil ?_
            clear y0 y1 y2 this
            refine ⟨?_, ?_⟩
            · refine eff_as (C' := (fun w' => ∃ s : In (fun W => Blk W gH 30 #[.int .i64 a, .int .i64 b, .int .i64 oc]), w' = s.W)) rfl ?_
              (refine eff_lit rfl rfl (fun K hK => ?_))
              go_big_op
              have hbl9 : Below w8.heap.size w8 (w8.alloc (.cells #[.int .i64 a, .int .i64 b, .int .i64 oc] 30)).drew := (al_below (w := w8) (.cells #[.int .i64 a, .int .i64 b, .int .i64 oc] 30)).drew
              have HL1_9 := Lib.hid ((XOwns.lit w8 w8.heap.size 30 3 #[.int .i64 a, .int .i64 b, .int .i64 oc] 1 (Nat.le_refl _) (by decide) rfl).drew_)
              have HGS_9 := Lib.hid (HGS_8.out.below hbl9)
              have HBK_9 := Lib.hid (HBK_8.out.below hbl9)
              have HMT_9 := Lib.hid (HMT_8.out.below hbl9)
              have HSN_9 := Lib.hid (HSN_8.out.below hbl9)
              have HBE_9 := Lib.hid (HBE_8.out.trans (hbl9.mono (Nat.le_of_lt (HMT_8.out.lt B rfl).2)))
              have HH_9 := Lib.hid (HH_8.out.call hbl9)
              obtain ⟨gL1, hgL1⟩ : ∃ g, w8.heap.size = g := ⟨_, rfl⟩
              rw [hgL1] at HL1_9
              refine hK _ _ ⟨⟨_, HH_9.out⟩, rfl⟩ ?_
              clear hK K
              have hsz9 := hbl9.size
              have hlt9 : gL1 < (w8.alloc (.cells #[.int .i64 a, .int .i64 b, .int .i64 oc] 30)).drew.heap.size := (HL1_9.out.lt gL1 rfl).2
              clear hbl9
              try rw [hgL1]
              generalize (w8.alloc (.cells #[.int .i64 a, .int .i64 b, .int .i64 oc] 30)).drew = w9 at *
              simp only [opsAt, List.getElem?_toArray, List.getElem?_cons_succ, List.getElem?_cons_zero]
              refine wpQuiet_nil ?_
              refine ⟨?_, ?_⟩
              · refine eff_as (C' := (fun w' => ∃ s : In (fun W => Blk W gH 30 #[.int .i64 a, .int .i64 b, .int .i64 oc]), w' = s.W)) rfl ?_
                (refine eff_lit rfl rfl (fun K hK => ?_))
                refine append_x_op (w := w9) (.tmp 164) (.tmp 166) 22 rfl B 30 _ 3 24 Try.info30 Try.underlying22 rfl (by decide) GA kg cG (gcells gs) ?_ HGS_9.out (some ⟨gL1, 0, none⟩) 1 1 (gcells [(⟨a, b, oc⟩ : Gm)]) ?_ HL1_9.out.reads (gcells_one _) (by decide) ?_ ?_ ?_ _ rfl ?_
                · rfl
                · rfl
                · omega
                · omega
                · exact Nat.le_of_lt (HMT_9.out.lt B rfl).2
                intro g1 cG2 w10 ho10 hg10 hi10 hl10
                simp only [Act.put, List.setIfInBounds_toArray, List.set_cons_succ, List.set_cons_zero]
                have HGS_10 := Lib.hid ho10
                have HMT_10 := Lib.hid (HMT_9.out.grown hg10 (HMT_9.out.apart HGS_9.out (by decide)))
                have HSN_10 := Lib.hid (HSN_9.out.grown hg10 (HSN_9.out.apart HGS_9.out (by decide)))
                have HBK_10 := Lib.hid (HBK_9.out.grown hg10 (sep_ne HSEP.out))
                have HBE_10 := Lib.hid (HBE_9.out.grown hg10 (Nat.le_of_lt (HMT_9.out.lt B rfl).2) (fun q hq => (HGS_9.out.lt q hq).1))
                have HH_10 := Lib.hid (HH_9.out.grown hg10 (fun q => by have := HGLT.out gH q.symm; omega))
                have hsg10 := hg10.size
                refine hK _ _ ⟨⟨_, HH_10.out⟩, rfl⟩ ?_
                clear hK K ho10 hg10
                simp only [opsAt, List.getElem?_toArray, List.getElem?_cons_succ, List.getElem?_cons_zero]
                refine wpQuiet_nil ?_
                refine eff_as (C' := (fun w' => ∃ s : In (fun W => Blk W gH 30 #[.int .i64 a, .int .i64 b, .int .i64 oc]), w' = s.W)) rfl ?_
                (refine eff_lit rfl rfl (fun K hK => ?_))
                go_big_op
                have hbl11 : Below w10.heap.size w10 (w10.alloc (.cells #[.int .i64 a, .int .i64 b, .int .i64 oc] 30)) := al_below (w := w10) (.cells #[.int .i64 a, .int .i64 b, .int .i64 oc] 30)
                have HL2_11 := Lib.hid ((XOwns.lit w10 w10.heap.size 30 3 #[.int .i64 a, .int .i64 b, .int .i64 oc] 1 (Nat.le_refl _) (by decide) rfl))
                have HGS_11 := Lib.hid (HGS_10.out.below hbl11)
                have HBK_11 := Lib.hid (HBK_10.out.below hbl11)
                have HMT_11 := Lib.hid (HMT_10.out.below hbl11)
                have HSN_11 := Lib.hid (HSN_10.out.below hbl11)
                have HBE_11 := Lib.hid (HBE_10.out.trans (hbl11.mono (Nat.le_of_lt (HMT_10.out.lt B rfl).2)))
                have HH_11 := Lib.hid (HH_10.out.call hbl11)
                obtain ⟨gL2, hgL2⟩ : ∃ g, w10.heap.size = g := ⟨_, rfl⟩
                rw [hgL2] at HL2_11
                refine hK _ _ ⟨⟨_, HH_11.out⟩, rfl⟩ ?_
                clear hK K
                have hsz11 := hbl11.size
                have hlt11 : gL2 < (w10.alloc (.cells #[.int .i64 a, .int .i64 b, .int .i64 oc] 30)).heap.size := (HL2_11.out.lt gL2 rfl).2
                clear hbl11
                try rw [hgL2]
                generalize (w10.alloc (.cells #[.int .i64 a, .int .i64 b, .int .i64 oc] 30)) = w11 at *
                simp only [opsAt, List.getElem?_toArray, List.getElem?_cons_succ, List.getElem?_cons_zero]
                refine wpQuiet_nil ?_
                refine eff_as (C' := (fun w' => ∃ s : In (fun W => Blk W gH 30 #[.int .i64 a, .int .i64 b, .int .i64 oc]), w' = s.W)) rfl ?_
                (refine eff_lit rfl rfl (fun K hK => ?_))
                refine append_xg_op (w := w11) (.tmp 169) (.tmp 170) 22 rfl gL2 30 _ 3 24 Try.info30 Try.underlying22 rfl (by decide) gL2 1 1 (gcells [(⟨a, b, oc⟩ : Gm)]) ?_ HL2_11.out BA kg cB (gcells gs.reverse) ?_ HBK_11.out.2 HNB.out HBK_11.out.reads (gcells_one _) ?_ ?_ ?_ ?_
                · rfl
                · rfl
                · omega
                · omega
                · exact Nat.le_of_lt (HL2_11.out.lt gL2 rfl).2
                intro g2 cB2 w12 ho12 hg12 hi12
                simp only [Act.put, List.setIfInBounds_toArray, List.set_cons_succ, List.set_cons_zero]
                have HBK_12 := Lib.hid ho12
                have HMT_12 := Lib.hid (HMT_11.out.grown hg12 (HMT_11.out.apart HL2_11.out (by decide)))
                have HSN_12 := Lib.hid (HSN_11.out.grown hg12 (HSN_11.out.apart HL2_11.out (by decide)))
                have hq1 : g1 ≠ gL2 := by
                  rcases hi10 with q | q
                  · have := HGLT.out g1 q; omega
                  · omega
                have hq2 : g1 ≠ g2 := by
                  have q3 := (HGS_11.out.lt g1 rfl).2
                  rcases hi12 with q | q
                  · rw [q]; exact hq1
                  · omega
                have HGS_12 := Lib.hid (HGS_11.out.grown hg12 (.inr (fun q => hq1 (by injection q))))
                have HBE_12 := Lib.hid (HBE_11.out.grown hg12 (Nat.le_of_lt (HMT_11.out.lt B rfl).2) (fun q hq => by injection hq with hq; omega))
                have HH_12 := Lib.hid (HH_11.out.grown hg12 (fun q => by injection q with q; omega))
                refine hK _ _ ⟨⟨_, HH_12.out⟩, rfl⟩ ?_
                clear hK K ho12 hg12
                simp only [opsAt, List.getElem?_toArray, List.getElem?_cons_succ, List.getElem?_cons_zero]
                repeat (go_big_quiet_step (fail))
                refine wpQuiet_nil ?_
                refine effs_done ?_
                have o2 : w12.cell? ⟨gH, 2, none⟩ = some (.int .i64 oc) := (HH_12.out.at_ 2).trans rfl
                have HSEP2 : Hid (∀ g, blkOf (some (⟨g1, 0, none⟩ : Addr)) = some g → blkOf (some (⟨g2, 0, none⟩ : Addr)) ≠ some g) := Lib.hid (fun g q q2 => by
                  injection q with q
                  injection q2 with q2
                  exact hq2 (q.trans q2.symm))
                have HFIN : Hid (∀ wo2 : Int, wo2 = worthS (gmz (dsR n r ++ (schS n r).take (k + 1)) xs) → HS B n NN xs (dsR n r ++ (schS n r).take (k + 1)) (some ⟨g1, 0, none⟩) (some ⟨g2, 0, none⟩) cG2 cB2 (kg + 1) (al + 1) wo2 w1 w12) := Lib.hid (fun wo2 hwo2 => by
                  refine ⟨by rw [HTK.out, ← List.append_assoc]; exact HMT_12.out, ?_, ?_, HSEP2.out, (fun q => by omega), by rw [HTK.out, HAL.out]; simp only [List.length_append, List.length_cons, List.length_nil]; omega, hwo2, HBE_12.out⟩
                  · rw [HSN2.out, gcells_app]; exact HGS_12.out
                  · have h := own_lower (b' := B) HBK_12.out (by omega)
                    rw [HSN2.out, List.reverse_append, gcells_app, show kg + 1 = 1 + kg by omega]
                    exact h)
                rcases hoc with ⟨rfl, h3⟩ | h3
                · have HW3 : Hid (worthS (gmz (dsR n r ++ (schS n r).take (k + 1)) xs) = wo + 2) := Lib.hid (by rw [HSN2.out, worthS_snoc, HWO.out]; rfl)
                  go_wp2
                  go_roundw
                  case rel => exact ⟨k + 1, some ⟨g1, 0, none⟩, some ⟨g2, 0, none⟩, cG2, cB2, kg + 1, al + 1, _, hkl, rfl, by first | rfl | (rw [Nat.add_comm]), by go_num, by go_num, by go_num, by omega, HFIN.out _ (by first | (rw [HW3.out]; done) | (rw [HW3.out]; omega)), HSN_12⟩
                  case measure => simp [intOf]; omega
                · have HW3 : Hid (worthS (gmz (dsR n r ++ (schS n r).take (k + 1)) xs) = wo + 3) := Lib.hid (by
                    rw [HSN2.out, worthS_snoc, HWO.out]
                    unfold worth
                    rw [if_neg (fun q => by rw [show oc = 3 from q] at h3; cases h3)])
                  go_wp2
                  go_roundw
                  case rel => exact ⟨k + 1, some ⟨g1, 0, none⟩, some ⟨g2, 0, none⟩, cG2, cB2, kg + 1, al + 1, _, hkl, rfl, by first | rfl | (rw [Nat.add_comm]), by go_num, by go_num, by go_num, by omega, HFIN.out _ (by first | (rw [HW3.out]; done) | (rw [HW3.out]; omega)), HSN_12⟩
                  case measure => simp [intOf]; omega
              · refine eff_as (C' := (fun w' => ∃ s : In (fun W => Blk W gH 30 #[.int .i64 a, .int .i64 b, .int .i64 oc]), w' = s.W)) rfl ?_
                (refine eff_lit rfl rfl (fun K hK => ?_))
                go_big_op
                have hbl10 : Below w9.heap.size w9 (w9.alloc (.cells #[.int .i64 a, .int .i64 b, .int .i64 oc] 30)) := al_below (w := w9) (.cells #[.int .i64 a, .int .i64 b, .int .i64 oc] 30)
                have HL2_10 := Lib.hid ((XOwns.lit w9 w9.heap.size 30 3 #[.int .i64 a, .int .i64 b, .int .i64 oc] 1 (Nat.le_refl _) (by decide) rfl))
                have HGS_10 := Lib.hid (HGS_9.out.below hbl10)
                have HBK_10 := Lib.hid (HBK_9.out.below hbl10)
                have HMT_10 := Lib.hid (HMT_9.out.below hbl10)
                have HSN_10 := Lib.hid (HSN_9.out.below hbl10)
                have HBE_10 := Lib.hid (HBE_9.out.trans (hbl10.mono (Nat.le_of_lt (HMT_9.out.lt B rfl).2)))
                have HH_10 := Lib.hid (HH_9.out.call hbl10)
                have HL1_10 := Lib.hid (HL1_9.out.below hbl10)
                obtain ⟨gL2, hgL2⟩ : ∃ g, w9.heap.size = g := ⟨_, rfl⟩
                rw [hgL2] at HL2_10
                refine hK _ _ ⟨⟨_, HH_10.out⟩, rfl⟩ ?_
                clear hK K
                have hsz10 := hbl10.size
                have hlt10 : gL2 < (w9.alloc (.cells #[.int .i64 a, .int .i64 b, .int .i64 oc] 30)).heap.size := (HL2_10.out.lt gL2 rfl).2
                clear hbl10
                try rw [hgL2]
                generalize (w9.alloc (.cells #[.int .i64 a, .int .i64 b, .int .i64 oc] 30)) = w10 at *
                simp only [opsAt, List.getElem?_toArray, List.getElem?_cons_succ, List.getElem?_cons_zero]
                refine wpQuiet_nil ?_
                refine eff_as (C' := (fun w' => ∃ s : In (fun W => Blk W gH 30 #[.int .i64 a, .int .i64 b, .int .i64 oc]), w' = s.W)) rfl ?_
                (refine eff_lit rfl rfl (fun K hK => ?_))
                refine append_x_op (w := w10) (.tmp 164) (.tmp 166) 22 rfl B 30 _ 3 24 Try.info30 Try.underlying22 rfl (by decide) GA kg cG (gcells gs) ?_ HGS_10.out (some ⟨gL1, 0, none⟩) 1 1 (gcells [(⟨a, b, oc⟩ : Gm)]) ?_ HL1_10.out.reads (gcells_one _) (by decide) ?_ ?_ ?_ _ rfl ?_
                · rfl
                · rfl
                · omega
                · omega
                · exact Nat.le_of_lt (HMT_10.out.lt B rfl).2
                intro g1 cG2 w11 ho11 hg11 hi11 hl11
                simp only [Act.put, List.setIfInBounds_toArray, List.set_cons_succ, List.set_cons_zero]
                have HGS_11 := Lib.hid ho11
                have HMT_11 := Lib.hid (HMT_10.out.grown hg11 (HMT_10.out.apart HGS_10.out (by decide)))
                have HSN_11 := Lib.hid (HSN_10.out.grown hg11 (HSN_10.out.apart HGS_10.out (by decide)))
                have HBK_11 := Lib.hid (HBK_10.out.grown hg11 (sep_ne HSEP.out))
                have HBE_11 := Lib.hid (HBE_10.out.grown hg11 (Nat.le_of_lt (HMT_10.out.lt B rfl).2) (fun q hq => (HGS_10.out.lt q hq).1))
                have HH_11 := Lib.hid (HH_10.out.grown hg11 (fun q => by have := HGLT.out gH q.symm; omega))
                have HL2_11 := Lib.hid (HL2_10.out.grown hg11 (.inr (fun q => by have := HGLT.out gL2 q.symm; omega)))
                have hsg11 := hg11.size
                refine hK _ _ ⟨⟨_, HH_11.out⟩, rfl⟩ ?_
                clear hK K ho11 hg11
                simp only [opsAt, List.getElem?_toArray, List.getElem?_cons_succ, List.getElem?_cons_zero]
                refine wpQuiet_nil ?_
                refine eff_as (C' := (fun w' => ∃ s : In (fun W => Blk W gH 30 #[.int .i64 a, .int .i64 b, .int .i64 oc]), w' = s.W)) rfl ?_
                (refine eff_lit rfl rfl (fun K hK => ?_))
                refine append_xg_op (w := w11) (.tmp 169) (.tmp 170) 22 rfl gL2 30 _ 3 24 Try.info30 Try.underlying22 rfl (by decide) gL2 1 1 (gcells [(⟨a, b, oc⟩ : Gm)]) ?_ HL2_11.out BA kg cB (gcells gs.reverse) ?_ HBK_11.out.2 HNB.out HBK_11.out.reads (gcells_one _) ?_ ?_ ?_ ?_
                · rfl
                · rfl
                · omega
                · omega
                · exact Nat.le_of_lt (HL2_11.out.lt gL2 rfl).2
                intro g2 cB2 w12 ho12 hg12 hi12
                simp only [Act.put, List.setIfInBounds_toArray, List.set_cons_succ, List.set_cons_zero]
                have HBK_12 := Lib.hid ho12
                have HMT_12 := Lib.hid (HMT_11.out.grown hg12 (HMT_11.out.apart HL2_11.out (by decide)))
                have HSN_12 := Lib.hid (HSN_11.out.grown hg12 (HSN_11.out.apart HL2_11.out (by decide)))
                have hq1 : g1 ≠ gL2 := by
                  rcases hi11 with q | q
                  · have := HGLT.out g1 q; omega
                  · omega
                have hq2 : g1 ≠ g2 := by
                  have q3 := (HGS_11.out.lt g1 rfl).2
                  rcases hi12 with q | q
                  · rw [q]; exact hq1
                  · omega
                have HGS_12 := Lib.hid (HGS_11.out.grown hg12 (.inr (fun q => hq1 (by injection q))))
                have HBE_12 := Lib.hid (HBE_11.out.grown hg12 (Nat.le_of_lt (HMT_11.out.lt B rfl).2) (fun q hq => by injection hq with hq; omega))
                have HH_12 := Lib.hid (HH_11.out.grown hg12 (fun q => by injection q with q; omega))
                refine hK _ _ ⟨⟨_, HH_12.out⟩, rfl⟩ ?_
                clear hK K ho12 hg12
                simp only [opsAt, List.getElem?_toArray, List.getElem?_cons_succ, List.getElem?_cons_zero]
                repeat (go_big_quiet_step (fail))
                refine wpQuiet_nil ?_
                refine effs_done ?_
                have o2 : w12.cell? ⟨gH, 2, none⟩ = some (.int .i64 oc) := (HH_12.out.at_ 2).trans rfl
                have HSEP2 : Hid (∀ g, blkOf (some (⟨g1, 0, none⟩ : Addr)) = some g → blkOf (some (⟨g2, 0, none⟩ : Addr)) ≠ some g) := Lib.hid (fun g q q2 => by
                  injection q with q
                  injection q2 with q2
                  exact hq2 (q.trans q2.symm))
                have HFIN : Hid (∀ wo2 : Int, wo2 = worthS (gmz (dsR n r ++ (schS n r).take (k + 1)) xs) → HS B n NN xs (dsR n r ++ (schS n r).take (k + 1)) (some ⟨g1, 0, none⟩) (some ⟨g2, 0, none⟩) cG2 cB2 (kg + 1) (al + 1) wo2 w1 w12) := Lib.hid (fun wo2 hwo2 => by
                  refine ⟨by rw [HTK.out, ← List.append_assoc]; exact HMT_12.out, ?_, ?_, HSEP2.out, (fun q => by omega), by rw [HTK.out, HAL.out]; simp only [List.length_append, List.length_cons, List.length_nil]; omega, hwo2, HBE_12.out⟩
                  · rw [HSN2.out, gcells_app]; exact HGS_12.out
                  · have h := own_lower (b' := B) HBK_12.out (by omega)
                    rw [HSN2.out, List.reverse_append, gcells_app, show kg + 1 = 1 + kg by omega]
                    exact h)
                rcases hoc with ⟨rfl, h3⟩ | h3
                · have HW3 : Hid (worthS (gmz (dsR n r ++ (schS n r).take (k + 1)) xs) = wo + 2) := Lib.hid (by rw [HSN2.out, worthS_snoc, HWO.out]; rfl)
                  go_wp2
                  go_roundw
                  case rel => exact ⟨k + 1, some ⟨g1, 0, none⟩, some ⟨g2, 0, none⟩, cG2, cB2, kg + 1, al + 1, _, hkl, rfl, by first | rfl | (rw [Nat.add_comm]), by go_num, by go_num, by go_num, by omega, HFIN.out _ (by first | (rw [HW3.out]; done) | (rw [HW3.out]; omega)), HSN_12⟩
                  case measure => simp [intOf]; omega
                · have HW3 : Hid (worthS (gmz (dsR n r ++ (schS n r).take (k + 1)) xs) = wo + 3) := Lib.hid (by
                    rw [HSN2.out, worthS_snoc, HWO.out]
                    unfold worth
                    rw [if_neg (fun q => by rw [show oc = 3 from q] at h3; cases h3)])
                  go_wp2
                  go_roundw
                  case rel => exact ⟨k + 1, some ⟨g1, 0, none⟩, some ⟨g2, 0, none⟩, cG2, cB2, kg + 1, al + 1, _, hkl, rfl, by first | rfl | (rw [Nat.add_comm]), by go_num, by go_num, by go_num, by omega, HFIN.out _ (by first | (rw [HW3.out]; done) | (rw [HW3.out]; omega)), HSN_12⟩
                  case measure => simp [intOf]; omega
            · refine eff_as (C' := (fun w' => ∃ s : In (fun W => Blk W gH 30 #[.int .i64 a, .int .i64 b, .int .i64 oc]), w' = s.W)) rfl ?_
              (refine eff_lit rfl rfl (fun K hK => ?_))
              go_big_op
              have hbl9 : Below w8.heap.size w8 (w8.alloc (.cells #[.int .i64 a, .int .i64 b, .int .i64 oc] 30)).drew := (al_below (w := w8) (.cells #[.int .i64 a, .int .i64 b, .int .i64 oc] 30)).drew
              have HL2_9 := Lib.hid ((XOwns.lit w8 w8.heap.size 30 3 #[.int .i64 a, .int .i64 b, .int .i64 oc] 1 (Nat.le_refl _) (by decide) rfl).drew_)
              have HGS_9 := Lib.hid (HGS_8.out.below hbl9)
              have HBK_9 := Lib.hid (HBK_8.out.below hbl9)
              have HMT_9 := Lib.hid (HMT_8.out.below hbl9)
              have HSN_9 := Lib.hid (HSN_8.out.below hbl9)
              have HBE_9 := Lib.hid (HBE_8.out.trans (hbl9.mono (Nat.le_of_lt (HMT_8.out.lt B rfl).2)))
              have HH_9 := Lib.hid (HH_8.out.call hbl9)
              obtain ⟨gL2, hgL2⟩ : ∃ g, w8.heap.size = g := ⟨_, rfl⟩
              rw [hgL2] at HL2_9
              refine hK _ _ ⟨⟨_, HH_9.out⟩, rfl⟩ ?_
              clear hK K
              have hsz9 := hbl9.size
              have hlt9 : gL2 < (w8.alloc (.cells #[.int .i64 a, .int .i64 b, .int .i64 oc] 30)).drew.heap.size := (HL2_9.out.lt gL2 rfl).2
              clear hbl9
              try rw [hgL2]
              generalize (w8.alloc (.cells #[.int .i64 a, .int .i64 b, .int .i64 oc] 30)).drew = w9 at *
              simp only [opsAt, List.getElem?_toArray, List.getElem?_cons_succ, List.getElem?_cons_zero]
              refine wpQuiet_nil ?_
              refine eff_as (C' := (fun w' => ∃ s : In (fun W => Blk W gH 30 #[.int .i64 a, .int .i64 b, .int .i64 oc]), w' = s.W)) rfl ?_
              (refine eff_lit rfl rfl (fun K hK => ?_))
              go_big_op
              have hbl10 : Below w9.heap.size w9 (w9.alloc (.cells #[.int .i64 a, .int .i64 b, .int .i64 oc] 30)) := al_below (w := w9) (.cells #[.int .i64 a, .int .i64 b, .int .i64 oc] 30)
              have HL1_10 := Lib.hid ((XOwns.lit w9 w9.heap.size 30 3 #[.int .i64 a, .int .i64 b, .int .i64 oc] 1 (Nat.le_refl _) (by decide) rfl))
              have HGS_10 := Lib.hid (HGS_9.out.below hbl10)
              have HBK_10 := Lib.hid (HBK_9.out.below hbl10)
              have HMT_10 := Lib.hid (HMT_9.out.below hbl10)
              have HSN_10 := Lib.hid (HSN_9.out.below hbl10)
              have HBE_10 := Lib.hid (HBE_9.out.trans (hbl10.mono (Nat.le_of_lt (HMT_9.out.lt B rfl).2)))
              have HH_10 := Lib.hid (HH_9.out.call hbl10)
              have HL2_10 := Lib.hid (HL2_9.out.below hbl10)
              obtain ⟨gL1, hgL1⟩ : ∃ g, w9.heap.size = g := ⟨_, rfl⟩
              rw [hgL1] at HL1_10
              refine hK _ _ ⟨⟨_, HH_10.out⟩, rfl⟩ ?_
              clear hK K
              have hsz10 := hbl10.size
              have hlt10 : gL1 < (w9.alloc (.cells #[.int .i64 a, .int .i64 b, .int .i64 oc] 30)).heap.size := (HL1_10.out.lt gL1 rfl).2
              clear hbl10
              try rw [hgL1]
              generalize (w9.alloc (.cells #[.int .i64 a, .int .i64 b, .int .i64 oc] 30)) = w10 at *
              simp only [opsAt, List.getElem?_toArray, List.getElem?_cons_succ, List.getElem?_cons_zero]
              refine wpQuiet_nil ?_
              refine eff_as (C' := (fun w' => ∃ s : In (fun W => Blk W gH 30 #[.int .i64 a, .int .i64 b, .int .i64 oc]), w' = s.W)) rfl ?_
              (refine eff_lit rfl rfl (fun K hK => ?_))
              refine append_x_op (w := w10) (.tmp 164) (.tmp 166) 22 rfl B 30 _ 3 24 Try.info30 Try.underlying22 rfl (by decide) GA kg cG (gcells gs) ?_ HGS_10.out (some ⟨gL1, 0, none⟩) 1 1 (gcells [(⟨a, b, oc⟩ : Gm)]) ?_ HL1_10.out.reads (gcells_one _) (by decide) ?_ ?_ ?_ _ rfl ?_
              · rfl
              · rfl
              · omega
              · omega
              · exact Nat.le_of_lt (HMT_10.out.lt B rfl).2
              intro g1 cG2 w11 ho11 hg11 hi11 hl11
              simp only [Act.put, List.setIfInBounds_toArray, List.set_cons_succ, List.set_cons_zero]
              have HGS_11 := Lib.hid ho11
              have HMT_11 := Lib.hid (HMT_10.out.grown hg11 (HMT_10.out.apart HGS_10.out (by decide)))
              have HSN_11 := Lib.hid (HSN_10.out.grown hg11 (HSN_10.out.apart HGS_10.out (by decide)))
              have HBK_11 := Lib.hid (HBK_10.out.grown hg11 (sep_ne HSEP.out))
              have HBE_11 := Lib.hid (HBE_10.out.grown hg11 (Nat.le_of_lt (HMT_10.out.lt B rfl).2) (fun q hq => (HGS_10.out.lt q hq).1))
              have HH_11 := Lib.hid (HH_10.out.grown hg11 (fun q => by have := HGLT.out gH q.symm; omega))
              have HL2_11 := Lib.hid (HL2_10.out.grown hg11 (.inr (fun q => by have := HGLT.out gL2 q.symm; omega)))
              have hsg11 := hg11.size
              refine hK _ _ ⟨⟨_, HH_11.out⟩, rfl⟩ ?_
              clear hK K ho11 hg11
              simp only [opsAt, List.getElem?_toArray, List.getElem?_cons_succ, List.getElem?_cons_zero]
              refine wpQuiet_nil ?_
              refine eff_as (C' := (fun w' => ∃ s : In (fun W => Blk W gH 30 #[.int .i64 a, .int .i64 b, .int .i64 oc]), w' = s.W)) rfl ?_
              (refine eff_lit rfl rfl (fun K hK => ?_))
              refine append_xg_op (w := w11) (.tmp 169) (.tmp 170) 22 rfl gL2 30 _ 3 24 Try.info30 Try.underlying22 rfl (by decide) gL2 1 1 (gcells [(⟨a, b, oc⟩ : Gm)]) ?_ HL2_11.out BA kg cB (gcells gs.reverse) ?_ HBK_11.out.2 HNB.out HBK_11.out.reads (gcells_one _) ?_ ?_ ?_ ?_
              · rfl
              · rfl
              · omega
              · omega
              · exact Nat.le_of_lt (HL2_11.out.lt gL2 rfl).2
              intro g2 cB2 w12 ho12 hg12 hi12
              simp only [Act.put, List.setIfInBounds_toArray, List.set_cons_succ, List.set_cons_zero]
              have HBK_12 := Lib.hid ho12
              have HMT_12 := Lib.hid (HMT_11.out.grown hg12 (HMT_11.out.apart HL2_11.out (by decide)))
              have HSN_12 := Lib.hid (HSN_11.out.grown hg12 (HSN_11.out.apart HL2_11.out (by decide)))
              have hq1 : g1 ≠ gL2 := by
                rcases hi11 with q | q
                · have := HGLT.out g1 q; omega
                · omega
              have hq2 : g1 ≠ g2 := by
                have q3 := (HGS_11.out.lt g1 rfl).2
                rcases hi12 with q | q
                · rw [q]; exact hq1
                · omega
              have HGS_12 := Lib.hid (HGS_11.out.grown hg12 (.inr (fun q => hq1 (by injection q))))
              have HBE_12 := Lib.hid (HBE_11.out.grown hg12 (Nat.le_of_lt (HMT_11.out.lt B rfl).2) (fun q hq => by injection hq with hq; omega))
              have HH_12 := Lib.hid (HH_11.out.grown hg12 (fun q => by injection q with q; omega))
              refine hK _ _ ⟨⟨_, HH_12.out⟩, rfl⟩ ?_
              clear hK K ho12 hg12
              simp only [opsAt, List.getElem?_toArray, List.getElem?_cons_succ, List.getElem?_cons_zero]
              repeat (go_big_quiet_step (fail))
              refine wpQuiet_nil ?_
              refine effs_done ?_
              have o2 : w12.cell? ⟨gH, 2, none⟩ = some (.int .i64 oc) := (HH_12.out.at_ 2).trans rfl
              have HSEP2 : Hid (∀ g, blkOf (some (⟨g1, 0, none⟩ : Addr)) = some g → blkOf (some (⟨g2, 0, none⟩ : Addr)) ≠ some g) := Lib.hid (fun g q q2 => by
                injection q with q
                injection q2 with q2
                exact hq2 (q.trans q2.symm))
              have HFIN : Hid (∀ wo2 : Int, wo2 = worthS (gmz (dsR n r ++ (schS n r).take (k + 1)) xs) → HS B n NN xs (dsR n r ++ (schS n r).take (k + 1)) (some ⟨g1, 0, none⟩) (some ⟨g2, 0, none⟩) cG2 cB2 (kg + 1) (al + 1) wo2 w1 w12) := Lib.hid (fun wo2 hwo2 => by
                refine ⟨by rw [HTK.out, ← List.append_assoc]; exact HMT_12.out, ?_, ?_, HSEP2.out, (fun q => by omega), by rw [HTK.out, HAL.out]; simp only [List.length_append, List.length_cons, List.length_nil]; omega, hwo2, HBE_12.out⟩
                · rw [HSN2.out, gcells_app]; exact HGS_12.out
                · have h := own_lower (b' := B) HBK_12.out (by omega)
                  rw [HSN2.out, List.reverse_append, gcells_app, show kg + 1 = 1 + kg by omega]
                  exact h)
              rcases hoc with ⟨rfl, h3⟩ | h3
              · have HW3 : Hid (worthS (gmz (dsR n r ++ (schS n r).take (k + 1)) xs) = wo + 2) := Lib.hid (by rw [HSN2.out, worthS_snoc, HWO.out]; rfl)
                go_wp2
                go_roundw
                case rel => exact ⟨k + 1, some ⟨g1, 0, none⟩, some ⟨g2, 0, none⟩, cG2, cB2, kg + 1, al + 1, _, hkl, rfl, by first | rfl | (rw [Nat.add_comm]), by go_num, by go_num, by go_num, by omega, HFIN.out _ (by first | (rw [HW3.out]; done) | (rw [HW3.out]; omega)), HSN_12⟩
                case measure => simp [intOf]; omega
              · have HW3 : Hid (worthS (gmz (dsR n r ++ (schS n r).take (k + 1)) xs) = wo + 3) := Lib.hid (by
                  rw [HSN2.out, worthS_snoc, HWO.out]
                  unfold worth
                  rw [if_neg (fun q => by rw [show oc = 3 from q] at h3; cases h3)])
                go_wp2
                go_roundw
                case rel => exact ⟨k + 1, some ⟨g1, 0, none⟩, some ⟨g2, 0, none⟩, cG2, cB2, kg + 1, al + 1, _, hkl, rfl, by first | rfl | (rw [Nat.add_comm]), by go_num, by go_num, by go_num, by omega, HFIN.out _ (by first | (rw [HW3.out]; done) | (rw [HW3.out]; omega)), HSN_12⟩
                case measure => simp [intOf]; omega
          · have hall' : decide ((al : Int) < len) = false := decide_eq_false (by omega)
            have HMORE : Hid (gmz (dsR n r ++ (schS n r).take (k + 1)) xs = gmz (dsR n r ++ (schS n r).take k) xs) := Lib.hid (by
              rw [HTK.out, ← List.append_assoc]
              exact gmz_more (by rw [← HAL.out, HXL.out]; omega))
            have hallf : ((al : Int) < len) = False := eq_false (by omega)
            clear hall
            go_wp2
            go_roundw
            case rel => exact ⟨k + 1, GA, BA, cG, cB, kg, al + 1, wo, hkl, rfl, rfl, rfl, by go_num, by go_num, by omega, Lib.hid ⟨by rw [HTK.out, ← List.append_assoc]; exact HMT.out, by rw [HMORE.out]; exact HGS7.out, by rw [HMORE.out]; exact HBK7.out, HSEP.out, HNB.out, by rw [HTK.out, HAL.out]; simp only [List.length_append, List.length_cons, List.length_nil]; omega, by rw [HMORE.out]; exact HWO.out, HBE7.out⟩, HSN7⟩
            case measure => simp [intOf]; omega
        · obtain rfl : k = LN := by omega
          have HFULL : Hid (dsR n r ++ (schS n r).take k = dsR n (r + 1)) := Lib.hid (by rw [List.take_of_length_le (by rw [HLN.out]; exact Nat.le_refl _), dsR_succ])
          rw [HFULL.out] at HH
          have hal2 : al ≤ 40 * (r + 1) := by omega
          go_wp2
          go_roundw
          case rel => exact ⟨r + 1, GA, BA, cG, cB, kg, al, wo, hrM, rfl, rfl, rfl, rfl, by go_num, hal2, HH⟩
          case measure => simp [intOf]; omega
    · obtain rfl : r = M := by omega
      have HALL : Hid (dsR n r = allS n) := Lib.hid (by rw [← HMM.out, dsR_all])
      rw [HALL.out] at HH
      have HGE := Lib.hid (games_err (n := n) (xs := xs) HN.out (by rw [HXL.out]; exact hlen))
      obtain ⟨gs, hgs⟩ : ∃ gs, gmz (allS n) xs = gs := ⟨_, rfl⟩
      have HGOK : Hid (∀ g ∈ gs, GOk n g) := Lib.hid (by rw [← hgs]; exact gmz_in (allS_ok HN.out))
      have HMET := Lib.hid (fun (a b : Nat) (ha : a < n) (hb : b < n) => met_all HN.out ha hb)
      have HME := Lib.hid HH.out.met
      have HGS0 := HH.out.gs
      have HBK0 := HH.out.bk
      have HWO0 := HH.out.wo_
      have HBE := Lib.hid HH.out.bel
      rw [hgs] at HGS0 HBK0 HWO0 HGE
      have HGS := Lib.hid HGS0
      have HBK := Lib.hid HBK0
      have HWO := Lib.hid HWO0
      have hgl : gs.length ≤ 400 := by rw [← hgs]; have := gmz_len (allS n) xs; rw [HXL.out] at this; omega
      have hwoB : 0 ≤ wo ∧ wo ≤ 1200 := by
        have := worthS_bd gs
        rw [← HWO0] at this
        omega
      have HBW := Lib.hid (HB1.out.trans (HH.out.bel.mono (by rw [← HBB.out]; exact HB1.out.size)))
      have hgmw : B < wr.heap.size := (HH.out.met.lt B rfl).2
      clear HH hgs HGS0 HBK0 HWO0 hal HH0 HS1 HX1 hrM hr
      generalize hW : wr = wA at *
      go_wp2
      go_loopw [17] (fun i W => ∃ a : Nat, a ≤ n ∧ i = .int .i64 a ∧ Hid (Below wA.heap.size wA W)) (fun i _ => n - (intOf i).toNat)
      case atStart => exact ⟨0, Nat.zero_le _, rfl, Lib.hid (Below.refl _ _)⟩
      case round =>
        obtain ⟨a, ha, rfl, HBA⟩ := hrel
        by_cases han : a < n
        · have han' : (a : Int) < n := by omega
          go_wp2
          go_loopw [18] (fun i W => ∃ b : Nat, b ≤ n ∧ i = .int .i64 b ∧ Hid (Below wA.heap.size wA W)) (fun i _ => n - (intOf i).toNat)
          case atStart => exact ⟨0, Nat.zero_le _, rfl, HBA⟩
          case round =>
            obtain ⟨b, hb, rfl, HBb⟩ := hrel
            by_cases hbn : b < n
            · have hbn' : (b : Int) < n := by omega
              obtain ⟨P1, hP1⟩ : ∃ P, a * n = P := ⟨_, rfl⟩
              have hI1 := idx_lt han hbn
              rw [HNN.out, hP1] at hI1
              have w01 : IntKind.i64.wrap ((a : Int) * (n : Int)) = (P1 : Int) := by rw [← hP1, Int.natCast_mul]; exact IntWalk.i64_in _ (by rw [← Int.natCast_mul, hP1]; omega)
              have w03 : IntKind.i64.wrap ((P1 : Int) + (b : Int)) = ((P1 + b : Nat) : Int) := by rw [Int.natCast_add]; exact IntWalk.i64_in _ (by omega)
              obtain ⟨I1, hI1e⟩ : ∃ I, P1 + b = I := ⟨_, rfl⟩
              have hI1' : (I1 : Int) < NN := by omega
              have m1 : wr.cell? ⟨B, I1, none⟩ = some (.int .i64 (if a = b then 0 else 1)) := by
                obtain ⟨g', hg', _, h1, h2, h3⟩ := (HME.out.below HBb.out).cell (j := a * n + b) (u := .int .i64 (if a = b then 0 else 1)) (by rw [ics, List.getElem?_map, ith_get (by rw [metL_len]; exact idx_lt han hbn), metL_at _ han hbn, HMET.out a b han hbn]; rfl)
                injection hg' with hg'
                injection hg' with hg'
                subst hg'
                rw [hP1, hI1e] at h2
                exact h2
              rw [hI1e] at w03
              clear hP1 hI1e
              have hBl := Nat.lt_of_lt_of_le hgmw HBb.out.size
              by_cases hab : a = b
              · rw [if_pos hab] at m1
                have e1 : ((a : Int) != (b : Int)) = false := by rw [hab]; simp
                have e2 : ((a : Int) == (b : Int)) = true := by rw [beq_iff_eq, hab]
                clear hab
                go_wp2
                go_roundw
                case rel => exact ⟨b + 1, hbn, by go_num, HBb⟩
                case measure => simp [intOf]; omega
              · rw [if_neg hab] at m1
                have e1 : ((a : Int) != (b : Int)) = true := by rw [bne_iff_ne]; omega
                have e2 : ((a : Int) == (b : Int)) = false := by rw [beq_eq_false_iff_ne]; omega
                clear hab
                go_wp2
                go_roundw
                case rel => exact ⟨b + 1, hbn, by go_num, HBb⟩
                case measure => simp [intOf]; omega
            · obtain rfl : b = n := by omega
              go_wp2
              go_roundw
              case rel => exact ⟨a + 1, han, by go_num, HBb⟩
              case measure => simp [intOf]; omega
        · obtain rfl : a = n := by omega
          have HGR := Lib.hid (HGS.out.below HBA.out).reads
          have HBR := Lib.hid (HBK.out.below HBA.out).reads
          have HBWA := Lib.hid (below_call HBW.out HBA.out HBW.out.size)
          clear HGS HBK HME HMET HBA HBE HBW
          go_wp2_with fail
          refine (table_ok a _ _ _ gs _ HGR.out HGE.out).mono ?_
          rintro e w4 ⟨gT, rfl, ho4, hb4⟩
          have HT4 := Lib.hid ho4.reads
          have HB4 := Lib.hid (below_call HBWA.out hb4 HBWA.out.size)
          have HBR4 := Lib.hid (HBR.out.below hb4)
          have HGR4 := Lib.hid (HGR.out.below hb4)
          clear ho4 hb4
          go_wp2_with fail
          refine (table_ok a _ _ _ gs.reverse _ HBR4.out (by rw [errS_rev]; exact HGE.out)).mono ?_
          rw [tabS_rev]
          rintro e w5 ⟨gU, rfl, ho5, hb5⟩
          have HT5 := Lib.hid (HT4.out.below hb5)
          have HU5 := Lib.hid ho5.reads
          have HB5 := Lib.hid (below_call HB4.out hb5 HB4.out.size)
          have HGR5 := Lib.hid (HGR4.out.below hb5)
          clear ho5 hb5
          go_wp2_with fail
          refine (cross_ok a _ _ _ gs _ HGR5.out HGE.out).mono ?_
          rintro e w6 ⟨gC, GC, rfl, hc6, hb6⟩
          have HT6 := Lib.hid (HT5.out.below hb6)
          have HU6 := Lib.hid (HU5.out.below hb6)
          have HB6 := Lib.hid (below_call HB5.out hb6 HB5.out.size)
          have HC6 := Lib.hid hc6
          clear hc6 hb6
          go_wp2_with fail
          refine (rows_same (tabS a gs) _ HT6.out HU6.out (by omega)).mono ?_
          rintro e w7 ⟨rfl, hb7⟩
          have HT7 := Lib.hid (HT6.out.below hb7)
          have HB7 := Lib.hid (below_call HB6.out hb7 HB6.out.size)
          have HC7 := Lib.hid (HC6.out.below hb7)
          have HTL := Lib.hid (tab_len a gs)
          have HTI := Lib.hid (fun (x : Rw) (hx : x ∈ tabS a gs) => tab_in hx)
          have HTS := Lib.hid (tab_sum HGOK.out)
          have HCS := Lib.hid (fun (p : Nat) (hp : p < a) => cross_sum hp gs HGOK.out)
          obtain ⟨L, hL⟩ : ∃ L, tabS a gs = L := ⟨_, rfl⟩
          rw [hL] at HT7 HTL HTI HTS
          clear hL hb7
          go_wp2
          go_loopw [10, 24] (fun vw i W => ∃ (q : Nat) (z : Int), q ≤ a ∧ vw = .int .i64 z ∧ i = .int .i64 q ∧ Hid (z = wo - ptsT L q) ∧ 0 ≤ wo - z ∧ wo - z ≤ 1200 * (q : Int) ∧ Hid (Below w7.heap.size w7 W)) (fun _ i _ => a - (intOf i).toNat)
          case atStart => exact ⟨0, wo, Nat.zero_le _, rfl, rfl, Lib.hid (by unfold ptsT; simp), by omega, by omega, Lib.hid (Below.refl _ _)⟩
          case round =>
            obtain ⟨q, z, hq, rfl, rfl, HZ, hz1, hz2, HBq⟩ := hrel
            by_cases hqa : q < a
            · have hqa' : (q : Int) < a := by omega
              obtain ⟨ad, had, c0, c1, c2, c3, c4, c5⟩ := row_at (HT7.out.below HBq.out) hqa
              have had' : ad = ⟨gT, 0, none⟩ := by injection had with had; exact had.symm
              subst had'
              obtain ⟨p, hpa, hpl, hpt⟩ := HTI.out _ (List.mem_of_getElem? (rth_get (xs := L) (k := q) (by rw [HTL.out]; exact hqa)))
              have HPS := Lib.hid (ptsT_succ (L := L) (i := q) (by rw [HTL.out]; exact hqa))
              generalize rth L q = x at *
              obtain ⟨x0, x1, x2, x3, x4, x5⟩ := x
              simp only [ad_zero] at c0 c1 c2 c3 c4 c5 hpl hpt
              subst hpl
              have hpa' : (p : Int) < a := by omega
              have hsb := sumS_bd gs p
              rw [← hpt] at hsb
              have HPT := Lib.hid hpt
              have hgTl : gT < wr.heap.size := (HT7.out.below HBq.out).foot (by omega) gT rfl
              have hwoz : wo ≤ 1200 := hwoB.2
              have hza : -24000 ≤ z ∧ z ≤ 1200 := by omega
              have e1 : decide ((p : Int) < 0) = false := decide_eq_false (by omega)
              have e2 : decide ((a : Int) ≤ p) = false := decide_eq_false (by omega)
              have hx1b : 0 ≤ x1 ∧ x1 ≤ 1200 := by omega
              have HBX := Lib.hid (HBq.out.alloc HBq.out.size (.cells #[.int .i64 p, .int .i64 x1, .int .i64 x2, .int .i64 x3, .int .i64 x4, .int .i64 x5] 33))
              have HXB := Lib.hid (Blk.mk_ wr 33 #[.int .i64 p, .int .i64 x1, .int .i64 x2, .int .i64 x3, .int .i64 x4, .int .i64 x5] _ rfl)
              have hgXl := HXB.out.lt
              clear hpt hsb had
              go_wp2
              generalize wr.alloc (.cells #[.int .i64 p, .int .i64 x1, .int .i64 x2, .int .i64 x3, .int .i64 x4, .int .i64 x5] 33) = wB at *
              clear c0 c1 c2 c3 c4 c5
              obtain ⟨gX, hgX⟩ : ∃ g, wr.heap.size = g := ⟨_, rfl⟩
              rw [hgX] at HXB hgXl ⊢
              clear hgX
              go_loopw [26, 27] (fun vs i W => ∃ (k : Nat) (s : Int), k ≤ a ∧ vs = .int .i64 s ∧ i = .int .i64 k ∧ Hid (s = sumN k (fun b => crT gs p b)) ∧ 0 ≤ s ∧ s ≤ 1200 * (k : Int) ∧ Hid (Below wB.heap.size wB W)) (fun _ i _ => a - (intOf i).toNat)
              case atStart => exact ⟨0, 0, Nat.zero_le _, rfl, rfl, Lib.hid rfl, by omega, by omega, Lib.hid (Below.refl _ _)⟩
              case round =>
                obtain ⟨k, s, hk, rfl, rfl, HSS, hs1, hs2, HBk⟩ := hrel
                have HB7k := Lib.hid (below_call HBX.out HBk.out HBX.out.size)
                have p0 : wr.cell? ⟨gX, 0, none⟩ = some (.int .i64 p) := ((HXB.out.below HBk.out hgXl).at_ 0).trans rfl
                have p1 : wr.cell? ⟨gX, 1, none⟩ = some (.int .i64 x1) := ((HXB.out.below HBk.out hgXl).at_ 1).trans rfl
                have hgXr := Nat.lt_of_lt_of_le hgXl HBk.out.size
                by_cases hka : k < a
                · have hka' : (k : Int) < a := by omega
                  have HCk := Lib.hid (HC7.out.below HB7k.out)
                  have o1 := HCk.out.ocell (i := p) hpa (Nat.le_refl _)
                  have o2 := (HCk.out.icell (i := p) (j := k) hpa hka).1
                  rw [rowC_at hka] at o2
                  have hob := crT_bd gs p k
                  have HNX := Lib.hid (sumN_succ k (fun b => crT gs p b))
                  try simp only at HNX
                  generalize crT gs p k = v at *
                  rw [← HSS.out] at HNX
                  go_wp2
                  go_roundw
                  case rel => exact ⟨k + 1, s + v, hka, by go_num, by go_num, Lib.hid HNX.out.symm, by omega, by omega, HBk⟩
                  case measure => simp [intOf]; omega
                · obtain rfl : k = a := by omega
                  have hsx : s = x1 := by rw [HSS.out, HCS.out p hpa, HPT.out]
                  subst hsx
                  have HZ2 : Hid (z - s = wo - ptsT L (q + 1)) := Lib.hid (by rw [HPS.out, HZ.out]; (try simp only); omega)
                  go_wp2
                  go_roundw
                  case rel => exact ⟨q + 1, z - s, hqa, by go_num, by go_num, HZ2, by omega, by omega, HB7k⟩
                  case measure => simp [intOf]; omega
            · obtain rfl : q = a := by omega
              have hz0 : z = 0 := by
                rw [HZ.out, HWO.out, ← HTS.out]
                unfold ptsT
                rw [List.take_of_length_le (by rw [HTL.out]; exact Nat.le_refl _)]
                omega
              subst hz0
              go_wp2_with fail
              refine (known_any _).mono ?_
              rintro e w9 ⟨rfl, hb9⟩
              go_wp2
              go_ret
              exact ⟨rfl, below_call (below_call HB7.out HBq.out HB7.out.size) hb9 (below_call HB7.out HBq.out HB7.out.size).size⟩
end Go.Proofs.Ytekbjlihpmjlfaa
