/-
  The plain law of the stage's theorem: who sits in a round, who has met, the sum of the points.
-/
import Derived.Test.YtngcmihaheiigaaRep
set_option linter.unusedSimpArgs false
set_option linter.unusedVariables false
namespace Go.Proofs.Ytngcmihaheiigaa

/-! ### The sum of the points -/
theorem sum_set {l : List Int} {a : Nat} {v : Int} (ha : a < l.length) : (l.set a v).sum = l.sum - ith l a + v := by
  induction l generalizing a with
  | nil => simp at ha
  | cons x l ih =>
    cases a with
    | zero => simp [ith]; omega
    | succ a =>
      have h := ih (a := a) (by simpa using ha)
      have h2 : ith (x :: l) (a + 1) = ith l a := by simp [ith]
      rw [List.set_cons_succ, List.sum_cons, List.sum_cons, h, h2]
      omega
theorem ptD_len {acc : List Int} {d : D} {s : Int} : (ptD acc d s).length = acc.length := by
  unfold ptD
  split
  · rfl
  · split <;> simp
theorem sum_ptD {n : Nat} {acc : List Int} {d : D} {s : Int} (hl : acc.length = n) (hd : DOk n d) (hs : s ≠ -1) (hb : d.b < 0 → s = 2) : (ptD acc d s).sum = acc.sum + 2 := by
  have h1 := hd.1
  have h2 := hd.2.1
  unfold ptD
  rw [if_neg hs]
  split
  · rename_i hn
    rw [sum_set (by omega), hb hn]
    omega
  · rename_i hn
    have h3 : 0 ≤ d.b ∧ d.b < n ∧ d.a ≠ d.b := by rcases hd.2.2 with h | h <;> omega
    rw [sum_set (by rw [List.length_set]; omega), sum_set (by omega), ith_set (by omega), if_neg (by omega)]
    omega
theorem sum_ptR {n : Nat} : ∀ (l : List D) (ss : List Int) (acc : List Int), acc.length = n → ss.length = l.length → (∀ d ∈ l, DOk n d) → (∀ (j : Nat) (d : D) (s : Int), l[j]? = some d → ss[j]? = some s → s ≠ -1 ∧ (d.b < 0 → s = 2)) → (ptR acc l ss).sum = acc.sum + 2 * (l.length : Int) ∧ (ptR acc l ss).length = n := by
  intro l
  induction l with
  | nil =>
    intro ss acc ha hs _ _
    have : ss = [] := List.eq_nil_of_length_eq_zero (by simpa using hs)
    subst this
    exact ⟨by simp [ptR], by simpa [ptR] using ha⟩
  | cons d l ih =>
    intro ss acc ha hs hd hc
    cases ss with
    | nil => simp at hs
    | cons s ss =>
      rw [ptR_cons]
      have h0 := hc 0 d s rfl rfl
      have h1 := ih ss (ptD acc d s) (by rw [ptD_len]; exact ha) (by simpa using hs) (fun d hd' => hd d (List.mem_cons_of_mem _ hd')) (fun j d s h1 h2 => hc (j + 1) d s h1 h2)
      rw [h1.1, sum_ptD ha (hd d (List.mem_cons_self ..)) h0.1 h0.2]
      refine ⟨?_, h1.2⟩
      simp only [List.length_cons]
      omega
theorem pts_snoc {n : Nat} {rs : List (List D)} {sss : List (List Int)} {l : List D} {ss : List Int} (h : sss.length = rs.length) : ptsS n (rs ++ [l]) (sss ++ [ss]) = ptR (ptsS n rs sss) l ss := by
  unfold ptsS
  rw [List.zip_append h.symm, List.foldl_append]
  rfl
theorem take_sum {l : List Int} {j : Nat} (hj : j < l.length) : (l.take (j + 1)).sum = (l.take j).sum + ith l j := by
  rw [List.take_succ_eq_append_getElem hj, List.sum_append]
  simp [ith, List.getD, List.getElem?_eq_getElem hj]
theorem take_bd {n : Nat} {b : Int} {l : List Int} (h : PtB n b l) (hb : 0 ≤ b) : ∀ j, j ≤ n → 0 ≤ (l.take j).sum ∧ (l.take j).sum ≤ b * j := by
  intro j
  induction j with
  | zero => intro _; simp
  | succ j ih =>
    intro hj
    have h1 := ih (by omega)
    have h2 := h.2 j (by omega)
    rw [take_sum (by rw [h.1]; omega)]
    have h3 : b * ((j + 1 : Nat) : Int) = b * j + b := by rw [Int.natCast_add, Int.mul_add]; simp
    omega

/-! ### The scores of a round -/
def ScOk (m : List D) (k : Nat) (sc : List Int) : Prop := sc.length = m.length ∧ ∀ j, j < m.length → if (dth m j).b < 0 then ith sc j = 2 else if j < k then 0 ≤ ith sc j ∧ ith sc j ≤ 2 else ith sc j = -1
theorem ScOk.init (m : List D) : ScOk m 0 (initS m) := by
  refine ⟨by simp [initS], fun j hj => ?_⟩
  have h1 : ith (initS m) j = if (dth m j).b < 0 then 2 else -1 := by
    have := dth_get hj
    simp only [ith, initS, List.getD_eq_getElem?_getD, List.getElem?_map, this, Option.map_some, Option.getD_some]
  rw [h1, if_neg (Nat.not_lt_zero _)]
  split
  · rfl
  · rfl
theorem ScOk.bye {m : List D} {k : Nat} {sc : List Int} (h : ScOk m k sc) (hb : (dth m k).b < 0) : ScOk m (k + 1) sc := by
  refine ⟨h.1, fun j hj => ?_⟩
  have := h.2 j hj
  by_cases hbj : (dth m j).b < 0
  · rw [if_pos hbj] at this ⊢; exact this
  · rw [if_neg hbj] at this ⊢
    have hjk : j ≠ k := by rintro rfl; exact hbj hb
    by_cases h1 : j < k
    · rw [if_pos h1] at this; rw [if_pos (by omega)]; exact this
    · rw [if_neg h1] at this; rw [if_neg (by omega)]; exact this
theorem ScOk.rep {m : List D} {k : Nat} {sc : List Int} {s : Int} (h : ScOk m k sc) (hk : k < m.length) (hs : 0 ≤ s ∧ s ≤ 2) (hb : ¬ (dth m k).b < 0) : ScOk m (k + 1) (sc.set k s) := by
  refine ⟨by rw [List.length_set]; exact h.1, fun j hj => ?_⟩
  have := h.2 j hj
  rw [ith_set (by rw [h.1]; exact hk)]
  by_cases hjk : j = k
  · subst hjk
    rw [if_neg hb, if_pos (Nat.lt_succ_self _), if_pos rfl]
    exact hs
  · rw [if_neg hjk]
    by_cases hbj : (dth m j).b < 0
    · rw [if_pos hbj] at this ⊢; exact this
    · rw [if_neg hbj] at this ⊢
      by_cases h1 : j < k
      · rw [if_pos h1] at this; rw [if_pos (by omega)]; exact this
      · rw [if_neg h1] at this; rw [if_neg (by omega)]; exact this
theorem ScOk.full {m : List D} {sc : List Int} (h : ScOk m m.length sc) : (-1 : Int) ∉ sc ∧ ∀ (j : Nat) (d : D) (s : Int), m[j]? = some d → sc[j]? = some s → s ≠ -1 ∧ (d.b < 0 → s = 2) := by
  have key : ∀ (j : Nat) (s : Int), sc[j]? = some s → j < m.length ∧ ith sc j = s := fun j s hs => by
    have hj := (List.getElem?_eq_some_iff.1 hs).1
    have h2 := h.1
    refine ⟨by omega, ?_⟩
    have h1 := ith_get hj
    rw [h1] at hs
    injection hs
  refine ⟨fun hm => ?_, fun j d s hd hs => ?_⟩
  · obtain ⟨j, hj, he⟩ := List.getElem_of_mem hm
    obtain ⟨h1, h2⟩ := key j (-1) (by rw [List.getElem?_eq_getElem hj, he])
    have := h.2 j h1
    split at this
    · omega
    · omega
  · obtain ⟨h1, h2⟩ := key j s hs
    have h3 := dth_get h1
    rw [hd] at h3
    injection h3 with h3
    have := h.2 j h1
    rw [← h3] at this
    split at this
    · rename_i hn; exact ⟨by omega, fun _ => by omega⟩
    · rename_i hn; exact ⟨by omega, fun hb => absurd hb hn⟩

/-! ### The tournament in a round -/
def midT (st : TS) (m : List D) (sc : List Int) : TS := ⟨st.n, st.rounds ++ [m], st.scores ++ [sc], true⟩
def endT (st : TS) (m : List D) (sc : List Int) : TS := ⟨st.n, st.rounds ++ [m], st.scores ++ [sc], false⟩
theorem mid_last {st : TS} {m : List D} {sc : List Int} (h : st.scores.length = st.rounds.length) : (midT st m sc).lastR = m ∧ (midT st m sc).lastS = sc := by
  unfold TS.lastR TS.lastS midT
  simp [h, List.getD_eq_getElem?_getD]
theorem mid_rep {st : TS} {m : List D} {sc : List Int} (h : st.scores.length = st.rounds.length) {k : Nat} {s : Int} (hk : k < m.length) (hb : ¬ (dth m k).b < 0) (hs : 0 ≤ s ∧ s ≤ 2) : (midT st m sc).rErr k s = 0 ∧ (midT st m sc).report k s = midT st m (sc.set k s) := by
  obtain ⟨h1, h2⟩ := mid_last (m := m) (sc := sc) h
  have e : (midT st m sc).rErr k s = 0 := by
    unfold TS.rErr
    rw [h1, if_neg (by omega), if_neg (by simp [midT]), if_neg]
    rw [Int.toNat_natCast]
    omega
  refine ⟨e, ?_⟩
  unfold TS.report
  rw [if_pos e, h2, Int.toNat_natCast]
  unfold midT
  simp only [List.length_append, List.length_cons, List.length_nil, Nat.zero_add, Nat.add_sub_cancel, TS.mk.injEq, and_true, true_and]
  rw [← h, List.set_append_right _ _ (Nat.le_refl _)]
  simp
theorem mid_close {st : TS} {m : List D} {sc : List Int} (h : st.scores.length = st.rounds.length) (hs : (-1 : Int) ∉ sc) : (midT st m sc).cErr = 0 ∧ (midT st m sc).close = endT st m sc := by
  have e : (midT st m sc).cErr = 0 := by
    unfold TS.cErr
    rw [(mid_last h).2, if_neg (by simp [midT]), if_neg hs]
  refine ⟨e, ?_⟩
  unfold TS.close
  rw [if_pos e]
  rfl
theorem start_mid {st : TS} {m : List D} (ho : st.open_ = false) (hc : st.rounds.length < 13) (hm : st.whole = some m) : st.sErr = 0 ∧ st.sList = m ∧ st.start = midT st m (initS m) := by
  have e : st.sErr = 0 := by unfold TS.sErr; rw [ho, if_neg (by decide), if_neg (by omega), hm]; rfl
  refine ⟨e, ?_, ?_⟩
  · unfold TS.sList; rw [if_pos e, hm]; rfl
  · unfold TS.start; rw [if_pos e, hm]; rfl
theorem start_no {st : TS} (ho : st.open_ = false) (hc : st.rounds.length < 13) (hm : st.whole = none) : st.sErr = 9 := by
  unfold TS.sErr; rw [ho, if_neg (by decide), if_neg (by omega), hm]; rfl
theorem end_sum {st : TS} {m : List D} {sc : List Int} (h : st.WF) (hm : RoundOk st.n m) (hsc : ScOk m m.length sc) : (ptsS st.n (st.rounds ++ [m]) (st.scores ++ [sc])).sum = (ptsS st.n st.rounds st.scores).sum + 2 * (m.length : Int) := by
  rw [pts_snoc h.len]
  exact (sum_ptR m sc _ (pts_bd h).1 hsc.1 hm.1 hsc.full.2).1
theorem bye_odd {st : TS} (h : st.WF) {m : List D} (hm : st.whole = some m) {d : D} (hd : d ∈ m) (hb : d.b < 0) : st.n % 2 = 1 := by
  rcases Nat.mod_two_eq_zero_or_one st.n with he | he
  · have ho := TS.ord_mem h
    have h1 : pairS (frS st) st.ord = some m := by
      have : st.whole = pairS (frS st) st.ord := by unfold TS.whole wholeS; rw [if_pos (by rw [ho.2.2]; exact he)]
      rw [← this]; exact hm
    have h2 := (pair_ok (n := st.n) ho.1 ho.2.1 h1).fr_ d hd
    have h3 := (TS.whole_ok' h hm).ok d hd
    rcases h3.2.2 with h4 | h4
    · exact absurd h4 h2.1
    · omega
  · exact he

/-! ### Who sits, who has met -/
def bth (l : List Bool) (k : Nat) : Bool := l.getD k false
theorem bth_get {l : List Bool} {k : Nat} (h : k < l.length) : l[k]? = some (bth l k) := by simp [bth, List.getD, List.getElem?_eq_getElem h]
theorem bth_set {l : List Bool} {a i : Nat} {v : Bool} (ha : a < l.length) : bth (l.set a v) i = if i = a then v else bth l i := by
  unfold bth
  rw [List.getD_eq_getElem?_getD, List.getElem?_set, List.getD_eq_getElem?_getD]
  by_cases h : a = i
  · subst h; simp [ha]
  · rw [if_neg h, if_neg (fun e => h e.symm)]
/-- The second of a duel as a player. -/
def D.c (d : D) : Int := if d.b < 0 then d.a else d.b
theorem D.c_ok {n : Nat} {d : D} (h : DOk n d) : 0 ≤ d.c ∧ d.c < n := by
  have h1 := h.1
  have h2 := h.2.1
  unfold D.c
  split
  · omega
  · rcases h.2.2 with h | h <;> omega
theorem pl_mem {n : Nat} {d : D} (h : DOk n d) {z : Int} : z ∈ d.pl ↔ z = d.a ∨ z = d.c := by
  unfold D.pl D.c
  rcases h.2.2 with h1 | h1
  · rw [if_pos h1, if_pos (by omega)]; simp
  · rw [if_neg (by omega), if_neg (by omega)]; simp
theorem plist_snoc {l : List D} {d : D} : plist (l ++ [d]) = plist l ++ d.pl := by simp [plist]
theorem take_snocD {m : List D} {k : Nat} (hk : k < m.length) : m.take (k + 1) = m.take k ++ [dth m k] := by
  rw [List.take_succ_eq_append_getElem hk]
  have := dth_get hk
  rw [List.getElem?_eq_getElem hk] at this
  injection this with this
  rw [this]
def SnOk (n : Nat) (l : List D) (sn : List Bool) : Prop := sn.length = n ∧ ∀ a : Nat, a < n → bth sn a = decide ((a : Int) ∈ plist l)
theorem SnOk.init (n : Nat) : SnOk n [] (List.replicate n false) := by
  refine ⟨by simp, fun a ha => ?_⟩
  simp [bth, plist, List.getD, List.getElem?_replicate, ha]
theorem SnOk.step {n : Nat} {l : List D} {sn : List Bool} {d : D} {a c : Nat} (h : SnOk n l sn) (hd : DOk n d) (ha : d.a = a) (hc : d.c = c) : SnOk n (l ++ [d]) ((sn.set a true).set c true) := by
  have h1 := hd.2.1
  have h2 := (D.c_ok hd).2
  refine ⟨by rw [List.length_set, List.length_set]; exact h.1, fun i hi => ?_⟩
  rw [bth_set (by rw [List.length_set, h.1]; omega), bth_set (by rw [h.1]; omega), h.2 i hi, plist_snoc, Bool.eq_iff_iff]
  have := pl_mem hd (z := (i : Int))
  rw [decide_eq_true_eq, List.mem_append, this]
  by_cases e1 : i = c
  · rw [if_pos e1]; exact ⟨fun _ => .inr (.inr (by omega)), fun _ => rfl⟩
  · rw [if_neg e1]
    by_cases e2 : i = a
    · rw [if_pos e2]; exact ⟨fun _ => .inr (.inl (by omega)), fun _ => rfl⟩
    · rw [if_neg e2, decide_eq_true_eq]
      exact ⟨.inl, fun h => by rcases h with h | h | h <;> first | exact h | omega⟩
theorem idx_inj {n a b x y : Nat} (hb : b < n) (hy : y < n) (h : a * n + b = x * n + y) : a = x ∧ b = y := by
  have h1 : (a * n + b) / n = a := by rw [Nat.mul_comm, Nat.mul_add_div (by omega), Nat.div_eq_of_lt hb]; omega
  have h2 : (x * n + y) / n = x := by rw [Nat.mul_comm, Nat.mul_add_div (by omega), Nat.div_eq_of_lt hy]; omega
  have h3 : a = x := by rw [← h1, h, h2]
  subst h3
  exact ⟨rfl, by omega⟩
theorem idx_lt {n a b : Nat} (ha : a < n) (hb : b < n) : a * n + b < n * n := by
  have h1 : (a + 1) * n ≤ n * n := Nat.mul_le_mul_right n ha
  have h2 : (a + 1) * n = a * n + n := by rw [Nat.add_mul, Nat.one_mul]
  omega
def MtOk (n : Nat) (rs : List (List D)) (l : List D) (mt : List Bool) : Prop := mt.length = n * n ∧ ∀ a b : Nat, a < n → b < n → bth mt (a * n + b) = metJ rs l a b
theorem MtOk.init (n : Nat) : MtOk n [] [] (List.replicate (n * n) false) := by
  refine ⟨by simp, fun a b ha hb => ?_⟩
  simp [bth, metJ, metS, metL, List.getD, List.getElem?_replicate, idx_lt ha hb]
theorem MtOk.next {n : Nat} {rs : List (List D)} {l : List D} {mt : List Bool} (h : MtOk n rs l mt) : MtOk n (rs ++ [l]) [] mt := by
  refine ⟨h.1, fun a b ha hb => ?_⟩
  rw [h.2 a b ha hb, ← metS_snoc]
  simp [metJ, metL]
theorem MtOk.step {n : Nat} {rs : List (List D)} {l : List D} {mt : List Bool} {d : D} {a c : Nat} (h : MtOk n rs l mt) (hd : DOk n d) (ha : d.a = a) (hc : d.c = c) : MtOk n rs (l ++ [d]) ((mt.set (a * n + c) true).set (c * n + a) true) := by
  have h1 : a < n := by have := hd.2.1; omega
  have h2 : c < n := by have := (D.c_ok hd).2; omega
  refine ⟨by rw [List.length_set, List.length_set]; exact h.1, fun x y hx hy => ?_⟩
  rw [bth_set (by rw [List.length_set, h.1]; exact idx_lt h2 h1), bth_set (by rw [h.1]; exact idx_lt h1 h2), h.2 x y hx hy, metJ_snoc]
  have hm : metD d x y = decide ((x = c ∧ y = a) ∨ (x = a ∧ y = c)) := by
    unfold metD
    rw [decide_eq_decide]
    unfold D.c at hc
    rcases hd.2.2 with h3 | h3
    · rw [if_pos (by omega)] at hc; omega
    · rw [if_neg (by omega)] at hc; omega
  rw [hm]
  by_cases e1 : x * n + y = c * n + a
  · obtain ⟨e3, e4⟩ := idx_inj hy h1 e1
    rw [if_pos e1, decide_eq_true (.inl ⟨e3, e4⟩), Bool.or_true]
  · rw [if_neg e1]
    by_cases e2 : x * n + y = a * n + c
    · obtain ⟨e3, e4⟩ := idx_inj hy h2 e2
      rw [if_pos e2, decide_eq_true (.inr ⟨e3, e4⟩), Bool.or_true]
    · rw [if_neg e2, decide_eq_false, Bool.or_false]
      rintro (⟨e3, e4⟩ | ⟨e3, e4⟩)
      · subst e3 e4; exact e1 rfl
      · subst e3 e4; exact e2 rfl
/-- In a round nobody of the next duel has sat; the two have not met. -/
theorem round_fresh {st : TS} (h : st.WF) {m : List D} (hm : st.whole = some m) {k : Nat} (hk : k < m.length) : (dth m k).a ∉ plist (m.take k) ∧ (dth m k).c ∉ plist (m.take k) ∧ metJ st.rounds (m.take k) (dth m k).a (dth m k).c = false := by
  have hw := TS.whole_ok' h hm
  have hr := TS.round_ok h hm
  have hnd := plist_nodup hr
  have hmem : dth m k ∈ m := List.mem_of_getElem? (dth_get hk)
  have hd := hr.1 _ hmem
  have hsp : plist m = plist (m.take (k + 1)) ++ plist (m.drop (k + 1)) := by
    unfold plist
    rw [← List.flatMap_append, List.take_append_drop]
  rw [hsp, take_snocD hk, plist_snoc] at hnd
  have hnd2 := (List.nodup_append.1 (List.nodup_append.1 hnd).1).2.2
  have hA : (dth m k).a ∉ plist (m.take k) := fun hx => hnd2 _ hx _ ((pl_mem hd).2 (.inl rfl)) rfl
  have hC : (dth m k).c ∉ plist (m.take k) := fun hx => hnd2 _ hx _ ((pl_mem hd).2 (.inr rfl)) rfl
  refine ⟨hA, hC, ?_⟩
  unfold metJ
  rw [Bool.or_eq_false_iff]
  constructor
  · have h1 := hw.fr_ _ hmem
    unfold frS at h1
    unfold D.c
    rcases hd.2.2 with h2 | h2
    · rw [if_pos h2] at h1
      rw [if_pos (by omega)]
      simpa using h1
    · rw [if_neg (by omega)] at h1
      rw [if_neg (by omega)]
      simpa using h1
  · unfold metL
    rw [List.any_eq_false]
    intro d' hd'
    intro hmet
    refine hA ?_
    unfold plist
    rw [List.mem_flatMap]
    refine ⟨d', hd', ?_⟩
    have hd2 := hr.1 d' (List.mem_of_mem_take hd')
    rw [pl_mem hd2]
    unfold metD at hmet
    rw [decide_eq_true_eq] at hmet
    have h0 := hd.1
    unfold D.c at hmet ⊢
    rcases hmet with ⟨_, h1, _⟩ | ⟨h1, _⟩ | ⟨_, h1⟩
    · exact .inl h1.symm
    · exact .inl h1.symm
    · refine .inr ?_
      rw [if_neg (by omega)]
      exact h1.symm
end Go.Proofs.Ytngcmihaheiigaa
