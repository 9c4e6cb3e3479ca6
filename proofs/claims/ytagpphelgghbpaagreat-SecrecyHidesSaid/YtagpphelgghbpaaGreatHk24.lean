/-
  Texts: Weq, Dr, Sched2.
-/
import Derived.Test.YtagpphelgghbpaaGreatHk23
import Derived.Test.YtagpphelgghbpaaGreatHk4
import Derived.Laws.CopyOwn
import Derived.Deep.QuietTactic
import Derived.BigQuiet
import Derived.Test.YtagpphelgghbpaaGreatHk6
/-
  view.Equal: whether the numbers of two views are the same.
-/
set_option linter.unusedSimpArgs false
set_option linter.unusedVariables false
namespace Go.Proofs.YtagpphelgghbpaaGreat
open Go.RowKit

theorem bequal_any (A B : Option Addr) (n c n' c' : Nat) (xs ys : List Int) (w : World) (hx : BReads w A n xs) (hy : BReads w B n' ys) :
    Calls Tryz.prog 105 #[.slice A n c, .slice B n' c'] w fun e w' => e = .returned (.bool (xs == ys)) ∧ w = w' := by
  have h1 := convert_bytes (P := Tryz.prog) hx c 161 5 Tryz.underlying161 Tryz.underlying5 9 Tryz.underlying9
  have h2 := convert_bytes (P := Tryz.prog) hy c' 161 5 Tryz.underlying161 Tryz.underlying5 9 Tryz.underlying9
  have h3 := Lib.hid (str_inj hx.2 hy.2)
  go_enter Tryz.func105, Tryz.ntmps105
  go_wp2
  go_ret
  exact ⟨by rw [← h3.out]; rfl, rfl⟩
theorem vsN_wf {s : Vs} (h : VsF s) : ∀ z ∈ vsN s, wfI z := by
  intro z hz
  unfold vsN at hz
  rcases List.mem_append.1 hz with hz | hz
  · exact h.n z (by simp only [List.mem_cons, List.not_mem_nil, or_false] at hz ⊢; rcases hz with h | h | h | h | h | h | h <;> simp [h])
  rcases List.mem_append.1 hz with hz | hz
  · exact obsN_wf h.F h.lF z hz
  rcases List.mem_append.1 hz with hz | hz
  · exact obsN_wf h.G h.lG z hz
  simp only [List.mem_cons, List.not_mem_nil, or_false] at hz
  rcases hz with e | e | e | e | e
  · rw [e]; exact tf_wf _
  · rw [e]; exact tf_wf _
  · rw [e]; exact tf_wf _
  · exact h.n z (by simp [e])
  · exact h.n z (by simp [e])
theorem vwN_wf {who : Int} {v : Pu} {hd : List Ob} (h : VwF who v hd) : ∀ z ∈ vwN who v hd, wfI z := by
  intro z hz
  unfold vwN at hz
  rcases List.mem_cons.1 hz with hz | hz
  · rw [hz]; exact h.who
  rcases List.mem_append.1 hz with hz | hz
  · exact vsN_wf h.s0 z hz
  rcases List.mem_append.1 hz with hz | hz
  · exact vsN_wf h.s1 z hz
  rcases List.mem_append.1 hz with hz | hz
  · exact obsN_wf h.H h.lH z hz
  rcases List.mem_append.1 hz with hz | hz
  · exact itsN_wf h.S h.lS z hz
  rcases List.mem_append.1 hz with hz | hz
  · exact itsN_wf h.Q h.lQ z hz
  rcases List.mem_cons.1 hz with hz | hz
  · rw [hz]; exact wf_nat (by have := h.lA; omega)
  rcases List.mem_append.1 hz with hz | hz
  · exact h.A z hz
  rcases List.mem_cons.1 hz with hz | hz
  · rw [hz]; exact wf_nat (by have := h.lK; omega)
  rcases List.mem_append.1 hz with hz | hz
  · obtain ⟨x, hx, hz⟩ := List.mem_flatMap.1 hz
    exact h.K x hx z hz
  simp only [List.mem_cons, List.not_mem_nil, or_false] at hz
  rcases hz with e | e | e | e | e | e | e | e | e <;> first | (rw [e]; unfold wfI; decide) | (rw [e]; exact h.t _ (by simp))
theorem vis_eq {a b : List Int} (ha : ∀ z ∈ a, wfI z) (hb : ∀ z ∈ b, wfI z) : (vis a == vis b) = decide (a = b) := by
  by_cases h : a = b
  · subst h
    simp
  · rw [decide_eq_false h]
    rw [beq_eq_false_iff_ne]
    exact fun e => h (vis_inj ha hb e)
set_option maxRecDepth 100000 in
set_option maxHeartbeats 3200000 in
theorem vequal_any (w : World) (who who' : Int) (v v' : Pu) (hd hd' : List Ob) (pm pm' : PuM) (HA HA' : Option Addr) (Hc Hc' : Nat) (hF : VwF who v hd) (hF' : VwF who' v' hd') (hT : VwT w v hd pm HA) (hT' : VwT w v' hd' pm' HA') :
    Calls Tryz.prog 73 #[.agg (vwc who (v.v0.cells pm.m0) (v.v1.cells pm.m1) (.slice HA hd.length Hc) (v.tail pm)).toArray, .agg (vwc who' (v'.v0.cells pm'.m0) (v'.v1.cells pm'.m1) (.slice HA' hd'.length Hc') (v'.tail pm')).toArray] w fun e w' => e = .returned (.bool (decide (vwN who v hd = vwN who' v' hd'))) ∧ Below w.heap.size w w' := by
  have HE := Lib.hid (vis_eq (vwN_wf hF) (vwN_wf hF'))
  obtain ⟨gX, hgX⟩ : ∃ x, w.heap.size = x := ⟨_, rfl⟩
  have hl1 : (vwc who (v.v0.cells pm.m0) (v.v1.cells pm.m1) (.slice HA hd.length Hc) (v.tail pm)).length = 43 := rfl
  have hl2 : (vwc who' (v'.v0.cells pm'.m0) (v'.v1.cells pm'.m1) (.slice HA' hd'.length Hc') (v'.tail pm')).length = 43 := rfl
  obtain ⟨VA, hVA⟩ : ∃ x, vwc who (v.v0.cells pm.m0) (v.v1.cells pm.m1) (.slice HA hd.length Hc) (v.tail pm) = x := ⟨_, rfl⟩
  obtain ⟨VB, hVB⟩ : ∃ x, vwc who' (v'.v0.cells pm'.m0) (v'.v1.cells pm'.m1) (.slice HA' hd'.length Hc') (v'.tail pm') = x := ⟨_, rfl⟩
  rw [hVA] at hl1 ⊢
  rw [hVB] at hl2 ⊢
  obtain ⟨w4, hw4⟩ : ∃ x, (((w.alloc (.cells VA.toArray 98)).alloc (.cells VB.toArray 98)).alloc (.cells #[.slice none 0 0, .bool false] 163)).alloc (.cells #[.slice none 0 0, .bool false] 163) = x := ⟨_, rfl⟩
  have hb4 : Below w.heap.size w w4 := by rw [← hw4]; exact ((((Below.refl _ _).alloc (Nat.le_refl _) _).alloc (by simp) _).alloc (by simp; omega) _).alloc (by simp; omega) _
  have HKA : Hid (Blk w4 gX 98 VA.toArray) := Lib.hid (by rw [← hw4]; exact (((Blk.mk_ w _ _ _ hgX).alloc _).alloc _).alloc _)
  have HKB : Hid (Blk w4 (gX + 1) 98 VB.toArray) := Lib.hid (by rw [← hw4]; exact ((Blk.mk_ _ _ _ _ (by simp [hgX])).alloc _).alloc _)
  have HPX : Hid (Blk w4 (gX + 2) 163 #[.slice none 0 0, .bool false]) := Lib.hid (by rw [← hw4]; exact (Blk.mk_ _ _ _ _ (by simp [hgX])).alloc _)
  have HPY : Hid (Blk w4 (gX + 3) 163 #[.slice none 0 0, .bool false]) := Lib.hid (by rw [← hw4]; exact Blk.mk_ _ _ _ _ (by simp [hgX]))
  have HNEW : Hid (∀ (W : World) (p : Nat), Blk W p 163 #[.slice none 0 0, .bool false] → WrK W p [] ∧ ∀ j, ¬ OwnB W p j) := Lib.hid (fun W p h => ⟨⟨⟨_, _, _, _, h, BOwns.nil _ _ _⟩, fun x hx => by cases hx⟩, fun j hj => by
    obtain ⟨ad, n, c, h1, _⟩ := hj
    have h2 : W.cell? ⟨p, 0, none⟩ = some (.slice none 0 0) := (h.at_ 0).trans rfl
    rw [h2] at h1
    cases h1⟩)
  have HLD : Hid (∀ (W : World) (g : Nat) (L : List Value), L.length = 43 → Blk W g 98 L.toArray → (Instr.loadAt 98 (.pointer (some ⟨g, 0, none⟩))).run Tryz.prog W = .ok (.agg L.toArray) W) := Lib.hid (fun W g L hl h => h.mid L _ (fun j v hj => by rw [Nat.zero_add]; simpa using hj) Tryz.underlying98 rfl (by rw [size_view, hl]))
  have HLA := Lib.hid (HLD.out w4 gX VA hl1 HKA.out)
  have HCA : Hid (Calls Tryz.prog 104 #[.pointer (some ⟨gX + 2, 0, none⟩), .agg VA.toArray] w4 (WrEnd (gX + 2) (vwN who v hd) w4)) := Lib.hid (by rw [← hVA]; exact wview_any w4 (gX + 2) who v hd pm HA Hc (HNEW.out _ _ HPX.out).1 hF (hT.call hb4))
  have HTB := Lib.hid (hT'.call hb4)
  have HFB := Lib.hid hF'
  have HVB := Lib.hid hVB
  have HL2 := Lib.hid hl2
  have HB4 := Lib.hid hb4
  have HGX := Lib.hid hgX
  clear hF hF' hT hT' hb4 hVA hVB hl1 hl2
  go_enter Tryz.func73, Tryz.ntmps73
  go_wp2_with (first
    | (refine wpList_load_by HLA.out rfl rfl rfl ?_; simp only [Act.put, List.setIfInBounds_toArray, List.set_cons_succ, List.set_cons_zero])
    | (go_at_call 104; fail)
    | fail)
  refine HCA.out.mono ?_
  rintro e w5 ⟨rfl, hx5, hf5⟩
  have HX5 := Lib.hid hx5
  have hkx := (HNEW.out _ _ HPX.out).1
  have hno := (HNEW.out _ _ HPX.out).2
  have HKB5 := Lib.hid (HKB.out.wfk hf5 hkx (by decide))
  have HPY5 := Lib.hid (HPY.out.onlyF hf5.o (by
    rintro (h | h)
    · omega
    · exact hno _ h))
  have HTB5 := Lib.hid (HTB.out.wfk hf5 hkx)
  have HB5 := Lib.hid (HB4.out.trans (hf5.o.below HB4.out.size (fun i hi => by
    rcases hi with h | h
    · have := HGX.out; omega
    · exact absurd h (hno i))))
  have HLB := Lib.hid (HLD.out w5 (gX + 1) VB HL2.out HKB5.out)
  have HCB : Hid (Calls Tryz.prog 104 #[.pointer (some ⟨gX + 3, 0, none⟩), .agg VB.toArray] w5 (WrEnd (gX + 3) (vwN who' v' hd') w5)) := Lib.hid (by rw [← HVB.out]; exact wview_any w5 (gX + 3) who' v' hd' pm' HA' Hc' (HNEW.out _ _ HPY5.out).1 HFB.out HTB5.out)
  clear hx5 hf5 hkx hno HCA HLA hw4
  go_wp2_with (first
    | (refine wpList_load_by HLB.out rfl rfl rfl ?_; simp only [Act.put, List.setIfInBounds_toArray, List.set_cons_succ, List.set_cons_zero])
    | fail)
  refine HCB.out.mono ?_
  rintro e w6 ⟨rfl, hy6, hf6⟩
  have hno := (HNEW.out _ _ HPY5.out).2
  obtain ⟨A1, n1, c1, b1, hp1, ho1⟩ := HX5.out
  obtain ⟨A2, n2, c2, b2, hp2, ho2⟩ := hy6
  have hnF : ∀ i, i ≠ gX + 3 → ¬ (i = gX + 3 ∨ OwnB w5 (gX + 3) i) := fun i h1 h2 => by
    rcases h2 with h2 | h2
    · exact h1 h2
    · exact hno i h2
  have hp1' := hp1.onlyF hf6.o (hnF _ (by omega))
  have ho1' : BOwns w6 0 5 A1 n1 c1 (vis (vwN who v hd)) := (ho1.x.onlyF hf6.o (fun i hi => hnF i (fun e => by
    subst e
    exact ho1.x.apart_blk HPY5.out (by decide) hi))).b ho1.2.1
  have HB6 := Lib.hid (HB5.out.trans (hf6.o.below HB5.out.size (fun i hi => by
    rcases hi with h | h
    · have := HGX.out; omega
    · exact absurd h (hno i))))
  have c1x : w6.cell? ⟨gX + 2, 0, none⟩ = some (.slice A1 n1 c1) := (hp1'.at_ 0).trans rfl
  have c2x : w6.cell? ⟨gX + 3, 0, none⟩ = some (.slice A2 n2 c2) := (hp2.at_ 0).trans rfl
  have HBQ := Lib.hid (bequal_any A1 A2 n1 c1 n2 c2 _ _ w6 ho1'.reads ho2.reads)
  clear hp1 hp2 ho1 ho2 hp1' ho1' hf6 hno hnF HCB HLB
  go_wp2_with (first
    | (go_at_call 105; refine HBQ.out.mono ?_; rintro e w_ ⟨rfl, rfl⟩)
    | fail)
  go_ret
  exact ⟨by rw [← HE.out]; rfl, HB6.out⟩
end Go.Proofs.YtagpphelgghbpaaGreat

/-
  Draws: own, New.
-/
set_option linter.unusedSimpArgs false
set_option linter.unusedVariables false
namespace Go.Proofs.YtagpphelgghbpaaGreat
open Go.RowKit

def ucs (l : List Int) : List Value := l.map (Value.int .u64)
theorem ucs_one (l : List Int) : ∀ u ∈ ucs l, u.oneCell' = true := by
  intro u hu
  obtain ⟨x, _, rfl⟩ := List.mem_map.1 hu
  rfl
theorem ulen {w : World} {A : Option Addr} {n : Nat} {xs : List Int} (h : Reads w 1 A n (ucs xs)) : xs.length = n := by have := h.1; simpa [ucs] using this
theorem uint_at {w : World} {A : Option Addr} {n : Nat} {xs : List Int} (h : Reads w 1 A n (ucs xs)) {k : Nat} (hk : k < n) : ∃ ad, A = some ad ∧ ad.block < w.heap.size ∧ w.cell? (ad.add k) = some (.int .u64 (ith xs k)) := by
  obtain ⟨ad, e, hb, hc⟩ := h.2 (by omega)
  refine ⟨ad, e, hb, hc k _ ?_⟩
  rw [ucs, List.getElem?_map, ith_get (by have := ulen h; omega)]
  rfl
theorem tinfo_u64 : (Tryz.prog.info? 59).map (fun i => (i.zero, i.size, i.bytes)) = some (some (.int .u64 0), 1, 8) := by kernel_rfl
theorem size_u64 : (Tryz.prog.info? 59).map (·.size) = some 1 := by kernel_rfl
theorem made_blk {w1 : World} {B e n g : Nat} {xs : List Value} (h : w1.ownsRow B e 1 (.slice (some ⟨g, 0, none⟩) n n) n xs) : ∃ cur : List Value, Blk w1 g e cur.toArray ∧ cur.length = n := by
  rcases h.2 with ⟨h0, _⟩ | ⟨g', c', cur, h1, h2, h3, h4, h5, h6, h7⟩
  · cases h0
  · injection h1 with h1 _ h1b
    injection h1 with h1
    injection h1 with h1
    subst h1 h1b
    exact ⟨cur.toList, h3, by simpa using h6⟩
def OwnEnd (us : List Int) (n : Nat) (w : World) (e : Ending) (w' : World) : Prop := ∃ g, e = .returned (.slice (some ⟨g, 0, none⟩) n n) ∧ Blk w' g 59 (ucs us).toArray ∧ w.heap.size ≤ g ∧ Below w.heap.size w w'
set_option maxRecDepth 100000 in
set_option maxHeartbeats 1600000 in
theorem own_any (A : Option Addr) (n c : Nat) (us : List Int) (w : World) (hx : Reads w 1 A n (ucs us)) (hn : n ≤ 65536) : Calls Tryz.prog 59 #[.slice A n c] w (OwnEnd us n w) := by
  have HX := Lib.hid hx
  have HN := Lib.hid hn
  have HL := Lib.hid (ulen hx)
  clear hx
  obtain ⟨i0, hi, hz0, hz1, hz2⟩ := info_parts tinfo_u64
  have HI := Lib.hid (And.intro hi (And.intro hz0 (And.intro hz1 hz2)))
  clear hi hz0 hz1 hz2
  go_enter Tryz.func59, Tryz.ntmps59
  go_wp2_with (first
    | (at_make; refine wpList_make_full w rfl (.tmp 5) (.tmp 5) 34 rfl w.heap.size 59 i0 (.int .u64 0) 1 Tryz.underlying34 HI.out.1 HI.out.2.1 HI.out.2.2.1 .i64 .i64 _ _ n rfl rfl rfl rfl (by rw [HI.out.2.2.2]; omega) (by unfold maxLen; omega) (Nat.le_refl _) ?_; intro w1 ho1 hg1; obtain ⟨cur, hk1, hcz⟩ := made_blk ho1; have hb1 : Below w.heap.size w w1 := (Below.refl _ _).grown hg1 (Nat.le_refl _) (fun k hk => by cases hk); have HX1 := Lib.hid (HX.out.below hb1); have HB1 := Lib.hid hb1; have HK1 := Lib.hid hk1; have HCZ := Lib.hid hcz; clear ho1 hg1 hk1 hcz hb1)
    | (refine wpList_copy_splice rfl (.tmp 7) (.tmp 8) 34 34 rfl 59 Tryz.underlying34 size_u64 (some ⟨w.heap.size, 0, none⟩) A n n n c rfl rfl w.heap.size 0 cur 59 HK1.out (ucs us) (by simp [ucs, HL.out]) (fun hpos => ⟨rfl, by obtain ⟨ad, e, hbl, hc⟩ := HX1.out.2 (by rw [← HL.out]; simpa [ucs] using hpos); exact ⟨ad, e, hc⟩⟩) (by rw [HCZ.out]; simp [ucs, HL.out]) (ucs_one us) w.heap.size w HB1.out (Nat.le_refl _) ?_; intro w2 hk2 hb2)
    | fail)
  go_ret
  refine ⟨w.heap.size, rfl, ?_, Nat.le_refl _, hb2⟩
  have h := hk2.out
  have hl : (ucs us).length = n := by simp [ucs, HL.out]
  rw [show splice cur 0 (ucs us) = ucs us by simp [splice, hl, ← HCZ.out]] at h
  exact h
def dzc (all : Value) (used : Int) : Array Value := #[.bool true, all, .int .i64 used]
/-- What New makes. -/
def DnewEnd (us : List Int) (n : Nat) (w : World) (e : Ending) (w' : World) : Prop := ∃ gd gu, e = .returned (.tuple #[.pointer (some ⟨gd, 0, none⟩), .int .i64 0]) ∧ Blk w' gd 117 (dzc (.slice (some ⟨gu, 0, none⟩) n n) 0) ∧ Blk w' gu 59 (ucs us).toArray ∧ w.heap.size ≤ gd ∧ w.heap.size ≤ gu ∧ Below w.heap.size w w'
set_option maxRecDepth 100000 in
set_option maxHeartbeats 1600000 in
theorem dnew_ok (A : Option Addr) (n c : Nat) (us : List Int) (w : World) (hx : Reads w 1 A n (ucs us)) (hn : n ≤ 65536) : Calls Tryz.prog 24 #[.slice A n c] w (DnewEnd us n w) := by
  have HO := Lib.hid (own_any A n c us w hx hn)
  have hn' : (n : Int) ≤ 65536 := by omega
  clear hx hn
  go_enter Tryz.func24, Tryz.ntmps24
  go_wp2_with (first
    | (go_at_call 59; refine HO.out.mono ?_; rintro e w1 ⟨gu, rfl, hk1, hg1, hb1⟩)
    | fail)
  go_ret2
  have hb2 : ∀ cs, Below w1.heap.size w1 (w1.alloc (.cells cs 117)) := fun cs => (Below.refl _ _).alloc (Nat.le_refl _) _
  exact ⟨_, gu, rfl, Blk.mk_ _ _ _ _ rfl, hk1.call (hb2 _), hb1.size, hg1, below_call hb1 (hb2 _) hb1.size⟩
set_option maxHeartbeats 1600000 in
theorem dnew_long (A : Option Addr) (n c : Nat) (w : World) (hn : 65536 < n) : Calls Tryz.prog 24 #[.slice A n c] w fun e w' => e = .returned (.tuple #[.pointer none, .int .i64 5]) ∧ w = w' := by
  have hn' : (65536 : Int) < n := by omega
  go_enter Tryz.func24, Tryz.ntmps24
  go_wp2
  go_ret2
  exact ⟨rfl, rfl⟩
/-- Draws of which some are used. -/
structure DwS (W : World) (gd gu : Nat) (us : List Int) (used : Nat) : Prop where
  D : Blk W gd 117 (dzc (.slice (some ⟨gu, 0, none⟩) us.length us.length) used)
  U : Blk W gu 59 (ucs us).toArray
theorem DwS.below {W W' : World} {gd gu used : Nat} {us : List Int} (h : DwS W gd gu us used) (hb : Below W.heap.size W W') : DwS W' gd gu us used := ⟨h.D.call hb, h.U.call hb⟩
set_option maxHeartbeats 1600000 in
theorem dzero_any (W : World) (gd gu : Nat) (us : List Int) (used : Nat) (h : DwS W gd gu us used) : Calls Tryz.prog 98 #[.pointer (some ⟨gd, 0, none⟩)] W fun e w' => e = .returned (.bool false) ∧ W = w' := by
  have c0 : W.cell? ⟨gd, 0, none⟩ = some (.bool true) := (h.D.at_ 0).trans rfl
  clear h
  go_enter Tryz.func98, Tryz.ntmps98
  go_wp2
  go_ret
  exact ⟨rfl, rfl⟩
set_option maxHeartbeats 1600000 in
theorem dleft_any (W : World) (gd gu : Nat) (us : List Int) (used : Nat) (h : DwS W gd gu us used) (hu : used ≤ us.length) (hn : us.length ≤ 65536) : Calls Tryz.prog 99 #[.pointer (some ⟨gd, 0, none⟩)] W fun e w' => e = .returned (.int .i64 ((us.length - used : Nat) : Int)) ∧ Below W.heap.size W w' := by
  have c1 : W.cell? ⟨gd, 1, none⟩ = some (.slice (some ⟨gu, 0, none⟩) us.length us.length) := (h.D.at_ 1).trans rfl
  have c2 : W.cell? ⟨gd, 2, none⟩ = some (.int .i64 used) := (h.D.at_ 2).trans rfl
  have HZ := Lib.hid (dzero_any W gd gu us used h)
  have hl := h.D.lt
  obtain ⟨n, hnn⟩ : ∃ n, us.length = n := ⟨_, rfl⟩
  rw [hnn] at c1 hu hn ⊢
  have hw : IntKind.i64.wrap ((n : Int) - used) = ((n - used : Nat) : Int) := by rw [Int.ofNat_sub hu]; exact IntWalk.i64_in _ (by omega)
  clear h hnn
  go_enter Tryz.func99, Tryz.ntmps99
  go_wp2_with (first
    | (go_at_call 98; refine HZ.out.mono ?_; rintro e w_ ⟨rfl, rfl⟩)
    | fail)
  go_quiet (fail)
  go_wp2_with fail
  go_ret
  exact ⟨rfl, below_drewN (Below.refl _ _) _⟩
/-- What check says of draws that are there. -/
def chkS (left needs wrong : Int) : Int := if wrong ≠ 0 then wrong else if left < needs then 16 else 0
set_option maxHeartbeats 1600000 in
theorem dcheck_any (W : World) (gd gu : Nat) (us : List Int) (used : Nat) (needs wrong : Int) (h : DwS W gd gu us used) (hu : used ≤ us.length) (hn : us.length ≤ 65536) : Calls Tryz.prog 64 #[.pointer (some ⟨gd, 0, none⟩), .int .i64 needs, .int .i64 wrong] W fun e w' => e = .returned (.int .i64 (chkS ((us.length - used : Nat) : Int) needs wrong)) ∧ Below W.heap.size W w' := by
  have HZ := Lib.hid (dzero_any W gd gu us used h)
  have HL := Lib.hid (dleft_any W gd gu us used h hu hn)
  obtain ⟨lf, hlf⟩ : ∃ n, us.length - used = n := ⟨_, rfl⟩
  rw [hlf] at HL ⊢
  clear h hu hn hlf
  by_cases hw : wrong = 0
  · by_cases hl : (lf : Int) < needs
    · have HC : Hid (chkS lf needs wrong = 16) := Lib.hid (by unfold chkS; rw [if_neg (by simpa using hw), if_pos hl])
      have hw' : (wrong == 0) = true := by simpa using hw
      have hl' : decide ((lf : Int) < needs) = true := by simpa using hl
      clear hw
      go_enter Tryz.func64, Tryz.ntmps64
      go_wp2_with (first
        | (go_at_call 98; refine HZ.out.mono ?_; rintro e w_ ⟨rfl, rfl⟩)
        | (go_at_call 99; refine HL.out.mono ?_; rintro e w2 ⟨rfl, hb2⟩)
        | fail)
      go_ret
      exact ⟨by rw [HC.out]; rfl, hb2⟩
    · have HC : Hid (chkS lf needs wrong = 0) := Lib.hid (by unfold chkS; rw [if_neg (by simpa using hw), if_neg hl])
      have hw' : (wrong == 0) = true := by simpa using hw
      have hl' : decide ((lf : Int) < needs) = false := by simpa using hl
      clear hw
      go_enter Tryz.func64, Tryz.ntmps64
      go_wp2_with (first
        | (go_at_call 98; refine HZ.out.mono ?_; rintro e w_ ⟨rfl, rfl⟩)
        | (go_at_call 99; refine HL.out.mono ?_; rintro e w2 ⟨rfl, hb2⟩)
        | fail)
      go_ret
      exact ⟨by rw [HC.out]; rfl, hb2⟩
  · have HC : Hid (chkS lf needs wrong = wrong) := Lib.hid (by unfold chkS; rw [if_pos hw])
    have hw' : (wrong == 0) = false := by simpa using hw
    clear hw
    go_enter Tryz.func64, Tryz.ntmps64
    go_wp2_with (first
      | (go_at_call 98; refine HZ.out.mono ?_; rintro e w_ ⟨rfl, rfl⟩)
      | (go_at_call 99; refine HL.out.mono ?_; rintro e w2 ⟨rfl, hb2⟩)
      | fail)
    go_ret
    exact ⟨by rw [HC.out]; rfl, Below.refl _ _⟩
theorem grownBy_below_ {W W' : World} {row : Option Nat} (hb : Below W.heap.size W W') : W.grownBy W' row := ⟨hb.os, hb.tape, hb.output, hb.size, fun j hj _ => hb.block j hj⟩
set_option maxHeartbeats 1600000 in
theorem dchoose_any (W : World) (gd gu : Nat) (us : List Int) (used : Nat) (bound : Int) (h : DwS W gd gu us used) (hne : gd ≠ gu) (hu : used < us.length) (hn : us.length ≤ 65536) (hb : 1 ≤ bound ∧ bound ≤ 65536) (hw : 0 ≤ ith us used ∧ ith us used ≤ 18446744073709551615) : Calls Tryz.prog 65 #[.pointer (some ⟨gd, 0, none⟩), .int .i64 bound] W fun e w' => e = .returned (.int .i64 (ith us used % bound)) ∧ DwS w' gd gu us (used + 1) ∧ W.grownBy w' (some gd) := by
  have c1 : W.cell? ⟨gd, 1, none⟩ = some (.slice (some ⟨gu, 0, none⟩) us.length us.length) := (h.D.at_ 1).trans rfl
  have c2 : W.cell? ⟨gd, 2, none⟩ = some (.int .i64 used) := (h.D.at_ 2).trans rfl
  have c3 : W.cell? ⟨gu, used, none⟩ = some (.int .u64 (ith us used)) := (h.U.at_ used).trans (by simp only [List.getElem?_toArray]; rw [ucs, List.getElem?_map, ith_get hu]; rfl)
  have f2 := h.D.free 2
  have hl := h.D.lt
  have hlu := h.U.lt
  obtain ⟨u, hu0⟩ : ∃ u, ith us used = u := ⟨_, rfl⟩
  obtain ⟨n, hnn⟩ : ∃ n, us.length = n := ⟨_, rfl⟩
  rw [hu0] at c3 hw ⊢
  rw [hnn] at c1 hu hn
  have hu' : (used : Int) < n := by omega
  have hb64 : IntKind.u64.wrap bound = bound := IntWalk.u64_in _ (by omega)
  obtain ⟨r, hr⟩ : ∃ r, u % bound = r := ⟨_, rfl⟩
  have hr0 : 0 ≤ r ∧ r < bound := by rw [← hr]; exact ⟨Int.emod_nonneg _ (by omega), Int.emod_lt_of_pos _ (by omega)⟩
  have hrem : u.tmod bound = r := by rw [← hr]; exact Int.tmod_eq_emod_of_nonneg hw.1
  have hi1 : IntKind.i64.wrap ((used : Int) + 1) = ((used + 1 : Nat) : Int) := IntWalk.i64_in _ (by omega)
  have hr64 : IntKind.u64.wrap r = r := IntWalk.u64_in _ (by omega)
  have hri : IntKind.i64.wrap r = r := IntWalk.i64_in _ (by omega)
  have hbz : ¬ bound = 0 := by omega
  have H := Lib.hid h
  have HNE := Lib.hid hne
  rw [hr]
  clear h hne hu0 hnn hw hn hr0 hr hb
  go_enter Tryz.func65, Tryz.ntmps65
  go_wp2_with fail
  go_quiet (fail)
  go_wp2_with fail
  go_ret
  have hbd : Below W.heap.size W (W.drewN nq) := below_drewN (Below.refl _ _) _
  have hp := (H.out.D.call hbd).put 2 (.int .i64 ((used + 1 : Nat) : Int))
  have hgr : W.grownBy ((W.drewN nq).setCell ⟨gd, 2, none⟩ (.int .i64 ((used + 1 : Nat) : Int))) (some gd) := only_setCell (grownBy_below_ hbd) (.inl rfl) _
  exact ⟨rfl, ⟨hp, H.out.U.grown hgr (fun e => by injection e with e; exact HNE.out e.symm)⟩, hgr⟩
end Go.Proofs.YtagpphelgghbpaaGreat

/-
  A region that draws its order: first what hangs on no memory at all (class CP: all worlds), then as Sched says.
-/
set_option linter.unusedVariables false
namespace Go.Proofs.YtagpphelgghbpaaGreat
open Go.RowKit
section
variable {P : Program} {ops : Array Oper} {Q : Exit → Act → World → Prop} {md : Region.Mode} {late : List Nat} {T : Bool → World → Prop}

/-- May these be taken ahead of all others? They read no memory. -/
def pureB (md : Region.Mode) (ops : Array Oper) (late : List Nat) : List Nat → Array Bool → Option (Array Bool)
  | [], l => some l
  | i :: is, l => if (Region.ready md ops l).contains i && Region.free md ops l i && ((ops[i]?).map (valOp ·.op)).getD false && !late.contains i then pureB md ops late is (l.setIfInBounds i true) else none
theorem pure_take (hsel : Region.noSelect ops = true) (hQ : ∀ d v c a w, Q (.panic c) (Act.put a d v) w → Q (.panic c) a w) {b : Bool} {w : World} (hT : T b w) {C : World → Prop} (hC : ∀ w, C w) {Qa : Act → Prop} {f : Nat} {l' : Array Bool}
    (hk : ∀ a', Closed md ops l' → early late l' = b → Qa a' → wpG P md ops Q late T f l' a' w) : ∀ (hs : List Nat) (l : Array Bool) (a : Act), Closed md ops l → early late l = b → pureB md ops late hs l = some l' → wpQuiet P ops C Qa (opsAt ops hs) a → wpG P md ops Q late T (hs.length + f) l a w
  | [], l, a, hc, he, hB, h => by
    simp only [pureB, Option.some.injEq] at hB
    subst hB
    simpa [opsAt, wpQuiet] using hk _ hc he h
  | i :: is, l, a, hc, he, hB, h => by
    simp only [pureB] at hB
    split at hB
    · rename_i hcond
      simp only [Bool.and_eq_true, Bool.not_eq_true'] at hcond
      obtain ⟨⟨⟨hr, hf⟩, hv⟩, hni⟩ := hcond
      cases ho : ops[i]? with
      | none => rw [ho] at hv; cases hv
      | some o =>
        rw [ho] at hv
        simp only [Option.map_some, Option.getD_some] at hv
        simp only [opsAt, ho, wpQuiet] at h
        have hrm : i ∈ Region.ready md ops l := by simpa using hr
        have hnext := fun v hn => pure_take hsel hQ hT hC hk is (l.setIfInBounds i true) (a.put o.dst v) (closed_set hc hrm) (by rw [early_set hni]; exact he) hB hn
        rw [show (i :: is).length + f = (is.length + f) + 1 by simp only [List.length_cons]; omega]
        by_cases hwt : Region.wanted o (yielded ops a.tmps) = true
        · rw [if_pos hwt] at h
          obtain ⟨v, hy, hn⟩ := yields_of_quiet hv hwt h
          exact wpG_first (C := C) (b := b) ho hsel hQ hni (fun _ _ _ _ w _ => hC w) _ l a w hc (fun hb => by rw [he, hb]) (Region.free_spec ho hf) hrm hy (by rw [he]; exact hT) (hnext v hn)
        · rw [if_neg hwt] at h
          exact wpG_first (C := C) (b := b) ho hsel hQ hni (fun _ _ _ _ w _ => hC w) _ l a w hc (fun hb => by rw [he, hb]) (Region.free_spec ho hf) hrm (.inr ⟨by simpa using hwt, rfl⟩) (by rw [he]; exact hT) (hnext undef h)
    · cases hB
/-- The region: hsP reads no memory, then as wp_region_late. -/
theorem wp_region_late2 {id : Nat} {a : Act} {w : World} {l : List Oper} (T : Bool → World → Prop) (C : World → Prop) (hC : ∀ w, C w) (late : List Nat) (hsP hs0 : List Nat) (t : Tr) (hm : P.follows .mixedOrders = true)
    (hB : (Region.noSelect l.toArray && decide (hsP.length + hs0.length + schedLen t ≤ l.toArray.size) && match pureB .any l.toArray late hsP (Array.replicate l.toArray.size false) with
      | some l1 => (match heldB .any l.toArray late true hs0 l1 with | some l' => schedB .any l.toArray late t true l' | none => false)
      | none => false) = true)
    (hQ : ∀ d v c a w, Q (.panic c) (Act.put a d v) w → Q (.panic c) a w) (hT : T true w.drew)
    (h : wpQuiet P l.toArray C (fun a1 => wpQuiet P l.toArray (T true) (fun a' => wpEffs P l.toArray late T Q t true a' w.drew) (opsAt l.toArray hs0) a1) (opsAt l.toArray hsP) a) : (Code.region id l.toArray true).wp P Q a w := by
  simp only [Bool.and_eq_true, decide_eq_true_eq] at hB
  obtain ⟨⟨hsel, hlen⟩, hB⟩ := hB
  refine wp_region_any hm (wpAny_of_G (late := late) (T := T) _ _ _ _ ?_)
  have hg : ∀ j, (Array.replicate l.toArray.size false).getD j false = false := fun j => by
    simp only [Array.getD_eq_getD_getElem?, Array.getElem?_replicate]
    split <;> rfl
  have hc0 : Closed .any l.toArray (Array.replicate l.toArray.size false) := fun j o _ hj => by rw [hg j] at hj; cases hj
  have he0 : early late (Array.replicate l.toArray.size false) = true := by
    unfold early
    rw [List.all_eq_true]
    intro j _
    rw [hg j]
    rfl
  cases h1 : pureB .any l.toArray late hsP (Array.replicate l.toArray.size false) with
  | none => rw [h1] at hB; cases hB
  | some l1 =>
    rw [h1] at hB
    simp only at hB
    cases hh : heldB .any l.toArray late true hs0 l1 with
    | none => rw [hh] at hB; cases hB
    | some l' =>
      rw [hh] at hB
      simp only at hB
      have := pure_take (md := .any) (late := late) (T := T) (f := hs0.length + (l.toArray.size - hsP.length - hs0.length)) hsel hQ hT hC (fun a1 hc1 he1 ha1 =>
        held_take (md := .any) (late := late) (T := T) (f := l.toArray.size - hsP.length - hs0.length) hsel hQ hT (fun a' hc' he' ha => effs_walk hsel hQ t true (l.toArray.size - hsP.length - hs0.length) l' a' w.drew (by omega) hB hc' he' hT ha) hs0 l1 a1 hc1 he1 hh ha1) hsP _ a hc0 he0 h1 h
      rw [show hsP.length + (hs0.length + (l.toArray.size - hsP.length - hs0.length)) = l.toArray.size by omega] at this
      exact this
end
end Go.Proofs.YtagpphelgghbpaaGreat
