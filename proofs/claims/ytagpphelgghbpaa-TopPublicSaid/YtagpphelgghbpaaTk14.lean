/-
  Texts: Idx, Ix2, Spm, Iof, Sob.
-/
import Derived.Test.YtagpphelgghbpaaTk13
/-
  index: where an object stands.
-/
set_option linter.unusedSimpArgs false
set_option linter.unusedVariables false
namespace Go.Proofs.Ytagpphelgghbpaa
open Go.RowKit

set_option maxRecDepth 100000 in
set_option maxHeartbeats 800000 in
theorem icmp_any (o : Ob) (i d : Int) (w : World) (hd : IntKind.i64.wrap (o.id - i) = d) : Calls Try.prog 61 #[.agg o.cells.toArray, .int .i64 i] w fun e w' => e = .returned (.int .i64 d) ∧ Below w.heap.size w w' := by
  have hal : ∀ cs, Below w.heap.size w (w.alloc (.cells cs 88)) := fun cs => (Below.refl _ _).alloc (Nat.le_refl _) _
  have HAL := Lib.hid hal
  clear hal
  obtain ⟨id, card, own, o3, o4, o5, o6, o7, o8, o9, o10, o11⟩ := o
  simp only [Ob.cells] at hd ⊢
  go_enter Try.func61, Try.ntmps61
  go_wp2
  go_ret
  exact ⟨rfl, HAL.out _⟩
/-- What the search gives: the first object whose id is not less. -/
def BsEnd (l : List Ob) (n : Nat) (id : Int) (w : World) (e : Ending) (w' : World) : Prop := ∃ (i : Nat) (v : Bool), e = .returned (.tuple #[.int .i64 i, .bool v]) ∧ i ≤ n ∧ (∀ k o, k < i → l[k]? = some o → o.id < id) ∧ (∀ k o, i ≤ k → l[k]? = some o → id ≤ o.id) ∧ (v = true ↔ ∃ o, l[i]? = some o ∧ o.id = id) ∧ Below w.heap.size w w'
set_option maxRecDepth 100000 in
set_option maxHeartbeats 1600000 in
theorem bs_any (s : Sl) (n : Nat) (l : List Ob) (id : Int) (w : World) (hx : Reads w 12 s.A n (ocs l)) (hn : l.length = n) (hn5 : n ≤ 500) (hid : ∀ o ∈ l, 1 ≤ o.id ∧ o.id ≤ 500) (hi : 0 ≤ id ∧ id ≤ 1000) (hs : ∀ (i j : Nat) (a b : Ob), i < j → l[i]? = some a → l[j]? = some b → a.id < b.id) :
    Calls Try.prog 60 #[.slice s.A n s.c, .int .i64 id, .func (.func 61) #[] #[]] w (BsEnd l n id w) := by
  obtain ⟨A, c⟩ := s
  simp only at hx ⊢
  have HX := Lib.hid hx
  have HN := Lib.hid hn
  have HID := Lib.hid hid
  have HI := Lib.hid hi
  have HS := Lib.hid hs
  clear hx hn hid hi hs
  go_enter Try.func60, Try.ntmps60
  go_wp2_with fail
  go_loopw [9, 10] (fun a b W => ∃ i j : Nat, i ≤ j ∧ j ≤ n ∧ a = .int .i64 i ∧ b = .int .i64 j ∧ Hid (∀ k o, k < i → l[k]? = some o → o.id < id) ∧ Hid (∀ k o, j ≤ k → l[k]? = some o → id ≤ o.id) ∧ Hid (Below w.heap.size w W)) (fun a b _ => (intOf b).toNat - (intOf a).toNat)
  case atStart => exact ⟨0, n, Nat.zero_le _, Nat.le_refl _, rfl, rfl, Lib.hid (fun k o h => absurd h (by omega)), Lib.hid (fun k o h hk => absurd (List.getElem?_eq_some_iff.1 hk).1 (by rw [HN.out]; omega)), Lib.hid (Below.refl _ _)⟩
  case round =>
    obtain ⟨i, j, hij, hj, rfl, rfl, HA, HB, HBL⟩ := hrel
    by_cases hlt : i < j
    · have hlt' : (i : Int) < j := by omega
      have hw1 : IntKind.i64.wrap ((i : Int) + j) = ((i + j : Nat) : Int) := by rw [IntWalk.i64_in _ (by omega)]; omega
      obtain ⟨q, hq⟩ : ∃ q, i + j = q := ⟨_, rfl⟩
      rw [hq] at hw1
      have hw2 : IntKind.u64.wrap (q : Int) = q := IntWalk.u64_in _ (by omega)
      obtain ⟨m, hm⟩ : ∃ m : Nat, (q : Int) / 2 = m := ⟨q / 2, by omega⟩
      have him : i ≤ m := by omega
      have hmj : m < j := by omega
      have hmn : m < n := by omega
      have HIM := Lib.hid him
      have HMJ := Lib.hid hmj
      clear hq
      obtain ⟨o, ho⟩ := get_of (l := l) (k := m) (by rw [HN.out]; exact hmn)
      obtain ⟨ad, rfl, hadl, c0, c1, c2, c3, c4, c5, c6, c7, c8, c9, c10, c11⟩ := obj_at (HX.out.below HBL.out) ho hmn
      have HO := Lib.hid ho
      have hdd : IntKind.i64.wrap (o.id - id) = o.id - id := IntWalk.i64_in _ (by have := HID.out o (List.mem_of_getElem? ho); have := HI.out; omega)
      obtain ⟨d, hd⟩ : ∃ d, o.id - id = d := ⟨_, rfl⟩
      rw [hd] at hdd
      have HCM := Lib.hid (icmp_any o id d wr (by rw [hd]; exact hdd))
      have HD := Lib.hid hd
      simp only [Ob.cells] at HCM
      clear ho hdd hd him hmj
      go_wp2_with fail
      refine HCM.out.mono ?_
      rintro e w2 ⟨rfl, hb2⟩
      have HBL2 := Lib.hid (below_call HBL.out hb2 HBL.out.size)
      clear hb2 c0 c1 c2 c3 c4 c5 c6 c7 c8 c9 c10 c11 hadl
      by_cases hneg : d < 0
      · have hneg' : decide (d < 0) = true := decide_eq_true hneg
        have HA2 : Hid (∀ k o, k < m + 1 → l[k]? = some o → o.id < id) := Lib.hid (fun k p h hk => by
          have h1 := HD.out
          rcases Nat.lt_or_ge k m with h2 | h2
          · have := HS.out k m p o h2 hk HO.out
            omega
          · obtain rfl : k = m := by omega
            rw [HO.out] at hk
            rw [← Option.some.inj hk]
            omega)
        clear hneg
        go_wp2_with fail
        go_roundw
        case rel => exact ⟨m + 1, j, by have := HMJ.out; omega, hj, by go_num, rfl, HA2, HB, HBL2⟩
        case measure => have := HIM.out; have := HMJ.out; simp [intOf]; omega
      · have hneg' : decide (d < 0) = false := decide_eq_false hneg
        have HB2 : Hid (∀ k o, m ≤ k → l[k]? = some o → id ≤ o.id) := Lib.hid (fun k p h hk => by
          have h1 := HD.out
          rcases Nat.lt_or_ge m k with h2 | h2
          · have := HS.out m k o p h2 HO.out hk
            omega
          · obtain rfl : k = m := by omega
            rw [HO.out] at hk
            rw [← Option.some.inj hk]
            omega)
        clear hneg
        go_wp2_with fail
        go_roundw
        case rel => exact ⟨i, m, HIM.out, by omega, rfl, rfl, HA, HB2, HBL2⟩
        case measure => have := HIM.out; have := HMJ.out; simp [intOf]; omega
    · have hij2 : ¬ (i : Int) < j := by omega
      have HKE : Hid (j = i) := Lib.hid (by omega)
      have HB3 : Hid (∀ k o, i ≤ k → l[k]? = some o → id ≤ o.id) := Lib.hid (fun k o h hk => HB.out k o (by rw [HKE.out]; exact h) hk)
      have hin2 : i ≤ n := by omega
      by_cases hin : i < n
      · have hin' : (i : Int) < n := by omega
        obtain ⟨o, ho⟩ := get_of (l := l) (k := i) (by rw [HN.out]; exact hin)
        obtain ⟨ad, rfl, hadl, c0, c1, c2, c3, c4, c5, c6, c7, c8, c9, c10, c11⟩ := obj_at (HX.out.below HBL.out) ho hin
        have HO := Lib.hid ho
        have hdd : IntKind.i64.wrap (o.id - id) = o.id - id := IntWalk.i64_in _ (by have := HID.out o (List.mem_of_getElem? ho); have := HI.out; omega)
        obtain ⟨d, hd⟩ : ∃ d, o.id - id = d := ⟨_, rfl⟩
        rw [hd] at hdd
        have HCM := Lib.hid (icmp_any o id d wr (by rw [hd]; exact hdd))
        have HD := Lib.hid hd
        simp only [Ob.cells] at HCM
        clear ho hdd hd
        go_wp2_with fail
        refine HCM.out.mono ?_
        rintro e w2 ⟨rfl, hb2⟩
        have HBL2 := Lib.hid (below_call HBL.out hb2 HBL.out.size)
        clear hb2 c0 c1 c2 c3 c4 c5 c6 c7 c8 c9 c10 c11 hadl
        obtain ⟨v, hv⟩ : ∃ v, (d == 0) = v := ⟨_, rfl⟩
        have HV := Lib.hid hv
        go_wp2_with fail
        (first | go_ret | go_ret2)
        refine ⟨i, v, rfl, hin2, HA.out, HB3.out, ?_, HBL2.out⟩
        have h1 := HV.out
        have h2 := HD.out
        rw [← h1, beq_iff_eq]
        constructor
        · intro h3
          exact ⟨o, HO.out, by omega⟩
        · rintro ⟨p, hp, h3⟩
          rw [HO.out] at hp
          rw [← Option.some.inj hp] at h3
          omega
      · have hin' : decide ((i : Int) < n) = false := decide_eq_false (by omega)
        have HNO : Hid (l[i]? = none) := Lib.hid (by rw [List.getElem?_eq_none_iff, HN.out]; omega)
        go_wp2_with fail
        (first | go_ret | go_ret2)
        exact ⟨i, false, rfl, hin2, HA.out, HB3.out, ⟨fun h => (by cases h), fun ⟨p, hp, _⟩ => by rw [HNO.out] at hp; cases hp⟩, HBL.out⟩
end Go.Proofs.Ytagpphelgghbpaa

/-
  board.index.
-/
set_option linter.unusedSimpArgs false
set_option linter.unusedVariables false
namespace Go.Proofs.Ytagpphelgghbpaa
open Go.RowKit

theorem obs_ok {b : Bd} (h : plcP b) : (∀ o ∈ b.objs, 1 ≤ o.id ∧ o.id ≤ 500) ∧ ∀ (i j : Nat) (x y : Ob), i < j → b.objs[i]? = some x → b.objs[j]? = some y → x.id < y.id := by
  refine ⟨fun o ho => ?_, fun i j x y hij hx hy => ?_⟩
  · have h1 := (h.2.1 o ho).1
    unfold obOk inR at h1
    simp at h1
    omega
  · have hp := List.pairwise_iff_getElem.1 (inc_pw _ h.2.2.1)
    obtain ⟨h1, e1⟩ := List.getElem?_eq_some_iff.1 hx
    obtain ⟨h2, e2⟩ := List.getElem?_eq_some_iff.1 hy
    have := hp i j (by simpa using h1) (by simpa using h2) hij
    rw [List.getElem_map, List.getElem_map, e1, e2] at this
    exact this
/-- What index gives on a valid board. -/
def IxEnd (b : Bd) (id : Int) (w : World) (e : Ending) (w' : World) : Prop := ((∃ (i : Nat) (o : Ob), b.objs[i]? = some o ∧ o.id = id ∧ e = .returned (.tuple #[.int .i64 i, .int .i64 0])) ∨ ((∀ o ∈ b.objs, o.id ≠ id) ∧ e = .returned (.tuple #[.int .i64 0, .int .i64 9]))) ∧ Below w.heap.size w w'
set_option maxRecDepth 100000 in
set_option maxHeartbeats 1600000 in
theorem index_any (b : Bd) (m : BdM) (id : Int) (w : World) (h : BdR w b m) (hz : b.plc.length < 9223372036854775807) (hv : b.Valid) (hi : 0 ≤ id ∧ id ≤ 1000) :
    Calls Try.prog 35 #[.agg (b.cells m).toArray, .int .i64 id] w (IxEnd b id w) := by
  have HR := Lib.hid h
  have HOK := Lib.hid (obs_ok hv.2.2.2.2.2.1)
  obtain ⟨cs, hcs⟩ : ∃ cs, (b.cells m).toArray = cs := ⟨_, rfl⟩
  have HP : Hid (∀ W, Below w.heap.size w W → Calls Try.prog 4 #[.agg cs] W (BoolEnd b.Valid W)) := Lib.hid (fun W hb => by rw [← hcs]; exact valid_any b m W (h.below hb) hz)
  have HV := Lib.hid hv
  rw [hcs]
  have hbox := Blk.mk_ w 33 cs _ rfl
  have hB0 : Below w.heap.size w (w.alloc (.cells cs 33)) := (Below.refl _ _).alloc (Nat.le_refl _) _
  have hsz : cs.toList.length = 38 := by rw [← hcs]; rfl
  have HL : Hid ((Instr.loadAt 33 (.pointer (some ⟨w.heap.size, 0, none⟩))).run Try.prog (w.alloc (.cells cs 33)) = .ok (.agg cs) (w.alloc (.cells cs 33))) := Lib.hid (by
    have := hbox.mid (o := 0) (ty := 33) cs.toList _ (fun j v hj => by rw [Nat.zero_add]; simpa using hj) Try.underlying33 rfl (by rw [hsz]; exact size_board)
    rwa [Array.toArray_toList] at this)
  obtain ⟨⟨OA, Oc⟩, hO⟩ : ∃ s, m.O = s := ⟨_, rfl⟩
  obtain ⟨no, hno⟩ : ∃ n, b.objs.length = n := ⟨_, rfl⟩
  have hno5 : no ≤ 500 := by
    have h1 := hv.1
    unfold numOk at h1
    simp at h1
    omega
  have e0 : cs[0]? = some (.slice OA no Oc) := by
    rw [← hcs]
    show some (m.O.v b.objs.length) = _
    rw [hO, hno]
    rfl
  have HBS : Hid (∀ W, Below w.heap.size w W → Calls Try.prog 60 #[.slice OA no Oc, .int .i64 id, .func (.func 61) #[] #[]] W (BsEnd b.objs no id W)) := Lib.hid (fun W hb => by
    have := bs_any m.O no b.objs id W (by rw [← hno]; exact h.O.below hb) hno hno5 HOK.out.1 hi HOK.out.2
    rwa [hO] at this)
  have HBOX := Lib.hid hbox
  have HB0 := Lib.hid hB0
  have E0 := Lib.hid e0
  clear h hz hv hcs hO hno hbox hB0 e0 hsz hi
  go_enter Try.func35, Try.ntmps35
  go_wp2_with (first | (refine wpList_load_by HL.out rfl rfl rfl ?_; simp only [Act.put, List.setIfInBounds_toArray, List.set_cons_succ, List.set_cons_zero]) | fail)
  refine (HP.out _ HB0.out).mono ?_
  rintro e w2 ⟨v, rfl, hvv, hb2⟩
  have HB2 := Lib.hid (below_call HB0.out hb2 HB0.out.size)
  have HBL2 := Lib.hid (HBOX.out.call hb2)
  have hvt : v = true := hvv.2 HV.out
  subst hvt
  have c0 : w2.cell? ⟨w.heap.size, 0, none⟩ = some (.slice OA no Oc) := (HBL2.out.at_ 0).trans E0.out
  clear hvv hb2
  go_wp2_with fail
  refine (HBS.out w2 HB2.out).mono ?_
  rintro e w3 ⟨i, v, rfl, hin, HA, HBB, hv2, hb3⟩
  have HB3 := Lib.hid (below_call HB2.out hb3 HB2.out.size)
  have H2 := Lib.hid hv2
  have H3 := Lib.hid HA
  have H4 := Lib.hid HBB
  clear hv2 HA HBB hb3 c0
  cases v with
  | true =>
    go_wp2_with fail
    (first | go_ret | go_ret2)
    obtain ⟨o, ho, hid⟩ := H2.out.1 (by trivial)
    exact ⟨.inl ⟨i, o, ho, hid, rfl⟩, HB3.out⟩
  | false =>
    go_wp2_with fail
    (first | go_ret | go_ret2)
    refine ⟨.inr ⟨fun o ho hid => ?_, rfl⟩, HB3.out⟩
    obtain ⟨k, hk⟩ := List.getElem?_of_mem ho
    rcases Nat.lt_or_ge k i with h1 | h1
    · have := H3.out k o h1 hk
      omega
    · rcases Nat.lt_or_ge i k with h2 | h2
      · have hkl := (List.getElem?_eq_some_iff.1 hk).1
        obtain ⟨p, hp⟩ := get_of (l := b.objs) (k := i) (by omega)
        have h3 := H4.out i p (Nat.le_refl _) hp
        have h4 := HOK.out.2 i k p o h2 hp hk
        omega
      · obtain rfl : k = i := by omega
        have h5 := H2.out.2 ⟨o, hk, hid⟩
        simp at h5
end Go.Proofs.Ytagpphelgghbpaa

/-
  Small functions of spectate, ticks, view.
-/
set_option linter.unusedSimpArgs false
set_option linter.unusedVariables false
namespace Go.Proofs.Ytagpphelgghbpaa
open Go.RowKit

theorem player0 (w : World) : Calls Try.prog 43 #[.int .i64 0] w fun e w' => e = .returned (.bool true) ∧ w = w' := by
  go_enter Try.func43, Try.ntmps43
  go_wp2
  go_ret
  exact ⟨rfl, rfl⟩
theorem player1 (w : World) : Calls Try.prog 43 #[.int .i64 1] w fun e w' => e = .returned (.bool true) ∧ w = w' := by
  go_enter Try.func43, Try.ntmps43
  go_wp2
  go_ret
  exact ⟨rfl, rfl⟩
theorem add10 (w : World) : Calls Try.prog 66 #[.int .u64 1, .int .u64 0] w fun e w' => e = .returned (.int .u64 1) ∧ w = w' := by
  go_enter Try.func66, Try.ntmps66
  go_wp2
  go_ret
  exact ⟨rfl, rfl⟩
theorem due11 (w : World) : Calls Try.prog 65 #[.int .u64 1, .int .u64 1] w fun e w' => e = .returned (.bool true) ∧ w = w' := by
  go_enter Try.func65, Try.ntmps65
  go_wp2
  go_ret
  exact ⟨rfl, rfl⟩
theorem none_f (g : Nat) (w : World) (h : w.cell? ⟨g, 0, none⟩ = some (.bool true)) : Calls Try.prog 37 #[.pointer (some ⟨g, 0, none⟩)] w fun e w' => e = .returned (.bool false) ∧ w = w' := by
  go_enter Try.func37, Try.ntmps37
  go_wp2
  go_ret
  exact ⟨rfl, rfl⟩
set_option maxRecDepth 100000 in
theorem isid_any (o : Ob) (i : Int) (g : Nat) (w : World) (h : w.cell? ⟨g, 0, none⟩ = some (.int .i64 i)) (hg : g < w.heap.size) (v : Bool) (hv : (o.id == i) = v) : Calls Try.prog 75 #[.agg o.cells.toArray, .pointer (some ⟨g, 0, none⟩)] w fun e w' => e = .returned (.bool v) ∧ Below w.heap.size w w' := by
  have hal : ∀ cs, Below w.heap.size w (w.alloc (.cells cs 88)) := fun cs => (Below.refl _ _).alloc (Nat.le_refl _) _
  have HAL := Lib.hid hal
  clear hal
  obtain ⟨id, card, own, o3, o4, o5, o6, o7, o8, o9, o10, o11⟩ := o
  simp only [Ob.cells] at hv ⊢
  go_enter Try.func75, Try.ntmps75
  go_wp2
  go_ret
  exact ⟨rfl, HAL.out _⟩
def SnewEnd (w : World) (e : Ending) (w' : World) : Prop := e = .returned (.tuple #[.pointer (some ⟨w.heap.size, 0, none⟩), .int .i64 0]) ∧ Blk w' w.heap.size 102 #[.bool true, .int .u64 0, .int .u64 0, .slice none 0 0] ∧ Below w.heap.size w w'
theorem snew (w : World) : Calls Try.prog 17 #[.int .u64 0] w (SnewEnd w) := by
  have HK := Lib.hid (Blk.mk_ w 102 #[.bool true, .int .u64 0, .int .u64 0, .slice none 0 0] _ rfl)
  have HB : Hid (Below w.heap.size w (w.alloc (.cells #[.bool true, .int .u64 0, .int .u64 0, .slice none 0 0] 102))) := Lib.hid ((Below.refl _ _).alloc (Nat.le_refl _) _)
  go_enter Try.func17, Try.ntmps17
  go_wp2
  (first | go_ret | go_ret2)
  exact ⟨rfl, HK.out, HB.out⟩
end Go.Proofs.Ytagpphelgghbpaa

/-
  slices.IndexFunc over objects: where an id stands.
-/
set_option linter.unusedSimpArgs false
set_option linter.unusedVariables false
namespace Go.Proofs.Ytagpphelgghbpaa
open Go.RowKit

/-- The first place of an id, or -1. -/
def IofEnd (l : List Ob) (id : Int) (w : World) (e : Ending) (w' : World) : Prop := ((∃ (i : Nat) (o : Ob), l[i]? = some o ∧ o.id = id ∧ e = .returned (.int .i64 i)) ∨ ((∀ o ∈ l, o.id ≠ id) ∧ e = .returned (.int .i64 (-1)))) ∧ Below w.heap.size w w'
set_option maxRecDepth 100000 in
set_option maxHeartbeats 1600000 in
theorem iof_any (A : Option Addr) (n c g : Nat) (l : List Ob) (id : Int) (w : World) (hx : Reads w 12 A n (ocs l)) (hn : l.length = n) (hn9 : n ≤ 9223372036854775807) (hc : w.cell? ⟨g, 0, none⟩ = some (.int .i64 id)) (hg : g < w.heap.size) :
    Calls Try.prog 74 #[.slice A n c, .func (.func 75) #[] #[.pointer (some ⟨g, 0, none⟩)]] w (IofEnd l id w) := by
  have HX := Lib.hid hx
  have HN := Lib.hid hn
  have HC := Lib.hid hc
  have HG := Lib.hid hg
  clear hx hn hc hg
  go_enter Try.func74, Try.ntmps74
  go_wp2_with fail
  go_loopw [8] (fun a W => ∃ i : Nat, i ≤ n ∧ a = .int .i64 i ∧ Hid (∀ k o, k < i → l[k]? = some o → o.id ≠ id) ∧ Hid (Below w.heap.size w W)) (fun a _ => n - (intOf a).toNat)
  case atStart => exact ⟨0, Nat.zero_le _, rfl, Lib.hid (fun k o h => absurd h (by omega)), Lib.hid (Below.refl _ _)⟩
  case round =>
    obtain ⟨i, hi, rfl, HA, HBL⟩ := hrel
    by_cases hlt : i < n
    · have hlt' : (i : Int) < n := by omega
      obtain ⟨o, ho⟩ := get_of (l := l) (k := i) (by rw [HN.out]; exact hlt)
      obtain ⟨ad, rfl, hadl, c0, c1, c2, c3, c4, c5, c6, c7, c8, c9, c10, c11⟩ := obj_at (HX.out.below HBL.out) ho hlt
      have HO := Lib.hid ho
      obtain ⟨v, hv⟩ : ∃ v, (o.id == id) = v := ⟨_, rfl⟩
      have HV := Lib.hid hv
      have HCM := Lib.hid (isid_any o id g wr (by rw [keep_at HBL.out g HG.out]; exact HC.out) (Nat.lt_of_lt_of_le HG.out HBL.out.size) v hv)
      simp only [Ob.cells] at HCM
      clear ho hv
      go_wp2_with fail
      refine HCM.out.mono ?_
      rintro e w2 ⟨rfl, hb2⟩
      have HBL2 := Lib.hid (below_call HBL.out hb2 HBL.out.size)
      clear hb2 c0 c1 c2 c3 c4 c5 c6 c7 c8 c9 c10 c11 hadl
      cases v with
      | true =>
        go_wp2_with fail
        go_ret
        exact ⟨.inl ⟨i, o, HO.out, by have := HV.out; simpa using this, rfl⟩, HBL2.out⟩
      | false =>
        have HA2 : Hid (∀ k o, k < i + 1 → l[k]? = some o → o.id ≠ id) := Lib.hid (fun k p h hk => by
          rcases Nat.lt_or_ge k i with h2 | h2
          · exact HA.out k p h2 hk
          · obtain rfl : k = i := by omega
            rw [HO.out] at hk
            rw [← Option.some.inj hk]
            have := HV.out
            simpa using this)
        go_wp2_with fail
        go_roundw
        case rel => exact ⟨i + 1, hlt, by go_num, HA2, HBL2⟩
        case measure => simp [intOf]; omega
    · have HE : Hid (∀ o ∈ l, o.id ≠ id) := Lib.hid (fun o ho => by
        obtain ⟨k, hk⟩ := List.getElem?_of_mem ho
        exact HA.out k o (by have := (List.getElem?_eq_some_iff.1 hk).1; have := HN.out; omega) hk)
      clear hi
      go_wp2_with fail
      go_ret
      exact ⟨.inr ⟨HE.out, rfl⟩, HBL.out⟩
end Go.Proofs.Ytagpphelgghbpaa

/-
  spectate.objects: the objects with some ids.
-/
set_option linter.unusedSimpArgs false
set_option linter.unusedVariables false
namespace Go.Proofs.Ytagpphelgghbpaa
open Go.RowKit

/-- The object with an id. -/
def obI (l : List Ob) (i : Int) : Ob := (l.find? fun o => decide (o.id = i)).getD default
theorem obI_of {l : List Ob} (hs : ∀ (i j : Nat) (x y : Ob), i < j → l[i]? = some x → l[j]? = some y → x.id < y.id) {o : Ob} (ho : o ∈ l) : obI l o.id = o := by
  unfold obI
  cases hf : l.find? fun p => decide (p.id = o.id) with
  | none =>
    have := List.find?_eq_none.1 hf o ho
    simp at this
  | some p =>
    have h1 := List.find?_some hf
    have h2 := List.mem_of_find?_eq_some hf
    simp at h1
    obtain ⟨a, ha⟩ := List.getElem?_of_mem ho
    obtain ⟨c, hc⟩ := List.getElem?_of_mem h2
    rcases Nat.lt_trichotomy a c with h | h | h
    · have := hs a c o p h ha hc
      omega
    · subst h
      rw [ha] at hc
      exact (Option.some.inj hc).symm
    · have := hs c a p o h hc ha
      omega
theorem one_ocs (l : List Ob) : ∀ u ∈ ocs l, u.oneCell' = true := by
  intro u hu
  unfold ocs at hu
  obtain ⟨p, _, hp⟩ := List.mem_flatMap.1 hu
  simp only [Ob.cells, List.mem_cons, List.not_mem_nil, or_false] at hp
  rcases hp with rfl | rfl | rfl | rfl | rfl | rfl | rfl | rfl | rfl | rfl | rfl | rfl <;> rfl
def SobEnd (l : List Ob) (ids : List Int) (w : World) (e : Ending) (w' : World) : Prop := ∃ A c, e = .returned (.slice A ids.length c) ∧ XOwns w' w.heap.size 88 12 A ids.length c (ocs (ids.map (obI l))) ∧ Below w.heap.size w w'
set_option maxRecDepth 100000 in
set_option maxHeartbeats 1600000 in
theorem sobjs_any (b : Bd) (m : BdM) (s : Sl) (ids : List Int) (w : World) (h : BdR w b m) (hp : plcP b) (hl : LsR w s ids) (hall : ∀ i ∈ ids, ∃ o ∈ b.objs, o.id = i) (hn : ids.length ≤ 500) :
    Calls Try.prog 64 #[.agg (b.cells m).toArray, .slice s.A ids.length s.c] w (SobEnd b.objs ids w) := by
  have HOK := Lib.hid (obs_ok hp)
  have HALL := Lib.hid hall
  obtain ⟨cs, hcs⟩ : ∃ cs, (b.cells m).toArray = cs := ⟨_, rfl⟩
  rw [hcs]
  have hbox := Blk.mk_ w 33 cs _ rfl
  have hB0 : Below w.heap.size w (w.alloc (.cells cs 33)) := (Below.refl _ _).alloc (Nat.le_refl _) _
  obtain ⟨⟨OA, Oc⟩, hO⟩ : ∃ s, m.O = s := ⟨_, rfl⟩
  obtain ⟨⟨IA, Ic⟩, hI⟩ : ∃ t, s = t := ⟨_, rfl⟩
  subst hI
  obtain ⟨no, hno⟩ : ∃ n, b.objs.length = n := ⟨_, rfl⟩
  obtain ⟨ni, hni⟩ : ∃ n, ids.length = n := ⟨_, rfl⟩
  have hoo := h.Oo
  have HROW := Lib.hid h.O
  have e0 : cs[0]? = some (.slice OA no Oc) := by
    rw [← hcs]
    show some (m.O.v b.objs.length) = _
    rw [hO, hno]
    rfl
  rw [hO, hno] at HROW hoo
  have hno9 : no ≤ 9223372036854775807 := by unfold Sl.ok at hoo; simp only at hoo; omega
  have HL := Lib.hid hl.row
  simp only [hni] at HL hn ⊢
  have HNI := Lib.hid hni
  have HNO := Lib.hid hno
  have HBOX := Lib.hid hbox
  have HB0 := Lib.hid hB0
  have E0 := Lib.hid e0
  clear h hp hl hall hcs hO hno hni hbox hB0 e0 hoo
  go_enter Try.func64, Try.ntmps64
  go_wp2_with fail
  have HX0 : Hid (XOwns (w.alloc (.cells cs 33)) (w.heap.size + 1) 88 12 none 0 0 (ocs ((ids.take 0).map (obI b.objs)))) := Lib.hid (XOwns.nil_ _ _ _ _)
  go_loopw [5, 11] (fun a i W => ∃ (k : Nat) (A : Option Addr) (c : Nat), k ≤ ni ∧ i = .int .i64 k ∧ a = .slice A k c ∧ Hid (XOwns W (w.heap.size + 1) 88 12 A k c (ocs ((ids.take k).map (obI b.objs)))) ∧ Hid (Below w.heap.size w W) ∧ Hid (Blk W w.heap.size 33 cs)) (fun _ i _ => ni - (intOf i).toNat)
  case atStart => exact ⟨0, none, 0, Nat.zero_le _, rfl, rfl, HX0, HB0, HBOX⟩
  case round =>
    obtain ⟨k, A, c, hk, rfl, rfl, HX, HB, HBL⟩ := hrel
    clear HX0
    by_cases hkn : k < ni
    · have hkn' : (k : Int) < ni := by omega
      obtain ⟨ad, rfl, hadl, c0⟩ := int_at (HL.out.below HB.out) hkn
      have hget := ith_get (xs := ids) (k := k) (by rw [HNI.out]; exact hkn)
      generalize ith ids k = x at *
      have HGET := Lib.hid hget
      clear hget
      obtain ⟨o, ho, hoi⟩ := HALL.out x (List.mem_of_getElem? HGET.out)
      have HOI := Lib.hid (show obI b.objs x = o by rw [← hoi]; exact obI_of HOK.out.2 ho)
      have HMEM := Lib.hid ho
      have HOX := Lib.hid hoi
      clear ho hoi
      obtain ⟨w5, hw5⟩ : ∃ w5, wr.alloc (.cells #[.int .i64 x] 3) = w5 := ⟨_, rfl⟩
      obtain ⟨gX, hgX⟩ : ∃ g, wr.heap.size = g := ⟨_, rfl⟩
      have hal : Below wr.heap.size wr w5 := by rw [← hw5]; exact (Below.refl _ _).alloc (Nat.le_refl _) _
      have HX5 : Hid (Blk w5 gX 3 #[.int .i64 x]) := Lib.hid (by rw [← hw5]; exact Blk.mk_ wr _ _ _ hgX)
      have HB5 := Lib.hid (below_call HB.out hal HB.out.size)
      have HBL5 := Lib.hid (HBL.out.call hal)
      have HXO5 := Lib.hid (HX.out.below hal)
      have b5 : w5.cell? ⟨w.heap.size, 0, none⟩ = some (.slice OA no Oc) := (HBL5.out.at_ 0).trans E0.out
      have hx5 := HX5.out.lt
      have HIO := Lib.hid (iof_any OA no Oc gX b.objs x w5 (HROW.out.below HB5.out) HNO.out hno9 ((HX5.out.at_ 0).trans rfl) hx5)
      clear hal
      go_wp2_with fail
      refine HIO.out.mono ?_
      rintro e w6 ⟨hr, hb6⟩
      rcases hr with ⟨i, p, hp, hpi, rfl⟩ | ⟨hno, _⟩
      · have hpo : obI b.objs x = p := by rw [← hpi]; exact obI_of HOK.out.2 (List.mem_of_getElem? hp)
        have HB6 := Lib.hid (below_call HB5.out hb6 HB5.out.size)
        have HBL6 := Lib.hid (HBL5.out.call hb6)
        have HXO6 := Lib.hid (HXO5.out.below hb6)
        have HPO := Lib.hid hpo
        have hin : i < no := by have := (List.getElem?_eq_some_iff.1 hp).1; have := HNO.out; omega
        have hin' : (i : Int) < no := by omega
        have b6 : w6.cell? ⟨w.heap.size, 0, none⟩ = some (.slice OA no Oc) := (HBL6.out.at_ 0).trans E0.out
        clear b5 hw5 hgX hx5 hb6 hpo hpi c0 hadl
        have hrow := HROW.out.below HB6.out
        obtain ⟨ao, rfl, hadl, c0, c1, c2, c3, c4, c5, c6, c7, c8, c9, c10, c11⟩ := obj_at hrow hp hin
        clear hrow hp
        have HSP := Lib.hid (show (ids.take (k + 1)).map (obI b.objs) = (ids.take k).map (obI b.objs) ++ [p] by rw [take_snoc HGET.out, List.map_append, List.map_cons, List.map_nil, HPO.out])
        obtain ⟨L, hL⟩ : ∃ L, (ids.take k).map (obI b.objs) = L := ⟨_, rfl⟩
        rw [hL] at HSP HXO6
        clear hL
        obtain ⟨w7, hw7⟩ : ∃ w7, w6.alloc (.cells #[.int .i64 p.id, .int .i64 p.card, .int .i64 p.own, .int .i64 p.pow, .int .i64 p.tou, .int .i64 p.dam, .int .i64 p.cnt, .int .i64 p.pp, .int .i64 p.pt, .bool p.tap, .bool p.sick, .bool p.doom] 88) = w7 := ⟨_, rfl⟩
        have HBK : Hid (Blk w7 w6.heap.size 88 #[.int .i64 p.id, .int .i64 p.card, .int .i64 p.own, .int .i64 p.pow, .int .i64 p.tou, .int .i64 p.dam, .int .i64 p.cnt, .int .i64 p.pp, .int .i64 p.pt, .bool p.tap, .bool p.sick, .bool p.doom]) := Lib.hid (by rw [← hw7]; exact Blk.mk_ w6 _ _ _ rfl)
        have hal7 : Below w6.heap.size w6 w7 := by rw [← hw7]; exact (Below.refl _ _).alloc (Nat.le_refl _) _
        have HB7 := Lib.hid (below_call HB6.out hal7 HB6.out.size)
        have HBL7 := Lib.hid (HBL6.out.call hal7)
        have HXO7 := Lib.hid (HXO6.out.below hal7)
        clear hal7
        have hzb : w.heap.size + 1 ≤ w7.heap.size := by have := HBL7.out.lt; omega
        go_wp2_with (at_builtin; refine append_xr (w := w7) ?_ (.tmp 21) (.tmp 27) 22 ?_ (w.heap.size + 1) 88 _ 12 80 tinfo_objs Try.underlying22 rfl (by decide) A k c (ocs L) ?_ HXO7.out (some ⟨w6.heap.size, 0, none⟩) 1 1 (ocs [p]) ?_ (fun h => by cases h) (reads_block HBK.out 12 1 rfl) (one_ocs _) ?_ ?_ ?_ ?_; rfl; rfl; rfl; rfl; omega; omega; exact hzb; intro A8 c8 w8 ho8 hb8)
        have HBL8 := Lib.hid (HBL7.out.below hb8 (by omega))
        have HB8 := Lib.hid (HB7.out.trans (hb8.mono (by omega)))
        go_roundw
        case rel => exact ⟨k + 1, A8, c8, by omega, by go_num, rfl, Lib.hid (by rw [HSP.out]; (have h := ho8; rw [show ocs L ++ ocs [p] = ocs (L ++ [p]) by simp [ocs]] at h; exact h)), HB8, HBL8⟩
        case measure => simp [intOf]; omega
      · exact absurd HOX.out (hno o HMEM.out)
    · have HKE : Hid (k = ni) := Lib.hid (by omega)
      clear hk
      go_wp2_with fail
      go_ret
      refine ⟨A, c, by rw [HNI.out, HKE.out]; rfl, ?_, HB.out⟩
      have h := HX.out.more (show w.heap.size ≤ w.heap.size + 1 by omega)
      rw [List.take_of_length_le (by rw [HNI.out, HKE.out]; exact Nat.le_refl _)] at h
      rw [HNI.out, ← HKE.out]
      exact h
end Go.Proofs.Ytagpphelgghbpaa
