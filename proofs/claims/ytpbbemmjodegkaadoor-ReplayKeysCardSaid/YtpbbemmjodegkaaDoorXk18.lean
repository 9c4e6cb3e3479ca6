/-
  Texts: Kl, Km, Kn, Ko, Kp.
-/
import Derived.Test.YtpbbemmjodegkaaDoorXk17
import Derived.Lib.AppendZerosOnto
import Derived.Lib.SliceRun
import Derived.Lib.Walk
set_option linter.unusedSimpArgs false
set_option linter.unusedVariables false
namespace Go.Proofs.YtpbbemmjodegkaaDoor
open Go.RowKit

theorem named_le {s : ByteArray} (h : namedS s = true) : s.size ≤ 100000 := by
  unfold namedS wnR at h
  simp only [Bool.and_eq_true, decide_eq_true_eq] at h
  omega
theorem cdOk_nm {c : Cd} (h : cdOk c = true) : c.nm.size ≤ 100000 := by
  unfold cdOk at h
  simp only [Bool.and_eq_true] at h
  exact named_le h.1.1.1.1
theorem pzero_any (B p : Nat) (l : List Cd) (w : World) (h : PoolR w B p l) : Calls Tryd.prog 23 #[.pointer (some ⟨p, 0, none⟩)] w fun e w' => e = .returned (.bool false) ∧ w = w' := by
  obtain ⟨s, ms, g, hk, -⟩ := h.ex
  have c0 : w.cell? ⟨p, 0, none⟩ = some (s.v l.length) := (hk.at_ 0).trans rfl
  have c1 : w.cell? ⟨p, 1, none⟩ = some (.map (some g)) := (hk.at_ 1).trans rfl
  have qT : ∀ (w : World) (r : Option Nat), (binOp .eql 76 (.map r) (.map none)).run Tryd.prog w = .ok (.bool r.isNone) w := fun w r => run_eql_map_nil w _ _ _ r Tryd.underlying76
  have qg : (some g : Option Nat).isNone = false := rfl
  clear hk h
  go_enter Tryd.func23, Tryd.ntmps23
  go_wp2
  go_ret
  exact ⟨rfl, rfl⟩

set_option maxHeartbeats 1600000 in
theorem bgrow_any (n : Nat) (w : World) (hn : n ≤ 100000) : Calls Tryd.prog 48 #[.slice none 0 0, .int .i64 n] w fun e w' => ∃ A c, e = .returned (.slice A 0 c) ∧ XOwns w' w.heap.size 5 1 A 0 c [] ∧ Below w.heap.size w w' := by
  rcases Nat.eq_zero_or_pos n with h0 | h0
  · subst h0
    go_enter Tryd.func48, Tryd.ntmps48
    go_wp2
    go_ret
    exact ⟨none, 0, rfl, XOwns.nil_ _ _ _ _, Below.refl _ _⟩
  · obtain ⟨i0, hi, hz0, hz1, hz2⟩ := info_parts Tryd.info5
    have hold : (Builtin.firstCells i0.size 0 (.slice none 0 0)).run Tryd.prog w.drew = .ok ([] : List Value).toArray w.drew := run_firstCells_none w.drew i0.size 0 0 0
    have hrz : ∀ ty, (Builtin.append_ #[35, 3] ty #[.slice none 0 0, .int .i64 n]).run Tryd.prog w = _ := fun ty =>
      Lib.run_append_grow_zeros w 35 3 ty 5 i0 (.int .u8 0) .u8 .i64 Tryd.underlying35 Tryd.underlying3 hi hz0 none 0 0 [] hold n h0 (by omega) (by omega) (by omega) (by rw [hz2]; omega) (growslice_fits (by omega) (by rw [hz2]; omega))
    rw [Nat.zero_add] at hrz
    have hG1 : n ≤ grownCap w n 0 5 := grownCap_ge w _ _ _
    have hG2 : grownCap w n 0 5 ≤ maxLen := grownCap_le_maxLen w n 0 5 (by unfold maxLen; omega)
    generalize grownCap w n 0 5 = G at *
    have HG2 := Lib.hid hG2
    have hG3 : G ≤ 9223372036854775807 := by unfold maxLen at hG2; omega
    have hn0 : (0 : Int) < n := by omega
    clear hi hz0 hz1 hz2 hold hG2
    go_enter Tryd.func48, Tryd.ntmps48
    go_wp2_with (at_builtin; refine Lib.wpList_append_run _ rfl _ _ _ _ rfl _ _ rfl rfl _ _ (hrz _) ?_)
    all_goals go_ret
    all_goals refine ⟨some ⟨w.heap.size, 0, none⟩, G, rfl, ⟨⟨rfl, .inr ⟨w.heap.size, G, (Builtin.zeroCells (Value.int .u8 0).cells n ++ Builtin.zeroCells (Value.int .u8 0).cells (G - n)), rfl, Nat.le_refl _, ?_, Nat.zero_le _, HG2.out, ?_, rfl⟩⟩, fun h => by cases h⟩, (Below.refl _ _).drew.alloc (by simp) _⟩
    · exact Blk.mk_ w.drew 5 _ _ rfl
    · simp [Builtin.zeroCells, Value.cells]
      omega

set_option maxRecDepth 100000 in
set_option maxHeartbeats 1600000 in
theorem concat2_any (g : Nat) (t : TypeId) (A B : Option Addr) (n m c d : Nat) (xs ys : List Int) (w : World) (hb : Blk w g t #[.slice A n c, .slice B m d]) (hx : BReads w A n xs) (hy : BReads w B m ys) (hA : A = none → c = 0) (hB : B = none → d = 0) (hn : n + m ≤ 100000) :
    Calls Tryd.prog 26 #[.slice (some ⟨g, 0, none⟩) 2 2] w fun e w' => ∃ A' c', e = .returned (.slice A' (n + m) c') ∧ BOwns w' w.heap.size 5 A' (n + m) c' (xs ++ ys) ∧ Below w.heap.size w w' := by
  have HB := Lib.hid hb
  have HX := Lib.hid hx
  have HY := Lib.hid hy
  have HA := Lib.hid hA
  have HBB := Lib.hid hB
  have c0 := (hb.at_ 0).trans rfl
  have c1 := (hb.at_ 1).trans rfl
  have hbl := hb.lt
  have hw1 : IntKind.i64.wrap ((n : Int) + m) = (n : Int) + m := IntWalk.i64_in _ (by omega)
  clear hx hy hA hB hb
  go_enter Tryd.func26, Tryd.ntmps26
  go_wp2
  go_loop [3, 11] (fun s i => (i = .int .i64 0 ∧ s = .int .i64 0) ∨ (i = .int .i64 1 ∧ s = .int .i64 n) ∨ (i = .int .i64 2 ∧ s = .int .i64 ((n : Int) + m))) (fun _ i => 2 - (intOf i).toNat)
  case atStart => exact .inl ⟨rfl, rfl⟩
  case round =>
    have hn0 : (0 : Int) ≤ n := by omega
    have hw2 : IntKind.i64.wrap (n : Int) = n := IntWalk.i64_in _ (by omega)
    rcases hrel with ⟨rfl, rfl⟩ | ⟨rfl, rfl⟩ | ⟨rfl, rfl⟩
    · go_wp2
      go_round
      case rel => exact .inr (.inl ⟨rfl, rfl⟩)
      case measure => simp [intOf]
    · have hnm : ((n : Int) + m < 0) = False := eq_false (by omega)
      go_wp2
      go_round
      case rel => exact .inr (.inr ⟨rfl, rfl⟩)
      case measure => simp [intOf]
    · go_wp2_with fail
      refine (bgrow_any (n + m) _ (by omega)).mono ?_
      rintro e w2 ⟨A2, c2', rfl, hO2, hB2⟩
      have HO2 : Hid (BOwns w2 w.heap.size 5 A2 0 c2' []) := Lib.hid ⟨hO2.1, (fun z hz => by cases hz), hO2.2⟩
      have HBK : Hid (∀ W, Below w.heap.size w W → Blk W g t #[.slice A n c, .slice B m d]) := Lib.hid fun W hb => HB.out.below hb hbl
      have HXX : Hid (∀ W, Below w.heap.size w W → BReads W A n xs) := Lib.hid fun W hb => HX.out.below hb
      have HYY : Hid (∀ W, Below w.heap.size w W → BReads W B m ys) := Lib.hid fun W hb => HY.out.below hb
      clear hO2 hw1 hw2 hn0 c0 c1
      go_wp2
      go_loopw [6, 27] (fun v i W => ∃ (A2 : Option Addr) (c2 : Nat), ((i = .int .i64 0 ∧ v = .slice A2 0 c2 ∧ BOwns W w.heap.size 5 A2 0 c2 []) ∨ (i = .int .i64 1 ∧ v = .slice A2 n c2 ∧ BOwns W w.heap.size 5 A2 n c2 xs) ∨ (i = .int .i64 2 ∧ v = .slice A2 (n + m) c2 ∧ BOwns W w.heap.size 5 A2 (n + m) c2 (xs ++ ys))) ∧ Below w.heap.size w W) (fun _ i _ => 2 - (intOf i).toNat)
      case atStart => exact ⟨A2, c2', .inl ⟨rfl, rfl, HO2.out⟩, hB2⟩
      case round =>
        obtain ⟨A3, c3, ⟨rfl, rfl, hO⟩ | ⟨rfl, rfl, hO⟩ | ⟨rfl, rfl, hO⟩, hB⟩ := hrel
        · have HO := Lib.hid hO
          have hz := hB.size
          have c0 := ((HBK.out _ hB).at_ 0).trans rfl
          clear hO
          go_wp2_with (at_builtin; (refine append_bytes _ rfl (.tmp 31) (.tmp 32) 35 rfl w.heap.size 5 Tryd.info5 Tryd.underlying35 A3 0 c3 [] rfl HO.out A n c xs rfl HA.out (HXX.out _ hB) (by omega) hz ?_); intro A4 c4 w4 ho4 hb4; rw [Nat.zero_add] at ho4 ⊢)
          go_roundw
          case rel => exact ⟨A4, c4, .inr (.inl ⟨rfl, rfl, ho4⟩), hB.trans hb4⟩
          case measure => simp [intOf]
        · have HO := Lib.hid hO
          have hz := hB.size
          have c1 := ((HBK.out _ hB).at_ 1).trans rfl
          clear hO
          go_wp2_with (at_builtin; (refine append_bytes _ rfl (.tmp 31) (.tmp 32) 35 rfl w.heap.size 5 Tryd.info5 Tryd.underlying35 A3 n c3 xs rfl HO.out B m d ys rfl HBB.out (HYY.out _ hB) (by omega) hz ?_); intro A4 c4 w4 ho4 hb4)
          go_roundw
          case rel => exact ⟨A4, c4, .inr (.inr ⟨rfl, rfl, ho4⟩), hB.trans hb4⟩
          case measure => simp [intOf]
        · go_wp2
          go_ret
          exact ⟨A3, c3, rfl, hO, hB⟩

def encPb (l : List Cd) : List Int := pb2 l.length ++ l.flatMap encC
def encP (l : List Cd) : List Int := encPb l ++ pb4 (psS (encPb l))
theorem encC_le {c : Cd} (h : cdOk c = true) : (encC c).length ≤ 200 := by
  have h1 := cdOk_trs h
  have h2 : efsOk c.efs = true := by unfold cdOk at h; simp only [Bool.and_eq_true] at h; exact h.1.2
  have h3 : c.nm.size ≤ 32 := by
    unfold cdOk at h
    simp only [Bool.and_eq_true] at h
    have h4 := h.1.1.1.1
    unfold namedS wnR at h4
    simp only [Bool.and_eq_true, decide_eq_true_eq] at h4
    omega
  have h5 : (c.trs.flatMap encT).length ≤ 44 := by
    obtain ⟨hl, he⟩ := h1
    match c.trs, hl, he with
    | [], _, _ => simp
    | [a], _, he =>
      have := encE_le (he a (by simp))
      simp [encT]; omega
    | [a, b], _, he =>
      have := encE_le (he a (by simp))
      have := encE_le (he b (by simp))
      simp [encT]; omega
  have h6 := encE_le h2
  unfold encC
  simp only [List.length_append, List.length_cons, List.length_nil, List.length_map, numsOf_len]
  omega
theorem XBO {w : World} {b b' : Nat} {e : TypeId} {A : Option Addr} {n c : Nat} {xs : List Int} (h : BOwns w b e A n c xs) (hb : b' ≤ b) : BOwns w b' e A n c xs := by
  have := XOwns.more (xs := bys xs) (size := 1) ⟨h.1, h.2.2⟩ hb
  exact ⟨this.1, h.2.1, this.2⟩
set_option maxRecDepth 100000 in
set_option maxHeartbeats 6400000 in
theorem penc_any (B p : Nat) (l : List Cd) (w : World) (h : PoolR w B p l) (hok : allOk l = true) (hn4 : l.length ≤ 400) : Calls Tryd.prog 8 #[.pointer (some ⟨p, 0, none⟩)] w fun e w' => ∃ A n k, e = .returned (.tuple #[.slice A n k, .int .i64 0]) ∧ BOwns w' w.heap.size 5 A n k (encP l) ∧ Below w.heap.size w w' := by
  have HZ := Lib.hid (pzero_any B p l w h)
  obtain ⟨s, ms, g, hk, ho⟩ := h.ex
  have HX := Lib.hid ho.isR
  have HOK := Lib.hid hok
  obtain ⟨n, hn⟩ : ∃ x, l.length = x := ⟨_, rfl⟩
  have HN := Lib.hid hn
  rw [hn] at hk
  obtain ⟨sA, sc⟩ := s
  simp only [Sl.v] at hk
  have HKP := Lib.hid hk
  have c0 : w.cell? ⟨p, 0, none⟩ = some (.slice sA n sc) := (hk.at_ 0).trans rfl
  have hn9 : n ≤ 400 := by omega
  have H4 := Lib.hid hn9
  have hnu : ((n : Int)) % 4294967296 = n := by omega
  have HP2 := Lib.hid (fun W => pput2 (n : Int) (by omega) (by omega) W)
  clear hk ho h hok hn hn4
  go_enter Tryd.func8, Tryd.ntmps8
  go_wp2_with fail
  refine HZ.out.mono ?_
  rintro e w1 ⟨rfl, rfl⟩
  go_wp2_with fail
  refine (HP2.out _).mono ?_
  rintro e w2 ⟨A2, k2, rfl, ho2, hb2⟩
  have HO2 := Lib.hid ho2
  have HB2 := Lib.hid hb2
  have c0' : w2.cell? ⟨p, 0, none⟩ = some (.slice sA n sc) := ((HKP.out.call hb2).at_ 0).trans rfl
  clear c0 ho2 hb2 hnu
  go_wp2_with fail
  clear c0'
  go_loopw [4, 23] (fun v i W => ∃ (k n2 : Nat) (A2 : Option Addr) (c2 : Nat), k ≤ n ∧ i = .int .i64 k ∧ v = .slice A2 n2 c2 ∧ Hid (n2 ≤ 2 + 200 * k) ∧ Hid (BOwns W w.heap.size 5 A2 n2 c2 (pb2 n ++ (l.take k).flatMap encC)) ∧ Hid (Below w.heap.size w W)) (fun _ i _ => n - (intOf i).toNat)
  case atStart => exact ⟨0, 2, A2, k2, Nat.zero_le _, rfl, rfl, Lib.hid (by omega), Lib.hid (by simpa using HO2.out), HB2⟩
  case round =>
    clear HO2 HB2
    obtain ⟨k, n2, A2, c2, hk, rfl, rfl, HN2, HO, HB⟩ := hrel
    by_cases hlt : k < n
    · have hlt' : (k : Int) < n := by omega
      obtain ⟨c, hc⟩ := get_of (l := l) (k := k) (by rw [HN.out]; exact hlt)
      obtain ⟨m, hm⟩ := get_of (l := ms) (k := k) (by rw [HX.out.len, HN.out]; exact hlt)
      obtain ⟨ad, e9, hld⟩ := (HX.out.below HB.out).load hc hm
      simp only at e9
      subst e9
      have HCK : Hid (cdOk c = true) := Lib.hid (List.all_eq_true.1 HOK.out c (List.mem_of_getElem? hc))
      have HSN := Lib.hid (flat_snoc (f := encC) hc)
      have HLD := Lib.hid hld
      obtain ⟨W8, hst, hB8, hg8⟩ := (Blk.mk_ wr 74 zcd _ rfl).storeAll (ty := 74) (c.cells m) rfl (by rw [size_card]; rfl) (one_cd _ _)
      have hb8 : Below wr.heap.size wr W8 := ((Below.refl _ _).alloc (Nat.le_refl _) _).grown hg8 (by simp) (fun q hq => by injection hq with hq; omega)
      have HB8 := Lib.hid (below_call HB.out hb8 HB.out.size)
      have HO8 := Lib.hid (HO.out.below hb8)
      have hld2 : (Instr.loadAt 74 (.pointer (some ⟨wr.heap.size, 0, none⟩))).run Tryd.prog W8 = .ok (.agg (c.cells m).toArray) W8 := hB8.mid (o := 0) (ty := 74) (c.cells m) _ (fun j v hj => by rw [Nat.zero_add]; simpa using hj) Tryd.underlying74 rfl (by rw [size_card]; rfl)
      have HLD2 := Lib.hid hld2
      have HST := Lib.hid hst
      have HV := Lib.hid (cenc_any c m W8 ((HX.out.below HB8.out).cd k c m hc hm) HCK.out (cdOk_nm HCK.out))
      unfold zcd at HST
      obtain ⟨cs, hcs⟩ : ∃ cs, (c.cells m).toArray = cs := ⟨_, rfl⟩
      rw [hcs] at HLD HST HLD2 HV
      clear hc hm hld hst hB8 hg8 hb8 hld2 hcs HO HB
      go_wp2_with (first | (refine wpList_load_by HLD.out rfl rfl rfl ?_; simp only [Act.put, List.setIfInBounds_toArray, List.set_cons_succ, List.set_cons_zero]) | (refine wpList_store_by HST.out rfl rfl rfl rfl ?_; simp only [Act.put, List.setIfInBounds_toArray, List.set_cons_succ, List.set_cons_zero]) | (refine wpList_load_by HLD2.out rfl rfl rfl ?_; simp only [Act.put, List.setIfInBounds_toArray, List.set_cons_succ, List.set_cons_zero]) | fail)
      refine HV.out.mono ?_
      rintro e w3 ⟨A3, n3, k3, rfl, ho3, hb3⟩
      have HO3 := Lib.hid ho3
      have HB3 := Lib.hid (below_call HB8.out hb3 HB8.out.size)
      have HO9 := Lib.hid (HO8.out.below hb3)
      have HL3 : Hid (n3 ≤ 200) := Lib.hid (by have := ho3.length; have := encC_le HCK.out; omega)
      have hk4 : (k : Int) < 400 := by have := H4.out; omega
      clear ho3 hb3
      go_wp2_with (first
        | (at_builtin; (refine append_bytes _ rfl (.tmp 35) (.tmp 36) 35 rfl w.heap.size 5 Tryd.info5 Tryd.underlying35 A2 n2 c2 _ rfl HO9.out A3 n3 k3 _ rfl HO3.out.2.2 HO3.out.reads (by have := HN2.out; have := HL3.out; omega) HB3.out.size ?_); intro A4 k4 w4 ho4 hb4)
        | fail)
      have HO4 : Hid (BOwns w4 w.heap.size 5 A4 (n2 + n3) k4 (pb2 n ++ (l.take (k + 1)).flatMap encC)) := Lib.hid (by rw [HSN.out, ← List.append_assoc]; exact ho4)
      have HB4 : Hid (Below w.heap.size w w4) := Lib.hid (HB3.out.trans hb4)
      clear ho4 hb4
      go_wp2
      go_roundw
      case rel => exact ⟨k + 1, n2 + n3, A4, k4, hlt, by go_num, rfl, Lib.hid (by have := HN2.out; have := HL3.out; omega), HO4, HB4⟩
      case measure => simp [intOf]; omega
    · obtain rfl : k = n := by omega
      have HE : Hid (BOwns wr w.heap.size 5 A2 n2 c2 (encPb l)) := Lib.hid (by
        have := HO.out
        rw [List.take_of_length_le (by rw [HN.out]; exact Nat.le_refl _)] at this
        unfold encPb
        rw [HN.out]
        exact this)
      have HS := Lib.hid (psum_any A2 n2 c2 (encPb l) wr HE.out.reads (by have := HN2.out; have := H4.out; omega))
      have HQ := Lib.hid (psS_bd (encPb l))
      have HP4 := Lib.hid (fun W => pput4 (psS (encPb l)) HQ.out.1 HQ.out.2 W)
      have HNN : Hid (n2 ≤ 80002) := Lib.hid (by have := HN2.out; have := H4.out; omega)
      clear hk
      go_wp2_with fail
      refine HS.out.mono ?_
      rintro e w5 ⟨rfl, rfl⟩
      go_wp2_with fail
      refine (HP4.out _).mono ?_
      rintro e w6 ⟨A6, k6, rfl, ho6, hb6⟩
      have HO6 := Lib.hid ho6
      obtain ⟨w7, hw7⟩ : ∃ z, w6.alloc (.cells #[.slice A2 n2 c2, .slice A6 4 k6] 35) = z := ⟨_, rfl⟩
      have hb7 : Below w6.heap.size w6 w7 := hw7 ▸ (Below.refl _ _).alloc (Nat.le_refl _) _
      have HC := Lib.hid (concat2_any w6.heap.size 35 A2 A6 n2 4 c2 k6 _ _ w7 (hw7 ▸ Blk.mk_ _ _ _ _ rfl) ((HE.out.below hb6).below hb7).reads (ho6.below hb7).reads HE.out.2.2 ho6.2.2 (by have := HNN.out; omega))
      have HB7 := Lib.hid (below_call (below_call HB.out hb6 HB.out.size) hb7 (below_call HB.out hb6 HB.out.size).size)
      clear ho6 hb6 hb7
      go_wp2_with fail
      refine HC.out.mono ?_
      rintro e w8 ⟨A8, k8, rfl, ho8, hb8⟩
      have HO8 : Hid (BOwns w8 w.heap.size 5 A8 (n2 + 4) k8 (encP l)) := Lib.hid (XBO ho8 HB7.out.size)
      have HB8 := Lib.hid (below_call HB7.out hb8 HB7.out.size)
      clear ho8 hb8
      go_wp2_with fail
      (first | go_ret | go_ret2)
      exact ⟨A8, n2 + 4, k8, rfl, HO8.out, HB8.out⟩

theorem key1_any (n : Int) (w : World) : Calls Tryd.prog 19 #[.int .i64 n] w fun e w' => e = .returned (.bool (decide (n < 0))) ∧ w = w' := by
  go_enter Tryd.func19, Tryd.ntmps19
  go_wp2
  go_ret
  exact ⟨rfl, rfl⟩
def ngS (x : Int) : Bool := decide (x < 0)
set_option maxHeartbeats 1600000 in
theorem idx_neg (A : Option Addr) (len c : Nat) (l : List Int) (w : World) (h : Reads w 1 A len (ics l)) (h9 : len ≤ 100000) : Calls Tryd.prog 35 #[.slice A len c, .func (.func 19) #[] #[]] w fun e w' => ∃ i : Int, e = .returned (.int .i64 i) ∧ decide (i ≥ 0) = l.any ngS ∧ w = w' := by
  have HL : Hid (l.length = len) := Lib.hid (by have := h.1; simpa [ics] using this)
  have HX := Lib.hid h
  clear h
  go_enter Tryd.func35, Tryd.ntmps35
  go_wp2
  go_loopw [8] (fun i W => ∃ k : Nat, k ≤ len ∧ i = .int .i64 k ∧ Hid (∀ j y, j < k → l[j]? = some y → ngS y = false) ∧ w = W) (fun i _ => len - (intOf i).toNat)
  case atStart => exact ⟨0, Nat.zero_le _, rfl, Lib.hid (fun q y h => absurd h (by omega)), rfl⟩
  case round =>
    obtain ⟨k, hk, rfl, HE, rfl⟩ := hrel
    by_cases hlt : k < len
    · have hlt' : (k : Int) < len := by omega
      obtain ⟨e, he⟩ := get_of (l := l) (k := k) (by rw [HL.out]; exact hlt)
      have HG := Lib.hid he
      obtain ⟨ad, u, rfl, -, hu, c0⟩ := HX.out.at_ hlt
      rw [show (ics l)[k]? = some (.int .i64 e) by simp [ics, he]] at hu
      injection hu with hu
      subst hu
      have HQ := Lib.hid (key1_any e w)
      obtain ⟨d, hd⟩ : ∃ d, decide (e < 0) = d := ⟨_, rfl⟩
      rw [hd] at HQ
      have HD : Hid (ngS e = d) := Lib.hid hd
      clear hd he
      cases d with
      | true =>
        go_wp2_with fail
        refine HQ.out.mono ?_
        rintro e' w1 ⟨rfl, rfl⟩
        clear c0
        go_wp2
        go_ret
        exact ⟨k, rfl, by rw [show l.any ngS = true from List.any_eq_true.2 ⟨_, List.mem_of_getElem? HG.out, HD.out⟩]; simp, rfl⟩
      | false =>
        have HEE : Hid (∀ j y, j < k + 1 → l[j]? = some y → ngS y = false) := Lib.hid (fun j z hq hg => by
          rcases Nat.lt_or_ge j k with h | h
          · exact HE.out j z h hg
          · obtain rfl : j = k := by omega
            rw [HG.out] at hg
            rw [← Option.some.inj hg]
            exact HD.out)
        go_wp2_with fail
        refine HQ.out.mono ?_
        rintro e' w1 ⟨rfl, rfl⟩
        clear c0
        go_wp2
        go_roundw
        case rel => exact ⟨k + 1, hlt, by go_num, HEE, by first | trivial | rfl⟩
        case measure => simp [intOf]; omega
    · obtain rfl : k = len := by omega
      have HA : Hid (l.any ngS = false) := Lib.hid (by
        rw [List.any_eq_false]
        intro x hx
        obtain ⟨q, hq, rfl⟩ := List.getElem_of_mem hx
        rw [HE.out q _ (by rw [← HL.out]; exact hq) (List.getElem?_eq_getElem hq)]
        decide)
      go_wp2
      go_ret
      exact ⟨-1, rfl, by rw [HA.out]; rfl, rfl⟩
theorem any_neg (A : Option Addr) (len c : Nat) (l : List Int) (w : World) (h : Reads w 1 A len (ics l)) (h9 : len ≤ 100000) : Calls Tryd.prog 18 #[.slice A len c, .func (.func 19) #[] #[]] w fun e w' => e = .returned (.bool (l.any ngS)) ∧ w = w' := by
  have HC := Lib.hid (idx_neg A len c l w h h9)
  obtain ⟨d, hd⟩ : ∃ d, l.any ngS = d := ⟨_, rfl⟩
  rw [hd] at HC ⊢
  clear hd h
  go_enter Tryd.func18, Tryd.ntmps18
  go_wp2_with fail
  refine HC.out.mono ?_
  rintro e w1 ⟨i, rfl, hib, rfl⟩
  go_wp2
  go_ret
  exact ⟨rfl, rfl⟩

set_option maxHeartbeats 1600000 in
theorem number_any (n : Nat) : ∀ (h : n < 18446744073709551616) (w : World), Calls Tryd.prog 6 #[.int .u64 n] w fun e w' => ∃ A k c, e = .returned (.slice A k c) ∧ BOwns w' w.heap.size 5 A k c (numS n) ∧ Below w.heap.size w w' := by
  induction n using Nat.strongRecOn with
  | ind n ih =>
    intro h w
    by_cases h1 : n < 128
    · have h1' : (n : Int) < 128 := by omega
      have hm : (n : Int) % 256 = n := by omega
      have HL : Hid (BOwns (w.alloc (.cells #[.int .u8 (n : Int)] 5)) w.heap.size 5 (some ⟨w.heap.size, 0, none⟩) 1 1 (numS n)) := Lib.hid (by rw [numS_lt h1]; exact BOwns.lit w w.heap.size 5 [(n : Int)] w.heap.size 1 (fun x hx => by rw [List.mem_singleton] at hx; omega) rfl rfl (Nat.le_refl _) (by decide))
      have HB : Hid (Below w.heap.size w (w.alloc (.cells #[.int .u8 (n : Int)] 5))) := Lib.hid ((Below.refl _ _).alloc (Nat.le_refl _) _)
      clear ih
      go_enter Tryd.func6, Tryd.ntmps6
      go_wp2
      go_ret
      exact ⟨_, _, _, rfl, HL.out, HB.out⟩
    · have h1' : ¬ (n : Int) < 128 := by omega
      have HO1 : Hid (BOwns (w.alloc (.cells #[.int .u8 (128 + (n : Int) % 128)] 5)) w.heap.size 5 (some ⟨w.heap.size, 0, none⟩) 1 1 [128 + (n : Int) % 128]) := Lib.hid (BOwns.lit w w.heap.size 5 [128 + (n : Int) % 128] w.heap.size 1 (fun x hx => by rw [List.mem_singleton] at hx; omega) rfl rfl (Nat.le_refl _) (by decide))
      have HB1 : Hid (Below w.heap.size w (w.alloc (.cells #[.int .u8 (128 + (n : Int) % 128)] 5))) := Lib.hid ((Below.refl _ _).alloc (Nat.le_refl _) _)
      have HR := Lib.hid (ih (n / 128) (by omega) (by omega) (w.alloc (.cells #[.int .u8 (128 + (n : Int) % 128)] 5)))
      have HLN : Hid ((numS (n / 128)).length ≤ 10) := Lib.hid (numS_len10 (by omega))
      have HG : Hid (numS n = (128 + (n : Int) % 128) :: numS (n / 128)) := Lib.hid (by rw [numS_ge (by omega)]; congr 1; omega)
      clear ih
      go_enter Tryd.func6, Tryd.ntmps6
      go_wp2_with fail
      rw [show (n : Int) / 128 = ((n / 128 : Nat) : Int) by omega]
      refine HR.out.mono ?_
      rintro e w2 ⟨A2, k2, c2, rfl, ho2, hb2⟩
      have HO2 := Lib.hid ho2
      have HO1' := Lib.hid (HO1.out.below hb2)
      have HB2 := Lib.hid (below_call HB1.out hb2 HB1.out.size)
      have HK2 : Hid (k2 ≤ 10) := Lib.hid (by have := ho2.length; have := HLN.out; omega)
      clear ho2 hb2
      go_wp2_with (first
        | (at_builtin; (refine append_bytes _ rfl (.tmp 12) (.tmp 15) 35 rfl w.heap.size 5 Tryd.info5 Tryd.underlying35 (some ⟨w.heap.size, 0, none⟩) 1 1 _ rfl HO1'.out A2 k2 c2 _ rfl HO2.out.2.2 HO2.out.reads (by have := HK2.out; omega) HB2.out.size ?_); intro A4 k4 w4 ho4 hb4)
        | fail)
      go_ret
      exact ⟨_, _, _, rfl, by rw [HG.out]; exact ho4, HB2.out.trans hb4⟩
end Go.Proofs.YtpbbemmjodegkaaDoor
