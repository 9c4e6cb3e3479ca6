/-
  Texts: Lwa, Vob.
-/
import Derived.Test.YtagpphelgghbpaaGreatAk33
import Derived.Test.YtagpphelgghbpaaGreatAk35
import Derived.Test.YtagpphelgghbpaaGreatAk25
set_option linter.unusedSimpArgs false
set_option linter.unusedVariables false
namespace Go.Proofs.YtagpphelgghbpaaGreat
open Go.RowKit

theorem lplayer_any (p : Int) (w : World) : Calls Tryz.prog 10 #[.int .i64 p] w fun e w' => e = .returned (.bool (decide (p = 0 ∨ p = 1))) ∧ w = w' := by
  by_cases h0 : p = 0
  · subst h0
    go_enter Tryz.func10, Tryz.ntmps10
    go_wp2
    go_ret
    exact ⟨rfl, rfl⟩
  · have e0 : (p == 0) = false := by simpa using h0
    by_cases h1 : p = 1
    · subst h1
      go_enter Tryz.func10, Tryz.ntmps10
      go_wp2
      go_ret
      exact ⟨rfl, rfl⟩
    · have e1 : (p == 1) = false := by simpa using h1
      have HD : Hid (decide (p = 0 ∨ p = 1) = false) := Lib.hid (by simp [h0, h1])
      clear h0 h1
      go_enter Tryz.func10, Tryz.ntmps10
      go_wp2
      go_ret
      exact ⟨by rw [HD.out]; rfl, rfl⟩
theorem player2 (w : World) : Calls Tryz.prog 56 #[.int .i64 2] w fun e w' => e = .returned (.bool false) ∧ w = w' := by
  go_enter Tryz.func56, Tryz.ntmps56
  go_wp2
  go_ret
  exact ⟨rfl, rfl⟩
theorem hidden2 (cs : Array Value) (w : World) : Calls Tryz.prog 23 #[.agg cs, .int .i64 2] w fun e w' => e = .returned (.tuple #[.slice none 0 0, .int .i64 2]) ∧ Below w.heap.size w w' := by
  have HB : Hid (Below w.heap.size w (w.alloc (.cells cs 33))) := Lib.hid ((Below.refl _ _).alloc (Nat.le_refl _) _)
  go_enter Tryz.func23, Tryz.ntmps23
  go_wp2_with (first
    | (go_at_call 56; refine (player2 _).mono ?_; rintro e w_ ⟨rfl, rfl⟩)
    | fail)
  go_ret2
  exact ⟨rfl, HB.out⟩
set_option maxRecDepth 100000 in
set_option maxHeartbeats 1600000 in
theorem mix2 (cs : Array Value) (hcs : cs.size = 38) (U : Value) (w : World) : Calls Tryz.prog 9 #[.agg cs, .int .i64 2, U] w fun e w' => e = .returned (.tuple #[.agg zbd, .int .i64 2]) ∧ Below w.heap.size w w' := by
  have hsz : cs.toList.length = 38 := by simpa using hcs
  obtain ⟨w2, hw2⟩ : ∃ w2, (w.alloc (.cells cs 33)).alloc (.cells zbd 33) = w2 := ⟨_, rfl⟩
  have HB2 : Hid (Below w.heap.size w w2) := Lib.hid (by rw [← hw2]; exact ((Below.refl _ _).alloc (Nat.le_refl _) _).alloc (by simp) _)
  have HBX2 : Hid (Blk w2 w.heap.size 33 cs) := Lib.hid (by rw [← hw2]; exact (Blk.mk_ w _ _ _ rfl).alloc _)
  have HRS2 : Hid (Blk w2 (w.heap.size + 1) 33 zbd) := Lib.hid (by rw [← hw2]; exact Blk.mk_ _ _ _ _ (by simp))
  have HL2 : Hid ((Instr.loadAt 33 (.pointer (some ⟨w.heap.size, 0, none⟩))).run Tryz.prog w2 = .ok (.agg cs) w2) := Lib.hid (by
    have := HBX2.out.mid (o := 0) (ty := 33) cs.toList _ (fun j v hj => by rw [Nat.zero_add]; simpa using hj) Tryz.underlying33 rfl (by rw [hsz]; exact size_board)
    rwa [Array.toArray_toList] at this)
  unfold zbd at hw2
  clear hcs hsz
  go_enter Tryz.func9, Tryz.ntmps9
  go_wp2_with (first
    | (refine wpList_load_by HL2.out rfl rfl rfl ?_; simp only [Act.put, List.setIfInBounds_toArray, List.set_cons_succ, List.set_cons_zero])
    | (go_at_call 23; refine (hidden2 cs w2).mono ?_; rintro e w3 ⟨rfl, hb3⟩; obtain ⟨w6, hst, hk6, hg6⟩ := (HRS2.out.call hb3).storeAll (ty := 33) zbd.toList (by rw [zbd_len]; rfl) (by rw [size_board, zbd_len]) one_zbd; rw [Array.toArray_toList] at hst hk6; have HST := Lib.hid hst; have HK6 := Lib.hid hk6; have HB6 := Lib.hid ((below_call HB2.out hb3 HB2.out.size).grown hg6 (Nat.le_trans HB2.out.size hb3.size) (fun q hq => by injection hq with hq; omega)); clear hb3 hst hk6 hg6)
    | (refine wpList_op_by rfl (run_of_build (parts := #[]) (parts' := #[]) rfl rfl built_zbd) ?_; simp only [Act.put, List.setIfInBounds_toArray, List.set_cons_succ, List.set_cons_zero])
    | (refine wpList_store_by HST.out rfl rfl rfl rfl ?_; simp only [Act.put, List.setIfInBounds_toArray, List.set_cons_succ, List.set_cons_zero])
    | fail)
  refine bodyPost_ret (v := .tuple #[.agg zbd, .int .i64 2]) (ret_cell2 (fn := Tryz.f9) (p := 6) (q := 7) rfl rfl HK6.out Tryz.underlying33 rfl (by rw [size_board]; rfl)) rfl ?_
  exact ⟨rfl, HB6.out⟩
def zB : Bd := ⟨[], ⟨0, 0, 0, 0, 0, [], [], [], [], false, false, false, 0, 0⟩, ⟨0, 0, 0, 0, 0, [], [], [], [], false, false, false, 0, 0⟩, [], [], [], [], 0, 0, 0, 0, 0⟩
def zM : BdM := ⟨⟨none, 0⟩, ⟨⟨none, 0⟩, ⟨none, 0⟩, ⟨none, 0⟩, ⟨none, 0⟩⟩, ⟨⟨none, 0⟩, ⟨none, 0⟩, ⟨none, 0⟩, ⟨none, 0⟩⟩, ⟨none, 0⟩, ⟨none, 0⟩, [], [], ⟨none, 0⟩, ⟨none, 0⟩⟩
theorem zbd_eq : zbd = (zB.cells zM).toArray := rfl
set_option maxRecDepth 100000 in
set_option maxHeartbeats 1600000 in
theorem cards_any (b : Bd) (m : BdM) (w : World) (hO : Reads w 12 m.O.A b.objs.length (ocs b.objs)) (hn : b.objs.length ≤ 500) : Calls Tryz.prog 51 #[.agg (b.cells m).toArray] w fun e w' => ∃ A c, e = .returned (.slice A b.objs.length c) ∧ XOwns w' w.heap.size 3 1 A b.objs.length c (ics (b.objs.map Ob.card)) ∧ Below w.heap.size w w' := by
  obtain ⟨cs, hcs⟩ : ∃ cs, (b.cells m).toArray = cs := ⟨_, rfl⟩
  obtain ⟨⟨OA, Oc⟩, hmO⟩ : ∃ x, m.O = x := ⟨_, rfl⟩
  obtain ⟨l, hl⟩ : ∃ x, b.objs = x := ⟨_, rfl⟩
  obtain ⟨no, hno⟩ : ∃ x, l.length = x := ⟨_, rfl⟩
  have hc0 : cs[0]? = some (.slice OA no Oc) := by rw [← hcs]; show some (m.O.v b.objs.length) = _; rw [hmO, hl, hno]; rfl
  rw [hmO, hl, hno] at hO
  rw [hl, hno] at hn
  obtain ⟨w1, hw1⟩ : ∃ x, w.alloc (.cells cs 33) = x := ⟨_, rfl⟩
  have hb1 : Below w.heap.size w w1 := by rw [← hw1]; exact (Below.refl _ _).alloc (Nat.le_refl _) _
  have HP1 : Hid (Blk w1 w.heap.size 33 cs) := Lib.hid (by rw [← hw1]; exact Blk.mk_ _ _ _ _ rfl)
  have HO := Lib.hid hO
  have HNO := Lib.hid hno
  have HC0 := Lib.hid hc0
  have HF0 : Hid (XOwns w1 w1.heap.size 3 1 none 0 0 (ics ((l.take 0).map Ob.card)) ∧ Below w.heap.size w w1 ∧ w1.heap.size ≤ w1.heap.size ∧ Blk w1 w.heap.size 33 cs) := Lib.hid ⟨XOwns.nil_ _ _ _ _, hb1, Nat.le_refl _, HP1.out⟩
  have HZ1 := Lib.hid hb1.size
  have HLT := Lib.hid HP1.out.lt
  rw [hcs, hl, hno]
  clear hcs hmO hl hno hc0 hO hb1 HP1
  go_enter Tryz.func51, Tryz.ntmps51
  go_wp2_with fail
  clear hw1
  go_loopw [3, 4] (fun o iv W => ∃ (k : Nat) (A : Option Addr) (c : Nat), o = .slice A k c ∧ iv = .int .i64 k ∧ k ≤ no ∧ Hid (XOwns W w1.heap.size 3 1 A k c (ics ((l.take k).map Ob.card)) ∧ Below w.heap.size w W ∧ w1.heap.size ≤ W.heap.size ∧ Blk W w.heap.size 33 cs)) (fun _ iv _ => no - (intOf iv).toNat)
  case atStart => exact ⟨0, none, 0, rfl, rfl, Nat.zero_le _, HF0⟩
  case round =>
    obtain ⟨k, A, c, rfl, rfl, hk, HI⟩ := hrel
    clear HF0
    have c0 : wr.cell? ⟨w.heap.size, 0, none⟩ = some (.slice OA no Oc) := (HI.out.2.2.2.at_ 0).trans HC0.out
    by_cases hkn : k < no
    · have hkn' : (k : Int) < no := by omega
      obtain ⟨o, ho⟩ := get_of (l := l) (k := k) (by rw [HNO.out]; exact hkn)
      obtain ⟨ad, rfl, hadl, -, c1, -⟩ := obj_at (HO.out.below HI.out.2.1) ho hkn
      have HSP := Lib.hid (show (l.take (k + 1)).map Ob.card = (l.take k).map Ob.card ++ [o.card] by rw [take_snoc ho, List.map_append]; rfl)
      obtain ⟨w7, hw7⟩ : ∃ x, wr.alloc (.cells #[.int .i64 o.card] 3) = x := ⟨_, rfl⟩
      have hb7 : Below wr.heap.size wr w7 := by rw [← hw7]; exact (Below.refl _ _).alloc (Nat.le_refl _) _
      have HK7 : Hid (Blk w7 wr.heap.size 3 #[.int .i64 o.card]) := Lib.hid (by rw [← hw7]; exact Blk.mk_ _ _ _ _ rfl)
      have HX7 := Lib.hid (HI.out.1.below hb7)
      have HB7 := Lib.hid (below_call HI.out.2.1 hb7 HI.out.2.1.size)
      have HZ7 := Lib.hid (Nat.le_trans HI.out.2.2.1 hb7.size)
      have HP7 := Lib.hid (HI.out.2.2.2.call hb7)
      clear ho hadl hb7 HI
      go_wp2_with (at_builtin; refine append_xr (w := w7) rfl (.tmp 12) (.tmp 19) 25 rfl w1.heap.size 3 _ 1 8 tinfo_ints Tryz.underlying25 rfl (by decide) A k c (ics ((l.take k).map Ob.card)) rfl HX7.out (some ⟨wr.heap.size, 0, none⟩) 1 1 (ics [o.card]) rfl (fun h => by cases h) (reads_block HK7.out 1 1 rfl) (ics_one _) (by omega) (by omega) HZ7.out ?_; intro A8 c8 w8 ho8 hb8)
      have HF8 : Hid (XOwns w8 w1.heap.size 3 1 A8 (k + 1) c8 (ics ((l.take (k + 1)).map Ob.card)) ∧ Below w.heap.size w w8 ∧ w1.heap.size ≤ w8.heap.size ∧ Blk w8 w.heap.size 33 cs) := Lib.hid ⟨by rw [HSP.out, show ics ((l.take k).map Ob.card ++ [o.card]) = ics ((l.take k).map Ob.card) ++ ics [o.card] by simp [ics]]; exact ho8, HB7.out.trans (hb8.mono HZ1.out), Nat.le_trans HZ7.out hb8.size, HP7.out.below hb8 HLT.out⟩
      clear ho8 hb8 hw7
      go_wp2_with fail
      go_roundw
      case rel => exact ⟨k + 1, A8, c8, rfl, by go_num, by omega, HF8⟩
      case measure => simp [intOf]; omega
    · have HKE : Hid (k = no) := Lib.hid (by omega)
      clear hk
      go_wp2_with fail
      go_ret
      refine ⟨A, c, by rw [← HKE.out]; rfl, ?_, HI.out.2.1⟩
      have h := HI.out.1
      rw [List.take_of_length_le (by rw [HNO.out, HKE.out]; exact Nat.le_refl _), HKE.out] at h
      exact h.more HZ1.out
set_option maxRecDepth 100000 in
set_option maxHeartbeats 1600000 in
theorem mixes_any (cs : Array Value) (p : Int) (U : Value) (no wn : Int) (WA : Option Addr) (nw Wc : Nat) (want : List Int) (w : World) (b' : Bd) (hn5 : b'.objs.length ≤ 500) (hW : Reads w 1 WA nw (ics want))
    (hM : ∀ W, Below w.heap.size w W → Calls Tryz.prog 9 #[.agg cs, .int .i64 p, U] W fun e w' => ∃ m', e = .returned (.tuple #[.agg (b'.cells m').toArray, .int .i64 no]) ∧ Reads w' 12 m'.O.A b'.objs.length (ocs b'.objs) ∧ Below W.heap.size W w') (hsz : cs.size = 38) :
    Calls Tryz.prog 20 #[.agg cs, .int .i64 p, U, .int .i64 wn, .slice WA nw Wc] w fun e w' => e = .returned (.bool (decide (b'.objs.map Ob.card = want) && (no == wn))) ∧ Below w.heap.size w w' := by
  have hsz' : cs.toList.length = 38 := by simpa using hsz
  obtain ⟨w1, hw1⟩ : ∃ x, w.alloc (.cells cs 33) = x := ⟨_, rfl⟩
  have hb1 : Below w.heap.size w w1 := by rw [← hw1]; exact (Below.refl _ _).alloc (Nat.le_refl _) _
  have HK1 : Hid (Blk w1 w.heap.size 33 cs) := Lib.hid (by rw [← hw1]; exact Blk.mk_ _ _ _ _ rfl)
  have HL1 : Hid ((Instr.loadAt 33 (.pointer (some ⟨w.heap.size, 0, none⟩))).run Tryz.prog w1 = .ok (.agg cs) w1) := Lib.hid (by
    have := HK1.out.mid (o := 0) (ty := 33) cs.toList _ (fun j v hj => by rw [Nat.zero_add]; simpa using hj) Tryz.underlying33 rfl (by rw [hsz']; exact size_board)
    rwa [Array.toArray_toList] at this)
  have HM := Lib.hid (hM w1 hb1)
  have HB1 := Lib.hid hb1
  have HW := Lib.hid hW
  have HN5 := Lib.hid hn5
  obtain ⟨ee, hee⟩ : ∃ x, (no == wn) = x := ⟨_, rfl⟩
  rw [hee]
  clear hM hW hsz hsz' hb1 hn5
  go_enter Tryz.func20, Tryz.ntmps20
  go_wp2_with (first
    | (refine wpList_load_by HL1.out rfl rfl rfl ?_; simp only [Act.put, List.setIfInBounds_toArray, List.set_cons_succ, List.set_cons_zero])
    | fail)
  refine HM.out.mono ?_
  rintro e w2 ⟨m', rfl, hO2, hb2⟩
  obtain ⟨g, hg⟩ : ∃ x, w2.heap.size = x := ⟨_, rfl⟩
  obtain ⟨zb, hzb⟩ : ∃ x, zbd = x := ⟨_, rfl⟩
  have hzl : zb.size = 38 := by rw [← hzb]; rfl
  have hlen : (b'.cells m').length = 38 := rfl
  have hone := one_bd b' m'
  obtain ⟨BC, hBC⟩ : ∃ x, b'.cells m' = x := ⟨_, rfl⟩
  rw [hBC] at hlen hone ⊢
  obtain ⟨w3, hst3, hk3, hg3⟩ := (Blk.mk_ w2 33 zb g hg).storeAll (ty := 33) BC (by rw [hlen, hzl]) (by rw [size_board, hlen]) hone
  have hb23 : Below w2.heap.size w2 w3 := ((Below.refl _ _).alloc (Nat.le_refl _) _).grown hg3 (by simp) (fun q hq => by injection hq with hq; omega)
  have HB3 := Lib.hid (below_call (below_call HB1.out hb2 HB1.out.size) hb23 (below_call HB1.out hb2 HB1.out.size).size)
  rw [← hzb] at hst3
  unfold zbd at hst3
  have HST := Lib.hid hst3
  have HL3 : Hid ((Instr.loadAt 33 (.pointer (some ⟨g, 0, none⟩))).run Tryz.prog w3 = .ok (.agg BC.toArray) w3) := Lib.hid (hk3.mid BC _ (fun j v hj => by rw [Nat.zero_add]; simpa using hj) Tryz.underlying33 rfl (by rw [size_board, hlen]))
  have HCA : Hid (Calls Tryz.prog 51 #[.agg BC.toArray] w3 fun e w' => ∃ A c, e = .returned (.slice A b'.objs.length c) ∧ XOwns w' w3.heap.size 3 1 A b'.objs.length c (ics (b'.objs.map Ob.card)) ∧ Below w3.heap.size w3 w') := Lib.hid (by rw [← hBC]; exact cards_any b' m' w3 (hO2.below hb23) HN5.out)
  clear hO2 hb2 hzb hzl hlen hone hBC hst3 hk3 hg3 hb23 hw1
  go_wp2_with (first
    | (refine wpList_store_by HST.out rfl rfl rfl rfl ?_; simp only [Act.put, List.setIfInBounds_toArray, List.set_cons_succ, List.set_cons_zero])
    | (refine wpList_load_by HL3.out rfl rfl rfl ?_; simp only [Act.put, List.setIfInBounds_toArray, List.set_cons_succ, List.set_cons_zero])
    | fail)
  refine HCA.out.mono ?_
  rintro e w4 ⟨CA, Cc, rfl, hx4, hb4⟩
  have HB4 := Lib.hid (below_call HB3.out hb4 HB3.out.size)
  have HRI := Lib.hid (rints_any CA WA b'.objs.length Cc nw Wc (b'.objs.map Ob.card) want w4 hx4.reads (HW.out.below HB4.out) (Nat.le_trans HN5.out (by decide)))
  clear hx4 hb4 hg
  go_wp2_with fail
  refine HRI.out.mono ?_
  rintro e w5 ⟨rfl, hb5⟩
  have HB5 := Lib.hid (below_call HB4.out hb5 HB4.out.size)
  clear hb5
  cases hd : decide (b'.objs.map Ob.card = want) with
  | true =>
    have HD := Lib.hid hd
    clear hd
    go_wp2_with fail
    go_ret
    exact ⟨by (rw [HD.out]; cases ee <;> rfl), HB5.out⟩
  | false =>
    have HD := Lib.hid hd
    clear hd
    go_wp2_with fail
    go_ret
    exact ⟨by (rw [HD.out]; rfl), HB5.out⟩
set_option maxRecDepth 100000 in
set_option maxHeartbeats 1600000 in
theorem lalike_any (a b : Bd) (ma mb : BdM) (w : World) (k : Nat) (hk : k < 2) (hRa : BdR w a ma) (hRb : BdR w b mb) (hza : a.plc.length < 9223372036854775807) (hzb : b.plc.length < 9223372036854775807) (hva : a.Valid) (hvb : b.Valid) (want : Bool) :
    Calls Tryz.prog 14 #[.agg (a.cells ma).toArray, .agg (b.cells mb).toArray, .int .i64 k, .bool want, .int .i64 0] w fun e w' => e = .returned (.bool (decide (flatB a k = flatB b k) == want)) ∧ Below w.heap.size w w' := by
  obtain ⟨ca, hca⟩ : ∃ x, (a.cells ma).toArray = x := ⟨_, rfl⟩
  obtain ⟨cb, hcb⟩ : ∃ x, (b.cells mb).toArray = x := ⟨_, rfl⟩
  have hsa : ca.toList.length = 38 := by rw [← hca]; rfl
  have hsb : cb.toList.length = 38 := by rw [← hcb]; rfl
  obtain ⟨w2, hw2⟩ : ∃ x, (w.alloc (.cells ca 33)).alloc (.cells cb 33) = x := ⟨_, rfl⟩
  have HB2 : Hid (Below w.heap.size w w2) := Lib.hid (by rw [← hw2]; exact ((Below.refl _ _).alloc (Nat.le_refl _) _).alloc (by simp) _)
  have HKA2 : Hid (Blk w2 w.heap.size 33 ca) := Lib.hid (by rw [← hw2]; exact (Blk.mk_ w _ _ _ rfl).alloc _)
  have HKB2 : Hid (Blk w2 (w.heap.size + 1) 33 cb) := Lib.hid (by rw [← hw2]; exact Blk.mk_ _ _ _ _ (by simp))
  have HLD : Hid (∀ (W : World) (g : Nat) (c : Array Value), c.toList.length = 38 → Blk W g 33 c → (Instr.loadAt 33 (.pointer (some ⟨g, 0, none⟩))).run Tryz.prog W = .ok (.agg c) W) := Lib.hid (fun W g c hc hW => by
    have := hW.mid (o := 0) (ty := 33) c.toList _ (fun j v hj => by rw [Nat.zero_add]; simpa using hj) Tryz.underlying33 rfl (by rw [hc]; exact size_board)
    rwa [Array.toArray_toList] at this)
  have HLA := Lib.hid (HLD.out w2 _ ca hsa HKA2.out)
  have HLB := Lib.hid (HLD.out w2 _ cb hsb HKB2.out)
  have HS : Hid (Calls Tryz.prog 39 #[.agg ca, .agg cb, .int .i64 k] w2 (AlkEnd a b k w2)) := Lib.hid (by rw [← hca, ← hcb]; exact salike_any a b ma mb w2 k hk (hRa.below HB2.out) (hRb.below HB2.out) hza hzb hva hvb)
  obtain ⟨d, hd⟩ : ∃ x, decide (flatB a k = flatB b k) = x := ⟨_, rfl⟩
  unfold AlkEnd at HS
  rw [hd] at HS ⊢
  rw [hca, hcb]
  clear hRa hRb hza hzb hva hvb hca hcb hsa hsb hd
  go_enter Tryz.func14, Tryz.ntmps14
  go_wp2_with (first
    | (refine wpList_load_by HLA.out rfl rfl rfl ?_; simp only [Act.put, List.setIfInBounds_toArray, List.set_cons_succ, List.set_cons_zero])
    | (refine wpList_load_by HLB.out rfl rfl rfl ?_; simp only [Act.put, List.setIfInBounds_toArray, List.set_cons_succ, List.set_cons_zero])
    | fail)
  refine HS.out.mono ?_
  rintro e w3 ⟨rfl, hb3⟩
  have HB3 := Lib.hid (below_call HB2.out hb3 HB2.out.size)
  clear hb3 hw2
  cases hdw : (d == want) with
  | true =>
    have HD := Lib.hid hdw
    go_wp2_with fail
    go_ret
    exact ⟨by (rw [HD.out]; rfl), HB3.out⟩
  | false =>
    have HD := Lib.hid hdw
    go_wp2_with fail
    go_ret
    exact ⟨by (rw [HD.out]; rfl), HB3.out⟩

theorem player_no (p : Int) (h0 : ¬ p = 0) (h1 : ¬ p = 1) (w : World) : Calls Tryz.prog 56 #[.int .i64 p] w fun e w' => e = .returned (.bool false) ∧ w = w' := by
  have e0 : (p == 0) = false := by simpa using h0
  have e1 : (p == 1) = false := by simpa using h1
  clear h0 h1
  go_enter Tryz.func56, Tryz.ntmps56
  go_wp2
  go_ret
  exact ⟨rfl, rfl⟩
def VobEnd (er : Int) (w : World) (e : Ending) (w' : World) : Prop := ∃ VC : List Value, e = .returned (.tuple #[.agg VC.toArray, .int .i64 er]) ∧ VC.length = 43 ∧ (∀ u ∈ VC, u.oneCell' = true) ∧ Below w.heap.size w w'
theorem built_zvw : Tryz.prog.built 98 [] = some zvw := by kernel_rfl
theorem one_zvw : ∀ u ∈ zvw.toList, u.oneCell' = true := by decide
set_option maxRecDepth 100000 in
set_option maxHeartbeats 1600000 in
theorem vof_np (cs : Array Value) (p : Int) (h0 : ¬ p = 0) (h1 : ¬ p = 1) (w : World) : Calls Tryz.prog 72 #[.agg cs, .agg #[.int .i64 0, .int .i64 0, .slice none 0 0], .int .i64 p] w (VobEnd 2 w) := by
  have HP := Lib.hid (And.intro h0 h1)
  obtain ⟨w2, hw2⟩ : ∃ w2, ((w.alloc (.cells cs 33)).alloc (.cells #[.int .i64 0, .int .i64 0, .slice none 0 0] 92)).alloc (.cells zvw 98) = w2 := ⟨_, rfl⟩
  have HB2 : Hid (Below w.heap.size w w2) := Lib.hid (by rw [← hw2]; exact (((Below.refl _ _).alloc (Nat.le_refl _) _).alloc (by simp) _).alloc (by simp; omega) _)
  have HBX2 : Hid (Blk w2 w.heap.size 33 cs) := Lib.hid (by rw [← hw2]; exact ((Blk.mk_ w _ _ _ rfl).alloc _).alloc _)
  have HRS2 : Hid (Blk w2 (w.heap.size + 2) 98 zvw) := Lib.hid (by rw [← hw2]; exact Blk.mk_ _ _ _ _ (by simp))
  obtain ⟨w6, hst, hk6, hg6⟩ := (HRS2.out).storeAll (ty := 98) zvw.toList rfl (by rw [size_view]; rfl) one_zvw
  rw [Array.toArray_toList] at hst hk6
  have HST := Lib.hid hst
  have HK6 := Lib.hid hk6
  have HB6 := Lib.hid ((HB2.out).grown hg6 (HB2.out).size (fun q hq => by injection hq with hq; omega))
  clear hst hk6 hg6
  unfold zvw at hw2
  clear h0 h1
  go_enter Tryz.func72, Tryz.ntmps72
  go_wp2_with (first
    | (go_at_call 56; refine (player_no p HP.out.1 HP.out.2 w2).mono ?_; rintro e w_ ⟨rfl, rfl⟩)
    | (refine wpList_op_by rfl (run_of_build (parts := #[]) (parts' := #[]) rfl rfl built_zvw) ?_; simp only [Act.put, List.setIfInBounds_toArray, List.set_cons_succ, List.set_cons_zero])
    | (refine wpList_store_by HST.out rfl rfl rfl rfl ?_; simp only [Act.put, List.setIfInBounds_toArray, List.set_cons_succ, List.set_cons_zero])
    | fail)
  refine bodyPost_ret (v := .tuple #[.agg zvw, .int .i64 2]) ((ret_cell2 (fn := Tryz.f72) (p := 6) (q := 7) rfl rfl HK6.out Tryz.underlying98 rfl (by rw [size_view]; rfl)).trans rfl) rfl ?_
  exact ⟨zvw.toList, rfl, rfl, one_zvw, HB6.out⟩
set_option maxRecDepth 100000 in
set_option maxHeartbeats 1600000 in
theorem vof_iv (b : Bd) (m : BdM) (w : World) (k : Nat) (hk : k < 2) (h : BdR w b m) (hz : b.plc.length < 9223372036854775807) (hv : ¬ b.Valid) :
    Calls Tryz.prog 72 #[.agg (b.cells m).toArray, .agg #[.int .i64 0, .int .i64 0, .slice none 0 0], .int .i64 k] w (VobEnd 2 w) := by
  have HV := Lib.hid hv
  have HKK := Lib.hid hk
  obtain ⟨cs, hcs⟩ : ∃ cs, (b.cells m).toArray = cs := ⟨_, rfl⟩
  rw [hcs]
  obtain ⟨w2, hw2⟩ : ∃ w2, ((w.alloc (.cells cs 33)).alloc (.cells #[.int .i64 0, .int .i64 0, .slice none 0 0] 92)).alloc (.cells zvw 98) = w2 := ⟨_, rfl⟩
  have HB2 : Hid (Below w.heap.size w w2) := Lib.hid (by rw [← hw2]; exact (((Below.refl _ _).alloc (Nat.le_refl _) _).alloc (by simp) _).alloc (by simp; omega) _)
  have HBX2 : Hid (Blk w2 w.heap.size 33 cs) := Lib.hid (by rw [← hw2]; exact ((Blk.mk_ w _ _ _ rfl).alloc _).alloc _)
  have HRS2 : Hid (Blk w2 (w.heap.size + 2) 98 zvw) := Lib.hid (by rw [← hw2]; exact Blk.mk_ _ _ _ _ (by simp))
  have HLB : Hid (∀ W, Blk W w.heap.size 33 cs → (Instr.loadAt 33 (.pointer (some ⟨w.heap.size, 0, none⟩))).run Tryz.prog W = .ok (.agg cs) W) := Lib.hid (fun W hW => by
    rw [← hcs] at hW ⊢
    exact hW.mid (b.cells m) _ (fun j v hj => by rw [Nat.zero_add]; simpa using hj) Tryz.underlying33 rfl size_board)
  have HVC := Lib.hid (valid_any b m w2 (h.below (HB2.out.mono (Nat.le_refl _))) hz)
  rw [hcs] at HVC
  have HL2 := Lib.hid (HLB.out w2 HBX2.out)
  have HZV : Hid (∃ x, zvw = x) := Lib.hid ⟨_, rfl⟩
  unfold zvw at hw2
  clear h hv hcs hz hk HLB
  go_enter Tryz.func72, Tryz.ntmps72
  go_wp2_with (first
    | (go_at_call 56; refine (player_any k HKK.out w2).mono ?_; rintro e w_ ⟨rfl, rfl⟩)
    | (refine wpList_load_by HL2.out rfl rfl rfl ?_; simp only [Act.put, List.setIfInBounds_toArray, List.set_cons_succ, List.set_cons_zero])
    | fail)
  refine HVC.out.mono ?_
  rintro e w3 ⟨v, rfl, hvv, hb3⟩
  have hvf : v = false := by
    cases v with
    | false => rfl
    | true => exact absurd (hvv.1 rfl) HV.out
  subst hvf
  have HB3 := Lib.hid (below_call HB2.out hb3 HB2.out.size)
  have HRS3 := Lib.hid (HRS2.out.call hb3)
  clear hvv hb3 hw2 HL2 HVC HB2 HBX2 HRS2
  obtain ⟨w6, hst, hk6, hg6⟩ := (HRS3.out).storeAll (ty := 98) zvw.toList rfl (by rw [size_view]; rfl) one_zvw
  rw [Array.toArray_toList] at hst hk6
  have HST := Lib.hid hst
  have HK6 := Lib.hid hk6
  have HB6 := Lib.hid ((HB3.out).grown hg6 (HB3.out).size (fun q hq => by injection hq with hq; omega))
  clear hst hk6 hg6
  go_wp2_with (first

    | (refine wpList_op_by rfl (run_of_build (parts := #[]) (parts' := #[]) rfl rfl built_zvw) ?_; simp only [Act.put, List.setIfInBounds_toArray, List.set_cons_succ, List.set_cons_zero])
    | (refine wpList_store_by HST.out rfl rfl rfl rfl ?_; simp only [Act.put, List.setIfInBounds_toArray, List.set_cons_succ, List.set_cons_zero])
    | fail)
  refine bodyPost_ret (v := .tuple #[.agg zvw, .int .i64 2]) ((ret_cell2 (fn := Tryz.f72) (p := 6) (q := 7) rfl rfl HK6.out Tryz.underlying98 rfl (by rw [size_view]; rfl)).trans rfl) rfl ?_
  exact ⟨zvw.toList, rfl, rfl, one_zvw, HB6.out⟩
open Classical in
noncomputable def erV (b : Bd) (p : Int) : Int := if (p = 0 ∨ p = 1) ∧ b.Valid then 0 else 2
theorem vof_er (b : Bd) (m : BdM) (w : World) (p : Int) (h : BdR w b m) (hz : b.plc.length < 9223372036854775807) :
    Calls Tryz.prog 72 #[.agg (b.cells m).toArray, .agg #[.int .i64 0, .int .i64 0, .slice none 0 0], .int .i64 p] w (VobEnd (erV b p) w) := by
  unfold erV
  by_cases hp : p = 0 ∨ p = 1
  · obtain ⟨k, hk, rfl⟩ : ∃ k : Nat, k < 2 ∧ p = k := by
      rcases hp with rfl | rfl
      · exact ⟨0, by omega, rfl⟩
      · exact ⟨1, by omega, rfl⟩
    by_cases hv : b.Valid
    · rw [if_pos ⟨hp, hv⟩]
      refine (vof_x b m w k hk h hz hv).mono ?_
      rintro e w' ⟨VC, rfl, hl, ho, _, hb⟩
      exact ⟨VC, rfl, hl, ho, hb⟩
    · rw [if_neg (fun h => hv h.2)]
      exact vof_iv b m w k hk h hz hv
  · rw [if_neg (fun h => hp h.1)]
    exact vof_np _ p (fun h => hp (Or.inl h)) (fun h => hp (Or.inr h)) w
set_option maxRecDepth 100000 in
set_option maxHeartbeats 3200000 in
theorem salike_bad (a b : Bd) (ma mb : BdM) (w : World) (p : Int) (hRa : BdR w a ma) (hRb : BdR w b mb) (hza : a.plc.length < 9223372036854775807) (hzb : b.plc.length < 9223372036854775807) (hbad : ¬ ((p = 0 ∨ p = 1) ∧ a.Valid ∧ b.Valid)) :
    Calls Tryz.prog 39 #[.agg (a.cells ma).toArray, .agg (b.cells mb).toArray, .int .i64 p] w fun e w' => e = .returned (.tuple #[.bool false, .int .i64 2]) ∧ Below w.heap.size w w' := by
  obtain ⟨ca, hca⟩ : ∃ x, (a.cells ma).toArray = x := ⟨_, rfl⟩
  obtain ⟨cb, hcb⟩ : ∃ x, (b.cells mb).toArray = x := ⟨_, rfl⟩
  have hsa : ca.toList.length = 38 := by rw [← hca]; rfl
  have hsb : cb.toList.length = 38 := by rw [← hcb]; rfl
  obtain ⟨w2, hw2⟩ : ∃ x, (w.alloc (.cells ca 33)).alloc (.cells cb 33) = x := ⟨_, rfl⟩
  have HB2 : Hid (Below w.heap.size w w2) := Lib.hid (by rw [← hw2]; exact ((Below.refl _ _).alloc (Nat.le_refl _) _).alloc (by simp) _)
  have HKA2 : Hid (Blk w2 w.heap.size 33 ca) := Lib.hid (by rw [← hw2]; exact (Blk.mk_ w _ _ _ rfl).alloc _)
  have HKB2 : Hid (Blk w2 (w.heap.size + 1) 33 cb) := Lib.hid (by rw [← hw2]; exact Blk.mk_ _ _ _ _ (by simp))
  have HLD : Hid (∀ (W : World) (g : Nat) (c : Array Value), c.toList.length = 38 → Blk W g 33 c → (Instr.loadAt 33 (.pointer (some ⟨g, 0, none⟩))).run Tryz.prog W = .ok (.agg c) W) := Lib.hid (fun W g c hc hW => by
    have := hW.mid (o := 0) (ty := 33) c.toList _ (fun j v hj => by rw [Nat.zero_add]; simpa using hj) Tryz.underlying33 rfl (by rw [hc]; exact size_board)
    rwa [Array.toArray_toList] at this)
  have HL2 := Lib.hid (HLD.out w2 _ ca hsa HKA2.out)
  obtain ⟨ea, hea⟩ : ∃ x, erV a p = x := ⟨_, rfl⟩
  obtain ⟨eb, heb⟩ : ∃ x, erV b p = x := ⟨_, rfl⟩
  have HEE : Hid (¬ ea = 0 ∨ ¬ eb = 0) := Lib.hid (by
    rw [← hea, ← heb]
    unfold erV
    by_cases h1 : (p = 0 ∨ p = 1) ∧ a.Valid
    · rw [if_neg (fun h : (p = 0 ∨ p = 1) ∧ b.Valid => hbad ⟨h1.1, h1.2, h.2⟩)]
      exact Or.inr (by decide)
    · rw [if_neg h1]
      exact Or.inl (by decide))
  have HVA : Hid (Calls Tryz.prog 72 #[.agg ca, .agg #[.int .i64 0, .int .i64 0, .slice none 0 0], .int .i64 p] w2 (VobEnd ea w2)) := Lib.hid (by rw [← hca, ← hea]; exact vof_er a ma w2 p (hRa.below HB2.out) hza)
  have HVB : Hid (∀ W, Below w.heap.size w W → Calls Tryz.prog 72 #[.agg cb, .agg #[.int .i64 0, .int .i64 0, .slice none 0 0], .int .i64 p] W (VobEnd eb W)) := Lib.hid (fun W hW => by rw [← hcb, ← heb]; exact vof_er b mb W p (hRb.below hW) hzb)
  have HSB := Lib.hid hsb
  rw [hca, hcb]
  clear hRa hRb hza hzb hbad hca hcb hsa hsb hea heb
  go_enter Tryz.func39, Tryz.ntmps39
  go_wp2_with (first
    | (refine wpList_load_by HL2.out rfl rfl rfl ?_; simp only [Act.put, List.setIfInBounds_toArray, List.set_cons_succ, List.set_cons_zero])
    | (refine wpList_op_by rfl (run_of_build (parts := #[]) (parts' := #[]) rfl rfl built_prompt) ?_; simp only [Act.put, List.setIfInBounds_toArray, List.set_cons_succ, List.set_cons_zero])
    | fail)
  refine HVA.out.mono ?_
  rintro e w3 ⟨VA, rfl, hla, h1a, hb3⟩
  obtain ⟨gA, hgA⟩ : ∃ x, w3.heap.size = x := ⟨_, rfl⟩
  obtain ⟨zv, hzv⟩ : ∃ x, zvw = x := ⟨_, rfl⟩
  have hzl : zv.size = 43 := by rw [← hzv]; rfl
  obtain ⟨w4, hst4, hk4, hg4⟩ := (Blk.mk_ w3 98 zv gA hgA).storeAll (ty := 98) VA (by rw [hla, hzl]) (by rw [size_view, hla]) h1a
  have hb34 : Below w3.heap.size w3 w4 := ((Below.refl _ _).alloc (Nat.le_refl _) _).grown hg4 (by simp) (fun q hq => by injection hq with hq; omega)
  have HB4 := Lib.hid (below_call (below_call HB2.out hb3 HB2.out.size) hb34 (below_call HB2.out hb3 HB2.out.size).size)
  have HKB4 := Lib.hid ((HKB2.out.call hb3).call hb34)
  rw [← hzv] at hst4
  unfold zvw at hst4
  have HST4 := Lib.hid hst4
  have HL4 := Lib.hid (HLD.out w4 _ cb HSB.out HKB4.out)
  clear hb3 hst4 hk4 hg4 hb34 h1a hla HVA HL2 HKA2 HB2 HKB2 hw2 hzv hzl
  go_wp2_with (first
    | (refine wpList_store_by HST4.out rfl rfl rfl rfl ?_; simp only [Act.put, List.setIfInBounds_toArray, List.set_cons_succ, List.set_cons_zero])
    | (refine wpList_load_by HL4.out rfl rfl rfl ?_; simp only [Act.put, List.setIfInBounds_toArray, List.set_cons_succ, List.set_cons_zero])
    | (refine wpList_op_by rfl (run_of_build (parts := #[]) (parts' := #[]) rfl rfl built_prompt) ?_; simp only [Act.put, List.setIfInBounds_toArray, List.set_cons_succ, List.set_cons_zero])
    | fail)
  refine (HVB.out w4 HB4.out).mono ?_
  rintro e w5 ⟨VB, rfl, hlb, h1b, hb5⟩
  obtain ⟨gB, hgB⟩ : ∃ x, w5.heap.size = x := ⟨_, rfl⟩
  obtain ⟨zv, hzv⟩ : ∃ x, zvw = x := ⟨_, rfl⟩
  have hzl : zv.size = 43 := by rw [← hzv]; rfl
  obtain ⟨w6, hst6, hk6, hg6⟩ := (Blk.mk_ w5 98 zv gB hgB).storeAll (ty := 98) VB (by rw [hlb, hzl]) (by rw [size_view, hlb]) h1b
  have hb56 : Below w5.heap.size w5 w6 := ((Below.refl _ _).alloc (Nat.le_refl _) _).grown hg6 (by simp) (fun q hq => by injection hq with hq; omega)
  have hb46 := below_call hb5 hb56 hb5.size
  have HB6 := Lib.hid (below_call HB4.out hb46 HB4.out.size)
  rw [← hzv] at hst6
  unfold zvw at hst6
  have HST6 := Lib.hid hst6
  clear hb5 hst6 hk6 hg6 hb56 hb46 h1b hlb HVB HL4 HKB4 HB4 HST4 hzv hzl hgA
  by_cases hea : ea = 0
  · subst hea
    have heb : (eb == 0) = false := by simpa using (HEE.out.resolve_left (fun h => h rfl))
    have heb' : (eb != 0) = true := by simpa using (HEE.out.resolve_left (fun h => h rfl))
    go_wp2_with (first
      | (refine wpList_store_by HST6.out rfl rfl rfl rfl ?_; simp only [Act.put, List.setIfInBounds_toArray, List.set_cons_succ, List.set_cons_zero])
      | fail)
    go_ret2
    exact ⟨rfl, HB6.out⟩
  · have hea1 : (ea == 0) = false := by simpa using hea
    have hea2 : (ea != 0) = true := by simpa using hea
    clear hea
    go_wp2_with (first
      | (refine wpList_store_by HST6.out rfl rfl rfl rfl ?_; simp only [Act.put, List.setIfInBounds_toArray, List.set_cons_succ, List.set_cons_zero])
      | fail)
    go_ret2
    exact ⟨rfl, HB6.out⟩
set_option maxRecDepth 100000 in
theorem lalike_bad (a b : Bd) (ma mb : BdM) (w : World) (p : Int) (hRa : BdR w a ma) (hRb : BdR w b mb) (hza : a.plc.length < 9223372036854775807) (hzb : b.plc.length < 9223372036854775807) (hbad : ¬ ((p = 0 ∨ p = 1) ∧ a.Valid ∧ b.Valid)) :
    Calls Tryz.prog 14 #[.agg (a.cells ma).toArray, .agg (b.cells mb).toArray, .int .i64 p, .bool false, .int .i64 2] w fun e w' => e = .returned (.bool true) ∧ Below w.heap.size w w' := by
  obtain ⟨ca, hca⟩ : ∃ x, (a.cells ma).toArray = x := ⟨_, rfl⟩
  obtain ⟨cb, hcb⟩ : ∃ x, (b.cells mb).toArray = x := ⟨_, rfl⟩
  have hsa : ca.toList.length = 38 := by rw [← hca]; rfl
  have hsb : cb.toList.length = 38 := by rw [← hcb]; rfl
  obtain ⟨w2, hw2⟩ : ∃ x, (w.alloc (.cells ca 33)).alloc (.cells cb 33) = x := ⟨_, rfl⟩
  have HB2 : Hid (Below w.heap.size w w2) := Lib.hid (by rw [← hw2]; exact ((Below.refl _ _).alloc (Nat.le_refl _) _).alloc (by simp) _)
  have HKA2 : Hid (Blk w2 w.heap.size 33 ca) := Lib.hid (by rw [← hw2]; exact (Blk.mk_ w _ _ _ rfl).alloc _)
  have HKB2 : Hid (Blk w2 (w.heap.size + 1) 33 cb) := Lib.hid (by rw [← hw2]; exact Blk.mk_ _ _ _ _ (by simp))
  have HLD : Hid (∀ (W : World) (g : Nat) (c : Array Value), c.toList.length = 38 → Blk W g 33 c → (Instr.loadAt 33 (.pointer (some ⟨g, 0, none⟩))).run Tryz.prog W = .ok (.agg c) W) := Lib.hid (fun W g c hc hW => by
    have := hW.mid (o := 0) (ty := 33) c.toList _ (fun j v hj => by rw [Nat.zero_add]; simpa using hj) Tryz.underlying33 rfl (by rw [hc]; exact size_board)
    rwa [Array.toArray_toList] at this)
  have HLA := Lib.hid (HLD.out w2 _ ca hsa HKA2.out)
  have HLB := Lib.hid (HLD.out w2 _ cb hsb HKB2.out)
  have HS : Hid (Calls Tryz.prog 39 #[.agg ca, .agg cb, .int .i64 p] w2 fun e w' => e = .returned (.tuple #[.bool false, .int .i64 2]) ∧ Below w2.heap.size w2 w') := Lib.hid (by rw [← hca, ← hcb]; exact salike_bad a b ma mb w2 p (hRa.below HB2.out) (hRb.below HB2.out) hza hzb hbad)
  rw [hca, hcb]
  clear hRa hRb hza hzb hbad hca hcb hsa hsb
  go_enter Tryz.func14, Tryz.ntmps14
  go_wp2_with (first
    | (refine wpList_load_by HLA.out rfl rfl rfl ?_; simp only [Act.put, List.setIfInBounds_toArray, List.set_cons_succ, List.set_cons_zero])
    | (refine wpList_load_by HLB.out rfl rfl rfl ?_; simp only [Act.put, List.setIfInBounds_toArray, List.set_cons_succ, List.set_cons_zero])
    | fail)
  refine HS.out.mono ?_
  rintro e w3 ⟨rfl, hb3⟩
  have HB3 := Lib.hid (below_call HB2.out hb3 HB2.out.size)
  clear hb3 hw2
  go_wp2_with fail
  go_ret
  exact ⟨rfl, HB3.out⟩
end Go.Proofs.YtagpphelgghbpaaGreat
