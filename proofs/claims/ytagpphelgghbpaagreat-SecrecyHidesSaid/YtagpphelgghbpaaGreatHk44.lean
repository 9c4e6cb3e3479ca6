/-
  Texts: Hsc.
-/
import Derived.Test.YtagpphelgghbpaaGreatHk43
/-
  SecrecyHides: the walk.
-/
set_option linter.unusedSimpArgs false
set_option linter.unusedVariables false
namespace Go.Proofs.YtagpphelgghbpaaGreat
open Go.RowKit

/-- How often an owner has a card among the first objects of a board, less how often in the mixed one. -/
def cD (b l : List Ob) (q : Int) (k : Nat) (c : Int) : Int := ((((b.take k).filter fun o => decide (o.own = q)).map Ob.card).count c : Int) - ((((l.take k).filter fun o => decide (o.own = q)).map Ob.card).count c : Int)
theorem cD_skip {b l : List Ob} {q : Int} {k : Nat} {o o' : Ob} (h : b[k]? = some o) (h' : l[k]? = some o') (ho : o'.own = o.own) (hn : ¬ o.own = q) (c : Int) : cD b l q (k + 1) c = cD b l q k c := by
  unfold cD
  rw [take_snoc h, take_snoc h', List.filter_append, List.filter_append]
  simp [hn, ho]
theorem cD_step {b l : List Ob} {q : Int} {k : Nat} {o o' : Ob} (h : b[k]? = some o) (h' : l[k]? = some o') (ho : o'.own = o.own) (hn : o.own = q) (c : Int) : cD b l q (k + 1) c = cD b l q k c + (if c = o.card then 1 else 0) - (if c = o'.card then 1 else 0) := by
  unfold cD
  rw [take_snoc h, take_snoc h', List.filter_append, List.filter_append]
  have e1 : decide (o.own = q) = true := by simpa using hn
  have e2 : decide (o'.own = q) = true := by rw [ho]; exact e1
  simp only [List.filter_cons, List.filter_nil, e1, e2, if_true, List.map_append, List.map_cons, List.map_nil, List.count_append, List.count_cons, List.count_nil]
  have hb : ∀ x : Int, (if (x == c) = true then (1 : Nat) else 0) = if c = x then 1 else 0 := fun x => by
    by_cases h : c = x
    · rw [if_pos h, if_pos (by simp [h])]
    · rw [if_neg h, if_neg (by intro h'; exact h (of_decide_eq_true h').symm)]
  rw [hb, hb]
  generalize List.count c (List.map Ob.card (List.filter (fun o => decide (o.own = q)) (List.take k b))) = X
  generalize List.count c (List.map Ob.card (List.filter (fun o => decide (o.own = q)) (List.take k l))) = Y
  split <;> split <;> omega
theorem cD_bd {b l : List Ob} {q : Int} {k : Nat} (hk : k ≤ 500) (c : Int) : -500 ≤ cD b l q k c ∧ cD b l q k c ≤ 500 := by
  have h : ∀ (x : List Ob), (((x.take k).filter fun o => decide (o.own = q)).map Ob.card).count c ≤ 500 := fun x => by
    refine Nat.le_trans (List.count_le_length ..) ?_
    rw [List.length_map]
    refine Nat.le_trans (List.length_filter_le _ _) ?_
    rw [List.length_take]
    omega
  have h1 := h b
  have h2 := h l
  unfold cD
  omega
theorem put2 (f : Int → Option Int) (a b v w : Int) (c : Int) : ((putF (putF f a v) b w) c).getD 0 = if c = b then w else if c = a then v else (f c).getD 0 := by
  unfold putF
  by_cases h : c = b
  · simp [h]
  · rw [if_neg h, if_neg h]
    by_cases h' : c = a
    · rw [if_pos h', if_pos h']; rfl
    · rw [if_neg h', if_neg h']
/-- What lies while the cards are counted. -/
structure HsS (w : World) (b : Bd) (m : BdM) (l : List Ob) (m' : BdM) (g3 g7 : Nat) (W : World) : Prop where
  P3 : Blk W g3 33 (b.cells m).toArray
  P7 : Blk W g7 33 (Bd.cells { b with objs := l } m').toArray
  O3 : Reads W 12 m.O.A b.objs.length (ocs b.objs)
  O7 : Reads W 12 m'.O.A l.length (ocs l)
  bel : Below w.heap.size w W
theorem HsS.below {w : World} {b : Bd} {m : BdM} {l : List Ob} {m' : BdM} {g3 g7 : Nat} {W W' : World} (h : HsS w b m l m' g3 g7 W) (hb : Below W.heap.size W W') : HsS w b m l m' g3 g7 W' := ⟨h.P3.call hb, h.P7.call hb, h.O3.below hb, h.O7.below hb, below_call h.bel hb h.bel.size⟩
/-- The counts so far. -/
structure CtS (W0 : World) (b l : List Ob) (q : Int) (gM n : Nat) (f : Int → Option Int) (k : Nat) (W : World) : Prop where
  M : MapN W gM n f
  n : n ≤ 2 * k
  e : ∀ c, (f c).getD 0 = cD b l q k c
  B : Below W0.heap.size W0 W
set_option maxRecDepth 100000 in
set_option maxHeartbeats 12800000 in
theorem hides_any (b : Bd) (m : BdM) (w : World) (hR : BdR w b m) (hz : b.plc.length < 9223372036854775807) (p : Int) (UA : Option Addr) (nu Uc : Nat) (us : List Int) (hU : Reads w 1 UA nu (ucs us)) (hus : ∀ i, i < us.length → 0 ≤ ith us i ∧ ith us i ≤ 18446744073709551615) :
    Calls Tryz.prog 5 #[.agg (b.cells m).toArray, .int .i64 p, .slice UA nu Uc] w fun e w' => e = .returned (.bool true) ∧ Below w.heap.size w w' := by
  obtain ⟨cs, hcs⟩ : ∃ cs, (b.cells m).toArray = cs := ⟨_, rfl⟩
  have HCS := Lib.hid hcs
  have HR := Lib.hid hR
  have HZ := Lib.hid hz
  have HU := Lib.hid hU
  have HUS := Lib.hid hus
  obtain ⟨g3, hg3⟩ : ∃ x, w.heap.size = x := ⟨_, rfl⟩
  obtain ⟨w1, hw1⟩ : ∃ x, w.alloc (.cells cs 33) = x := ⟨_, rfl⟩
  have hb1 : Below w.heap.size w w1 := by rw [← hw1]; exact (Below.refl _ _).alloc (Nat.le_refl _) _
  have hk1 : Blk w1 g3 33 (b.cells m).toArray := by rw [← hw1, hcs]; exact Blk.mk_ _ _ _ _ hg3
  have HLD : Hid (∀ W, Blk W g3 33 (b.cells m).toArray → (Instr.loadAt 33 (.pointer (some ⟨g3, 0, none⟩))).run Tryz.prog W = .ok (.agg cs) W) := Lib.hid (fun W h => by rw [← hcs]; exact board_load h)
  have HI1 : Hid (Blk w1 g3 33 (b.cells m).toArray ∧ Below w.heap.size w w1) := Lib.hid ⟨hk1, hb1⟩
  have HSM : Hid (Calls Tryz.prog 6 #[.agg cs] w1 (SmEnd w1)) := Lib.hid (by rw [← hcs]; exact small_any b m w1 (hR.below hb1))
  rw [hcs]
  clear hR hz hU hus hcs hb1 hk1
  go_enter Tryz.func5, Tryz.ntmps5
  go_wp2_with (first
    | (refine wpList_load_by (HLD.out w1 HI1.out.1) rfl rfl rfl ?_; simp only [Act.put, List.setIfInBounds_toArray, List.set_cons_succ, List.set_cons_zero])
    | fail)
  refine HSM.out.mono ?_
  rintro e w2 ⟨v, rfl, hb2⟩
  have HI2 : Hid (Blk w2 g3 33 (b.cells m).toArray ∧ Below w.heap.size w w2) := Lib.hid ⟨HI1.out.1.call hb2, below_call HI1.out.2 hb2 HI1.out.2.size⟩
  clear hb2 HI1 HSM hw1 hg3
  cases v with
  | false =>
    go_wp2_with fail
    refine (known_any w2).mono ?_
    rintro e w9 ⟨rfl, hb9⟩
    have HB9 := Lib.hid (below_call HI2.out.2 hb9 HI2.out.2.size)
    clear hb9
    go_wp2_with fail
    go_ret
    exact ⟨rfl, HB9.out⟩
  | true =>
  go_wp2_with fail
  refine (lplayer_any p _).mono ?_
  rintro e w_ ⟨rfl, rfl⟩
  by_cases hp : p = 0 ∨ p = 1
  case neg =>
    have hpd : decide (p = 0 ∨ p = 1) = false := decide_eq_false hp
    rw [hpd]
    clear hp hpd
    go_wp2_with fail
    refine (known_any w2).mono ?_
    rintro e w9 ⟨rfl, hb9⟩
    have HB9 := Lib.hid (below_call HI2.out.2 hb9 HI2.out.2.size)
    clear hb9
    go_wp2_with fail
    go_ret
    exact ⟨rfl, HB9.out⟩
  have hpd : decide (p = 0 ∨ p = 1) = true := decide_eq_true hp
  rw [hpd]
  obtain ⟨k, hk⟩ : ∃ k : Nat, p = (k : Int) := ⟨p.toNat, by omega⟩
  have HK : Hid (k < 2) := Lib.hid (by omega)
  subst hk
  clear hp hpd
  by_cases hnu : (300 : Int) < nu
  case pos =>
    have hnd : decide ((300 : Int) < nu) = true := by simpa using hnu
    go_wp2_with fail
    refine (known_any w2).mono ?_
    rintro e w9 ⟨rfl, hb9⟩
    have HB9 := Lib.hid (below_call HI2.out.2 hb9 HI2.out.2.size)
    clear hb9
    go_wp2_with fail
    go_ret
    exact ⟨rfl, HB9.out⟩
  have hnd : decide ((300 : Int) < nu) = false := by simpa using hnu
  have HNU : Hid (nu ≤ 65536) := Lib.hid (by omega)
  have HVA : Hid (Calls Tryz.prog 16 #[.agg cs] w2 (BoolEnd b.Valid w2)) := Lib.hid (by rw [← HCS.out]; exact valid_any b m w2 (HR.out.below HI2.out.2) HZ.out)
  go_wp2_with (first
    | (refine wpList_load_by (HLD.out w2 HI2.out.1) rfl rfl rfl ?_; simp only [Act.put, List.setIfInBounds_toArray, List.set_cons_succ, List.set_cons_zero])
    | fail)
  refine HVA.out.mono ?_
  rintro e w3 ⟨v, rfl, hvv, hb3⟩
  have HI3 : Hid (Blk w3 g3 33 (b.cells m).toArray ∧ Below w.heap.size w w3) := Lib.hid ⟨HI2.out.1.call hb3, below_call HI2.out.2 hb3 HI2.out.2.size⟩
  have HVV := Lib.hid hvv
  clear hb3 HI2 HVA hvv hnd hnu
  cases v with
  | false =>
    go_wp2_with fail
    refine (known_any w3).mono ?_
    rintro e w9 ⟨rfl, hb9⟩
    have HB9 := Lib.hid (below_call HI3.out.2 hb9 HI3.out.2.size)
    clear hb9
    go_wp2_with fail
    go_ret
    exact ⟨rfl, HB9.out⟩
  | true =>
  have HV : Hid b.Valid := Lib.hid (HVV.out.1 rfl)
  have HMX : Hid (Calls Tryz.prog 9 #[.agg cs, .int .i64 k, .slice UA nu Uc] w3 (MixEnd b k us w3)) := Lib.hid (by rw [← HCS.out]; exact mix_any b m w3 k HK.out (HR.out.below HI3.out.2) HZ.out HV.out UA nu Uc us (HU.out.below HI3.out.2) HNU.out HUS.out)
  clear HVV
  go_wp2_with (first
    | (refine wpList_load_by (HLD.out w3 HI3.out.1) rfl rfl rfl ?_; simp only [Act.put, List.setIfInBounds_toArray, List.set_cons_succ, List.set_cons_zero])
    | fail)
  refine HMX.out.mono ?_
  rintro e w4 ⟨hb4, ⟨hmn, rfl⟩ | ⟨l, m', hml, rfl, ho4⟩⟩
  · obtain ⟨g7, hg7⟩ : ∃ x, w4.heap.size = x := ⟨_, rfl⟩
    obtain ⟨zb, hzb⟩ : ∃ x, zbd = x := ⟨_, rfl⟩
    have hzl : zb.size = 38 := by rw [← hzb]; rfl
    obtain ⟨w5, hst, hk5, hg5⟩ := (Blk.mk_ w4 33 zb g7 hg7).storeAll (ty := 33) zbd.toList (by rw [zbd_len, hzl]) (by rw [size_board, zbd_len]) one_zbd
    rw [Array.toArray_toList] at hst
    have hb45 : Below w4.heap.size w4 w5 := ((Below.refl _ _).alloc (Nat.le_refl _) _).grown hg5 (by simp) (fun q hq => by injection hq with hq; omega)
    have HI5 : Hid (Below w.heap.size w w5) := Lib.hid (below_call (below_call HI3.out.2 hb4 HI3.out.2.size) hb45 (below_call HI3.out.2 hb4 HI3.out.2.size).size)
    rw [← hzb] at hst
    obtain ⟨zz, hzz⟩ : ∃ x, zbd = x := ⟨_, rfl⟩
    have hst2 := hst
    rw [hzz] at hst2 ⊢
    rw [show (Obj.cells zz 33) = Obj.cells zbd 33 by rw [hzz]] at hst2
    unfold zbd at hst2
    have HST := Lib.hid hst2
    clear hb4 hmn hzb hzl hst hst2 hk5 hg5 hb45 hzz HMX
    go_wp2_with (first
      | (refine wpList_store_by HST.out rfl rfl rfl rfl ?_; simp only [Act.put, List.setIfInBounds_toArray, List.set_cons_succ, List.set_cons_zero])
      | fail)
    refine (known_any w5).mono ?_
    rintro e w6 ⟨rfl, hb6⟩
    have HB6 := Lib.hid (below_call HI5.out hb6 HI5.out.size)
    clear hb6
    go_wp2_with fail
    go_ret
    exact ⟨rfl, HB6.out⟩
  · obtain ⟨hv7, hob7, hlen7, hat7, hct7⟩ := mix_laws HK.out HV.out hml
    have HFL : Hid (flatB b k = flatB { b with objs := l } k) := Lib.hid (flat_mix HK.out HV.out hml).symm
    have HHD : Hid (hidS b k = hidS { b with objs := l } k) := Lib.hid rfl
    have HV7 := Lib.hid hv7
    have HLN := Lib.hid hlen7
    have HAT := Lib.hid hat7
    have HCT := Lib.hid hct7
    obtain ⟨x, hx⟩ : ∃ z, ({ b with objs := l } : Bd) = z := ⟨_, rfl⟩
    have HXE := Lib.hid hx
    rw [hx] at ho4 HFL HHD HV7
    have hR7 := ho4.isR (bdW_valid HV7.out)
    obtain ⟨g7, hg7⟩ : ∃ z, w4.heap.size = z := ⟨_, rfl⟩
    obtain ⟨zb, hzb⟩ : ∃ z, zbd = z := ⟨_, rfl⟩
    have hzl : zb.size = 38 := by rw [← hzb]; rfl
    obtain ⟨cx, hcx⟩ : ∃ z, (x.cells m').toArray = z := ⟨_, rfl⟩
    obtain ⟨w5, hst, hk5, hg5⟩ := (Blk.mk_ w4 33 zb g7 hg7).storeAll (ty := 33) (x.cells m') (by rw [hzl]; rfl) (by rw [size_board]; rfl) (one_bd _ _)
    have hb45 : Below w4.heap.size w4 w5 := ((Below.refl _ _).alloc (Nat.le_refl _) _).grown hg5 (by simp) (fun q hq => by injection hq with hq; omega)
    have hb35 := below_call hb4 hb45 hb4.size
    have HI5 : Hid (Blk w5 g3 33 (b.cells m).toArray ∧ Blk w5 g7 33 (x.cells m').toArray ∧ BdR w5 b m ∧ BdR w5 x m' ∧ Below w.heap.size w w5) := Lib.hid ⟨HI3.out.1.call hb35, hk5, (HR.out.below HI3.out.2).below hb35, hR7.below hb45, below_call HI3.out.2 hb35 HI3.out.2.size⟩
    rw [hx]
    rw [hcx] at hst ⊢
    rw [← hzb] at hst
    unfold zbd at hst
    have HST := Lib.hid hst
    clear hb4 hml ho4 hv7 hob7 hlen7 hat7 hct7 hx hR7 hzb hzl hcx hst hk5 hg5 hb45 hb35 HMX
    go_wp2_with (first
      | (refine wpList_store_by HST.out rfl rfl rfl rfl ?_; simp only [Act.put, List.setIfInBounds_toArray, List.set_cons_succ, List.set_cons_zero])
      | fail)
    refine hs_r6 w5 b x m m' g3 g7 k HK.out HI5.out.1 HI5.out.2.1 HI5.out.2.2.1 HI5.out.2.2.2.1 HV.out HV7.out HFL.out HHD.out _ _ _ _ _ _ _ _ _ _ _ _ _ _ _ _ _ _ _ _ _ _ _ _ _ _ _ _ _ _ _ _ _ _ _ _ _ _ _ _ _ _ _ _ _ _ _ _ _ _ _ _ _ _ _ _ _ _ _ _ _ _ _ _ _ _ _ _ _ _ _ _ _ _ _ _ _ _ _ _ _ _ _ _ _ _ _ _ _ _ _ _ _ _ _ _ _ _ _ _ _ _ _ _ _ _ _ _ _ _ _ _ _ _ _ _ _ _ _ ?_ ?_
    · exact fun d _ _ _ _ h => by cases d <;> exact h
    intro v46 v47 v48 v49 v50 v51 v52 v53 v54 v55 v56 v57 v58 v59 v60 v61 v62 v63 v64 w6 hb6
    have HS6 : Hid (HsS w b m l m' g3 g7 w6) := Lib.hid (by
      have a := HI5.out
      refine HsS.below ⟨a.1, ?_, a.2.2.1.O, ?_, a.2.2.2.2⟩ hb6
      · rw [HXE.out]
        exact a.2.1
      · have h := a.2.2.2.1.O
        rw [← HXE.out] at h
        exact h)
    obtain ⟨no, hno⟩ : ∃ z, b.objs.length = z := ⟨_, rfl⟩
    have HNO := Lib.hid hno
    have hn5 : no ≤ 500 := by rw [← hno]; exact (bd_sm HV.out).O
    obtain ⟨⟨OA, Oc⟩, hmO⟩ : ∃ z, m.O = z := ⟨_, rfl⟩
    obtain ⟨⟨XA, Xc⟩, hmX⟩ : ∃ z, m'.O = z := ⟨_, rfl⟩
    have HMO := Lib.hid (And.intro hmO hmX)
    have HC0 : Hid (∀ W, HsS w b m l m' g3 g7 W → W.cell? ⟨g3, 0, none⟩ = some (.slice OA no Oc) ∧ W.cell? ⟨g7, 0, none⟩ = some (.slice XA no Xc) ∧ Reads W 12 OA no (ocs b.objs) ∧ Reads W 12 XA no (ocs l)) := Lib.hid (fun W h => ⟨(h.P3.at_ 0).trans (by show some (m.O.v b.objs.length) = _; rw [hmO, hno]; rfl), (h.P7.at_ 0).trans (by show some (m'.O.v l.length) = _; rw [hmX, HLN.out, hno]; rfl), by have := h.O3; rw [hmO, hno] at this; exact this, by have := h.O7; rw [hmX, HLN.out, hno] at this; exact this⟩)
    clear hb6 hno hmO hmX HI5 HST HFL HHD
    go_wp2_with fail
    go_loopw [9] (fun iv W => ∃ q : Nat, iv = .int .i64 q ∧ q ≤ 2 ∧ Hid (HsS w b m l m' g3 g7 W)) (fun iv _ => 2 - (intOf iv).toNat)
    case atStart => exact ⟨0, rfl, by omega, HS6⟩
    case round =>
      obtain ⟨q, rfl, hq, HS⟩ := hrel
      clear HS6
      by_cases hq2 : q < 2
      · have hq2' : (q : Int) < 2 := by omega
        have HQ2 := Lib.hid hq2
        go_wp2_with fail
        rw [run_makeMap]
        obtain ⟨gM, hgM⟩ : ∃ z, wr.heap.size = z := ⟨_, rfl⟩
        obtain ⟨v7, hv7⟩ : ∃ z, wr.alloc (.map #[] 0) = z := ⟨_, rfl⟩
        have HB7 : Hid (Below wr.heap.size wr v7) := Lib.hid (by rw [← hv7]; exact (Below.refl _ _).alloc (Nat.le_refl _) _)
        have HC7 : Hid (CtS wr b.objs l q gM 0 (fun _ => none) 0 v7) := Lib.hid ⟨by (have h := MapN.make wr; rw [hgM, hv7] at h; exact h), Nat.le_refl _, fun c => by simp [cD], HB7.out⟩
        have HGM : Hid (wr.heap.size ≤ gM) := Lib.hid (hgM ▸ Nat.le_refl _)
        simp only [hgM, hv7]
        clear HB7 hgM hv7
        obtain ⟨w0, rfl⟩ : ∃ z, z = wr := ⟨_, rfl⟩
        go_wp2_with fail
        clear hq2
        go_loopw [11] (fun iv W => ∃ (i n : Nat) (f : Int → Option Int), iv = .int .i64 i ∧ i ≤ no ∧ Hid (CtS w0 b.objs l q gM n f i W)) (fun iv _ => no - (intOf iv).toNat)
        case atStart => exact ⟨0, 0, _, rfl, Nat.zero_le _, HC7⟩
        case round =>
          obtain ⟨i, n, f, rfl, hi, HC⟩ := hrel
          clear HC7
          obtain ⟨c3, c7, r3, r7⟩ := HC0.out _ (HS.out.below HC.out.B)
          have HR37 := Lib.hid (And.intro r3 r7)
          clear r3 r7
          by_cases hin : i < no
          · have hin' : (i : Int) < no := by omega
            have HIN := Lib.hid hin
            obtain ⟨o, ho⟩ := get_of (l := b.objs) (k := i) (by rw [HNO.out]; exact hin)
            obtain ⟨cc, ho'⟩ := HAT.out i o ho
            obtain ⟨ad, rfl, -, -, d1, d2, -⟩ := obj_at HR37.out.1 ho hin
            obtain ⟨ad', rfl, -, -, e1, -⟩ := obj_at HR37.out.2 ho' hin
            dsimp only at e1
            have HO := Lib.hid (And.intro ho ho')
            have HW : Hid (wfI o.card ∧ wfI cc) := Lib.hid ⟨(obOk_wf (HV.out.2.2.2.2.2.1.2.1 o (List.mem_of_getElem? ho)).1) _ (by simp [obN]), by
              have h9 := HV7.out.2.2.2.2.2.1.2.1 { o with card := cc } (by rw [← HXE.out]; exact List.mem_of_getElem? ho')
              exact (obOk_wf h9.1) _ (by simp [obN])⟩
            clear ho ho' hi
            by_cases hoq : o.own = (q : Int)
            · have hob : (o.own == (q : Int)) = true := by simpa using hoq
              have HOQ := Lib.hid hoq
              obtain ⟨za, hza⟩ : ∃ z, (f o.card).getD 0 = z := ⟨_, rfl⟩
              have hzb : -500 ≤ za ∧ za ≤ 500 := by rw [← hza, HC.out.e]; exact cD_bd (by omega) _
              have hg1 := HC.out.M.get HW.out.1
              rw [hza] at hg1
              obtain ⟨v8, hr8, hm8, hgr8⟩ := HC.out.M.put (x := o.card) (v := za + 1) HW.out.1 (by unfold wfI; omega) (by unfold maxLen; have := HC.out.n; omega)
              have hb8 : Below w0.heap.size w0 v8 := HC.out.B.grown hgr8 HC.out.B.size (fun z hz => by injection hz with hz; have := HC.out.M.lt; rw [← hz]; exact HGM.out)
              obtain ⟨zc, hzc⟩ : ∃ z, ((putF f o.card (za + 1)) cc).getD 0 = z := ⟨_, rfl⟩
              have hzcb : -501 ≤ zc ∧ zc ≤ 501 := by
                rw [← hzc]
                unfold putF
                split
                · simp; omega
                · rw [HC.out.e]
                  have := cD_bd (b := b.objs) (l := l) (q := (q : Int)) (k := i) (by omega) cc
                  omega
              have hg2 := hm8.get HW.out.2
              rw [hzc] at hg2
              obtain ⟨v9, hr9, hm9, hgr9⟩ := hm8.put (x := cc) (v := zc - 1) HW.out.2 (by unfold wfI; omega) (by unfold maxLen; have := HC.out.n; split <;> omega)
              have hb9 : Below w0.heap.size w0 v9 := hb8.grown hgr9 hb8.size (fun z hz => by injection hz with hz; rw [← hz]; exact HGM.out)
              have hwa : wrap64 (za + 1) = za + 1 := by unfold wrap64; omega
              have hwc : wrap64 (zc - 1) = zc - 1 := by unfold wrap64; omega
              obtain ⟨c3', c7', r3', r7'⟩ := HC0.out _ (HS.out.below hb8)
              obtain ⟨ad9, e9, -, -, e1', -⟩ := obj_at r7' HO.out.2 HIN.out
              injection e9 with e9
              subst e9
              dsimp only at e1'
              have HCN : Hid (∃ n', CtS w0 b.objs l q gM n' (putF (putF f o.card (za + 1)) cc (zc - 1)) (i + 1) v9) := Lib.hid ⟨_, hm9, by have := HC.out.n; split <;> split <;> omega, fun c => by
                rw [put2, cD_step HO.out.1 HO.out.2 rfl HOQ.out c]
                have hc := HC.out.e
                by_cases h2 : c = cc
                · rw [if_pos h2]
                  have h3 : zc = (if cc = o.card then za + 1 else cD b.objs l q i cc) := by
                    rw [← hzc]
                    unfold putF
                    split
                    · rfl
                    · exact hc cc
                  rw [h3, h2]
                  by_cases h4 : cc = o.card
                  · rw [if_pos h4, if_pos h4, ← hza, hc, h4]
                    simp
                  · rw [if_neg h4, if_neg h4]
                    simp
                · rw [if_neg h2]
                  by_cases h1 : c = o.card
                  · rw [if_pos h1, if_pos h1, ← hza, hc, h1]
                    have : ¬ o.card = cc := by rw [← h1]; exact h2
                    simp [this]
                  · rw [if_neg h1, if_neg h1, hc]
                    simp [h2], hb9⟩
              obtain ⟨n', HCN'⟩ := HCN.out
              have HCN' := Lib.hid HCN'
              clear hza hm8 hgr8 hb8 hzc hm9 hgr9 hb9 r3' r7' hoq HCN
              go_wp2_with fail
              go_roundw
              case rel => exact ⟨i + 1, n', _, by go_num, by have := HIN.out; omega, HCN'⟩
              case measure => simp [intOf]; have := HIN.out; omega
            · have hob : (o.own == (q : Int)) = false := by simpa using hoq
              have HCN : Hid (CtS w0 b.objs l q gM n f (i + 1) wr) := Lib.hid ⟨HC.out.M, by have := HC.out.n; omega, fun c => by rw [cD_skip HO.out.1 HO.out.2 rfl hoq c]; exact HC.out.e c, HC.out.B⟩
              clear hoq
              go_wp2_with fail
              go_roundw
              case rel => exact ⟨i + 1, n, f, by go_num, by have := HIN.out; omega, HCN⟩
              case measure => simp [intOf]; have := HIN.out; omega
          · have hid : decide ((i : Int) < no) = false := by simp; omega
            have HCZ : Hid (∀ c, (f c).getD 0 = 0) := Lib.hid (fun c => by
              rw [HC.out.e]
              unfold cD
              have h1 : b.objs.take i = b.objs := List.take_of_length_le (by rw [HNO.out]; omega)
              have h2 : l.take i = l := List.take_of_length_le (by rw [HLN.out, HNO.out]; omega)
              rw [h1, h2]
              have := HCT.out (q : Int) c
              omega)
            clear hi
            go_wp2_with fail
            clear c3 c7
            go_loopw [12] (fun iv W => ∃ j : Nat, iv = .int .i64 j ∧ j ≤ no ∧ Hid (MapN W gM n f ∧ Below w0.heap.size w0 W)) (fun iv _ => no - (intOf iv).toNat)
            case atStart => exact ⟨0, rfl, Nat.zero_le _, Lib.hid ⟨HC.out.M, HC.out.B⟩⟩
            case round =>
              obtain ⟨j, rfl, hj, HJ⟩ := hrel
              clear HC HR37
              obtain ⟨c3, c7, r3, r7⟩ := HC0.out _ (HS.out.below HJ.out.2)
              by_cases hjn : j < no
              · have hjn' : (j : Int) < no := by omega
                obtain ⟨o, ho⟩ := get_of (l := b.objs) (k := j) (by rw [HNO.out]; exact hjn)
                obtain ⟨ad, rfl, -, -, d1, -⟩ := obj_at r3 ho hjn
                have hg1 := HJ.out.1.get (x := o.card) ((obOk_wf (HV.out.2.2.2.2.2.1.2.1 o (List.mem_of_getElem? ho)).1) _ (by simp [obN]))
                rw [HCZ.out] at hg1
                clear r3 r7 ho
                go_wp2_with fail
                go_roundw
                case rel => exact ⟨j + 1, by go_num, by omega, HJ⟩
                case measure => simp [intOf]; omega
              · have hjd : decide ((j : Int) < no) = false := by simp; omega
                have HSN := Lib.hid (HS.out.below HJ.out.2)
                clear r3 r7 hj
                go_wp2_with fail
                go_roundw
                case rel => exact ⟨q + 1, by go_num, by have := HQ2.out; omega, HSN⟩
                case measure => simp [intOf]; have := HQ2.out; omega
      · have hqd : decide ((q : Int) < 2) = false := by simp; omega
        clear hq hq2
        go_wp2_with fail
        refine (known_any wr).mono ?_
        rintro e w8 ⟨rfl, hb8⟩
        have HB8 := Lib.hid (below_call HS.out.bel hb8 HS.out.bel.size)
        clear hb8
        go_wp2_with fail
        go_ret
        exact ⟨rfl, HB8.out⟩
end Go.Proofs.YtagpphelgghbpaaGreat
