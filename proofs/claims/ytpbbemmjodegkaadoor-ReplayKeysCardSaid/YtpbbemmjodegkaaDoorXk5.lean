/-
  Texts: Kd.
-/
import Derived.Test.YtpbbemmjodegkaaDoorXk4
set_option linter.unusedSimpArgs false
set_option linter.unusedVariables false
namespace Go.Proofs.YtpbbemmjodegkaaDoor
open Go.RowKit

theorem nil_ne (w : World) : (binOp .neq 137 .nilIface .nilIface).run Tryd.prog w = .ok (.bool false) w := by kernel_rfl
theorem ne_bare (A : Option Addr) (k c : Nat) (w : World) : (binOp .neq 137 (.iface 146 (.slice A k c)) .nilIface).run Tryd.prog w = .ok (.bool true) w := by kernel_rfl
theorem mt_bare (A : Option Addr) (k c : Nat) (w : World) : (method 281 146 (.slice A k c) "zeitnot/effect.fits").run Tryd.prog w = .ok (103, .slice A k c) w := by kernel_rfl
theorem ne_cnt (A : Option Addr) (k c : Nat) (x : Int) (w : World) : (binOp .neq 137 (.iface 149 (.agg #[.slice A k c, .int .i64 x])) .nilIface).run Tryd.prog w = .ok (.bool true) w := by kernel_rfl
theorem mt_cnt (A : Option Addr) (k c : Nat) (x : Int) (w : World) : (method 281 149 (.agg #[.slice A k c, .int .i64 x]) "zeitnot/effect.fits").run Tryd.prog w = .ok (106, .agg #[.slice A k c, .int .i64 x]) w := by kernel_rfl
theorem ne_pair (A : Option Addr) (k c : Nat) (x : Int) (w : World) : (binOp .neq 137 (.iface 151 (.agg #[.slice A k c, .int .i64 x])) .nilIface).run Tryd.prog w = .ok (.bool true) w := by kernel_rfl
theorem mt_pair (A : Option Addr) (k c : Nat) (x : Int) (w : World) : (method 281 151 (.agg #[.slice A k c, .int .i64 x]) "zeitnot/effect.fits").run Tryd.prog w = .ok (109, .agg #[.slice A k c, .int .i64 x]) w := by kernel_rfl
theorem ne_col (A : Option Addr) (k c : Nat) (x : Int) (w : World) : (binOp .neq 137 (.iface 153 (.agg #[.slice A k c, .int .i64 x])) .nilIface).run Tryd.prog w = .ok (.bool true) w := by kernel_rfl
theorem mt_col (A : Option Addr) (k c : Nat) (x : Int) (w : World) : (method 281 153 (.agg #[.slice A k c, .int .i64 x]) "zeitnot/effect.fits").run Tryd.prog w = .ok (110, .agg #[.slice A k c, .int .i64 x]) w := by kernel_rfl
def Rule.good : Rule → Prop
  | .none => True
  | .bare ts => ts.length ≤ 5
  | .cnt ts most => ts.length ≤ 5 ∧ 0 ≤ most
  | .pair ts least => ts.length ≤ 5 ∧ 0 ≤ least
  | .col ts most => ts.length ≤ 5 ∧ 0 ≤ most
theorem good_of (c : Int) : (ofS c).good := by
  unfold ofS
  repeat' split
  all_goals simp [Rule.good]
def fitsOK : Rule → Ef → Prop
  | .none, e => True
  | .bare ts, e => ∀ A c W, Reads W 1 A ts.length (ics ts) → Calls Tryd.prog 103 #[.slice A ts.length c, .agg e.cells.toArray] W (BE (bareOk ts e) W)
  | .cnt ts most, e => ∀ A c W, Reads W 1 A ts.length (ics ts) → Calls Tryd.prog 106 #[.agg #[.slice A ts.length c, .int .i64 most], .agg e.cells.toArray] W (BE (cntOk ts most e) W)
  | .pair ts least, e => ∀ A c W, Reads W 1 A ts.length (ics ts) → Calls Tryd.prog 109 #[.agg #[.slice A ts.length c, .int .i64 least], .agg e.cells.toArray] W (BE (pairOk ts least e) W)
  | .col ts most, e => ∀ A c W, Reads W 1 A ts.length (ics ts) → Calls Tryd.prog 110 #[.agg #[.slice A ts.length c, .int .i64 most], .agg e.cells.toArray] W (BE (colOk ts most e) W)
set_option maxHeartbeats 3200000 in
theorem ev_any (e : Ef) (w : World) : Calls Tryd.prog 55 #[.agg e.cells.toArray] w (BE (efOk e) w) := by
  have HO : Hid (∀ W, Calls Tryd.prog 70 #[.int .i64 e.code] W (OfEnd (ofS e.code) W)) := Lib.hid (fun W => of_any e.code W)
  have hg := good_of e.code
  unfold efOk
  obtain ⟨r, hr⟩ : ∃ r, ofS e.code = r := ⟨_, rfl⟩
  rw [hr] at HO hg ⊢
  clear hr
  have HX : Hid (fitsOK r e) := Lib.hid (by
    cases r with
    | none => trivial
    | bare ts => exact fun A c W h => bare_any ts e A c W h (by simp [Rule.good] at hg; omega)
    | cnt ts most => exact fun A c W h => cnt_any ts most e A c W h (by simp [Rule.good] at hg; omega) hg.2
    | pair ts least => exact fun A c W h => pair_any ts least e A c W h (by simp [Rule.good] at hg; omega) hg.2
    | col ts most => exact fun A c W h => col_any ts most e A c W h (by simp [Rule.good] at hg; omega) hg.2)
  clear hg
  obtain ⟨code, tgt, n, m, col⟩ := e
  simp only [Ef.cells] at HO ⊢
  obtain ⟨w0, hw0⟩ : ∃ w0, w.alloc (.cells #[.int .i64 code, .int .i64 tgt, .int .i64 n, .int .i64 m, .int .i64 col] 106) = w0 := ⟨_, rfl⟩
  have HAL : Hid (Below w.heap.size w w0) := Lib.hid (hw0 ▸ (Below.refl _ _).alloc (Nat.le_refl _) _)
  have HBX : Hid (Blk w0 w.heap.size 106 #[.int .i64 code, .int .i64 tgt, .int .i64 n, .int .i64 m, .int .i64 col]) := Lib.hid (hw0 ▸ Blk.mk_ _ _ _ _ rfl)
  have b0 : w0.cell? ⟨w.heap.size, 0, none⟩ = some (.int .i64 code) := (HBX.out.at_ 0).trans rfl
  cases r with
  | none =>
    have hne := nil_ne
    go_enter Tryd.func55, Tryd.ntmps55
    go_wp2_with fail
    refine (HO.out _).mono ?_
    rintro e w1 ⟨rfl, hb1⟩
    have HB1 := Lib.hid (below_call HAL.out hb1 HAL.out.size)
    clear hb1
    go_wp2
    go_ret
    exact ⟨rfl, HB1.out⟩
  | bare ts =>
    have hne := ne_bare
    have hmt := mt_bare
    obtain ⟨d, hd⟩ : ∃ d, Rule.ok (.bare ts) ⟨code, tgt, n, m, col⟩ = d := ⟨_, rfl⟩
    rw [hd]
    have HXX := HX.out
    simp only [fitsOK, Ef.cells] at HXX
    simp only [show Rule.ok (.bare ts) ⟨code, tgt, n, m, col⟩ = bareOk ts ⟨code, tgt, n, m, col⟩ from rfl] at hd
    simp only [hd] at HXX
    have HX2 := Lib.hid HXX
    clear HXX HX hd
    go_enter Tryd.func55, Tryd.ntmps55
    go_wp2_with fail
    refine (HO.out _).mono ?_
    rintro e w1 ⟨A, c, rfl, hr1, hb1⟩
    have HB1 := Lib.hid (below_call HAL.out hb1 HAL.out.size)
    have HBX1 := HBX.out.call hb1
    have HQ := Lib.hid (HX2.out A c w1 hr1)
    clear b0
    have c0 := HBX1.at_ 0
    have c1 := HBX1.at_ 1
    have c2 := HBX1.at_ 2
    have c3 := HBX1.at_ 3
    have c4 := HBX1.at_ 4
    simp at c0 c1 c2 c3 c4
    clear hb1 hr1 HBX1
    go_wp2_with fail
    refine HQ.out.mono ?_
    rintro e w2 ⟨rfl, hb2⟩
    have HB2 := Lib.hid (below_call HB1.out hb2 HB1.out.size)
    clear hb2
    go_wp2
    go_ret
    exact ⟨rfl, HB2.out⟩
  | cnt ts most =>
    have hne := ne_cnt
    have hmt := mt_cnt
    obtain ⟨d, hd⟩ : ∃ d, Rule.ok (.cnt ts most) ⟨code, tgt, n, m, col⟩ = d := ⟨_, rfl⟩
    rw [hd]
    have HXX := HX.out
    simp only [fitsOK, Ef.cells] at HXX
    simp only [show Rule.ok (.cnt ts most) ⟨code, tgt, n, m, col⟩ = cntOk ts most ⟨code, tgt, n, m, col⟩ from rfl] at hd
    simp only [hd] at HXX
    have HX2 := Lib.hid HXX
    clear HXX HX hd
    go_enter Tryd.func55, Tryd.ntmps55
    go_wp2_with fail
    refine (HO.out _).mono ?_
    rintro e w1 ⟨A, c, rfl, hr1, hb1⟩
    have HB1 := Lib.hid (below_call HAL.out hb1 HAL.out.size)
    have HBX1 := HBX.out.call hb1
    have HQ := Lib.hid (HX2.out A c w1 hr1)
    clear b0
    have c0 := HBX1.at_ 0
    have c1 := HBX1.at_ 1
    have c2 := HBX1.at_ 2
    have c3 := HBX1.at_ 3
    have c4 := HBX1.at_ 4
    simp at c0 c1 c2 c3 c4
    clear hb1 hr1 HBX1
    go_wp2_with fail
    refine HQ.out.mono ?_
    rintro e w2 ⟨rfl, hb2⟩
    have HB2 := Lib.hid (below_call HB1.out hb2 HB1.out.size)
    clear hb2
    go_wp2
    go_ret
    exact ⟨rfl, HB2.out⟩
  | pair ts least =>
    have hne := ne_pair
    have hmt := mt_pair
    obtain ⟨d, hd⟩ : ∃ d, Rule.ok (.pair ts least) ⟨code, tgt, n, m, col⟩ = d := ⟨_, rfl⟩
    rw [hd]
    have HXX := HX.out
    simp only [fitsOK, Ef.cells] at HXX
    simp only [show Rule.ok (.pair ts least) ⟨code, tgt, n, m, col⟩ = pairOk ts least ⟨code, tgt, n, m, col⟩ from rfl] at hd
    simp only [hd] at HXX
    have HX2 := Lib.hid HXX
    clear HXX HX hd
    go_enter Tryd.func55, Tryd.ntmps55
    go_wp2_with fail
    refine (HO.out _).mono ?_
    rintro e w1 ⟨A, c, rfl, hr1, hb1⟩
    have HB1 := Lib.hid (below_call HAL.out hb1 HAL.out.size)
    have HBX1 := HBX.out.call hb1
    have HQ := Lib.hid (HX2.out A c w1 hr1)
    clear b0
    have c0 := HBX1.at_ 0
    have c1 := HBX1.at_ 1
    have c2 := HBX1.at_ 2
    have c3 := HBX1.at_ 3
    have c4 := HBX1.at_ 4
    simp at c0 c1 c2 c3 c4
    clear hb1 hr1 HBX1
    go_wp2_with fail
    refine HQ.out.mono ?_
    rintro e w2 ⟨rfl, hb2⟩
    have HB2 := Lib.hid (below_call HB1.out hb2 HB1.out.size)
    clear hb2
    go_wp2
    go_ret
    exact ⟨rfl, HB2.out⟩
  | col ts most =>
    have hne := ne_col
    have hmt := mt_col
    obtain ⟨d, hd⟩ : ∃ d, Rule.ok (.col ts most) ⟨code, tgt, n, m, col⟩ = d := ⟨_, rfl⟩
    rw [hd]
    have HXX := HX.out
    simp only [fitsOK, Ef.cells] at HXX
    simp only [show Rule.ok (.col ts most) ⟨code, tgt, n, m, col⟩ = colOk ts most ⟨code, tgt, n, m, col⟩ from rfl] at hd
    simp only [hd] at HXX
    have HX2 := Lib.hid HXX
    clear HXX HX hd
    go_enter Tryd.func55, Tryd.ntmps55
    go_wp2_with fail
    refine (HO.out _).mono ?_
    rintro e w1 ⟨A, c, rfl, hr1, hb1⟩
    have HB1 := Lib.hid (below_call HAL.out hb1 HAL.out.size)
    have HBX1 := HBX.out.call hb1
    have HQ := Lib.hid (HX2.out A c w1 hr1)
    clear b0
    have c0 := HBX1.at_ 0
    have c1 := HBX1.at_ 1
    have c2 := HBX1.at_ 2
    have c3 := HBX1.at_ 3
    have c4 := HBX1.at_ 4
    simp at c0 c1 c2 c3 c4
    clear hb1 hr1 HBX1
    go_wp2_with fail
    refine HQ.out.mono ?_
    rintro e w2 ⟨rfl, hb2⟩
    have HB2 := Lib.hid (below_call HB1.out hb2 HB1.out.size)
    clear hb2
    go_wp2
    go_ret
    exact ⟨rfl, HB2.out⟩
def evN (x : Ef) : Bool := !efOk x
theorem evn_any (e : Ef) (w : World) : Calls Tryd.prog 54 #[.agg e.cells.toArray] w (BE (evN e) w) := by
  unfold evN
  have HX : Hid (∀ W, Calls Tryd.prog 55 #[.agg e.cells.toArray] W (BE (efOk e) W)) := Lib.hid (fun W => ev_any e W)
  obtain ⟨d, hd⟩ : ∃ d, efOk e = d := ⟨_, rfl⟩
  rw [hd] at HX ⊢
  clear hd
  obtain ⟨code, tgt, n, m, col⟩ := e
  simp only [Ef.cells] at HX ⊢
  have HAL : Hid (Below w.heap.size w (w.alloc (.cells #[.int .i64 code, .int .i64 tgt, .int .i64 n, .int .i64 m, .int .i64 col] 106))) := Lib.hid ((Below.refl _ _).alloc (Nat.le_refl _) _)
  go_enter Tryd.func54, Tryd.ntmps54
  go_wp2_with fail
  refine (HX.out _).mono ?_
  rintro e w1 ⟨rfl, hb1⟩
  have HB1 := Lib.hid (below_call HAL.out hb1 HAL.out.size)
  clear hb1
  go_wp2
  go_ret
  exact ⟨rfl, HB1.out⟩
set_option maxHeartbeats 1600000 in
theorem idx_ev (s : Sl) (l : List Ef) (w : World) (h : EsR w s l) : Calls Tryd.prog 60 #[s.v l.length, .func (.func 54) #[] #[]] w fun e w' => ∃ i : Int, e = .returned (.int .i64 i) ∧ decide (0 ≤ i) = l.any evN ∧ Below w.heap.size w w' := by
  obtain ⟨A, c⟩ := s
  obtain ⟨len, hlen⟩ : ∃ n, l.length = n := ⟨_, rfl⟩
  have HL := Lib.hid hlen
  have h9 : len ≤ 9223372036854775807 := by have := h.ok; unfold Sl.ok at this; omega
  have HX := Lib.hid h
  simp only [Sl.v]
  rw [hlen]
  clear h hlen
  go_enter Tryd.func60, Tryd.ntmps60
  go_wp2
  go_loopw [8] (fun i W => ∃ k : Nat, k ≤ len ∧ i = .int .i64 k ∧ Hid (∀ j y, j < k → l[j]? = some y → evN y = false) ∧ Hid (Below w.heap.size w W)) (fun i _ => len - (intOf i).toNat)
  case atStart => exact ⟨0, Nat.zero_le _, rfl, Lib.hid (fun q y h => absurd h (by omega)), Lib.hid (Below.refl _ _)⟩
  case round =>
    obtain ⟨k, hk, rfl, HE, HB⟩ := hrel
    by_cases hlt : k < len
    · have hlt' : (k : Int) < len := by omega
      obtain ⟨e, he⟩ := get_of (l := l) (k := k) (by rw [HL.out]; exact hlt)
      have HG := Lib.hid he
      obtain ⟨ad, e9, -, c0, c1, c2, c3, c4⟩ := (HX.out.below HB.out).at_ he (by rw [HL.out]; exact hlt)
      simp only at e9
      subst e9
      have HQ := Lib.hid (evn_any e wr)
      obtain ⟨d, hd⟩ : ∃ d, evN e = d := ⟨_, rfl⟩
      rw [hd] at HQ
      have HD := Lib.hid hd
      obtain ⟨code, tgt, n, m, col⟩ := e
      simp only [Ef.cells] at HQ
      clear hd he
      cases d with
      | true =>
        go_wp2_with fail
        refine HQ.out.mono ?_
        rintro e w1 ⟨rfl, hb1⟩
        have HB1 := Lib.hid (below_call HB.out hb1 HB.out.size)
        clear hb1 c0 c1 c2 c3 c4
        go_wp2
        go_ret
        exact ⟨k, rfl, by rw [show l.any evN = true from List.any_eq_true.2 ⟨_, List.mem_of_getElem? HG.out, HD.out⟩]; simp, HB1.out⟩
      | false =>
        have HEE : Hid (∀ j y, j < k + 1 → l[j]? = some y → evN y = false) := Lib.hid (fun j z hq hg => by
          rcases Nat.lt_or_ge j k with h | h
          · exact HE.out j z h hg
          · obtain rfl : j = k := by omega
            rw [HG.out] at hg
            rw [← Option.some.inj hg]
            exact HD.out)
        go_wp2_with fail
        refine HQ.out.mono ?_
        rintro e w1 ⟨rfl, hb1⟩
        have HB1 := Lib.hid (below_call HB.out hb1 HB.out.size)
        clear hb1 c0 c1 c2 c3 c4
        go_wp2
        go_roundw
        case rel => exact ⟨k + 1, hlt, by go_num, HEE, HB1⟩
        case measure => simp [intOf]; omega
    · obtain rfl : k = len := by omega
      have HA : Hid (l.any evN = false) := Lib.hid (by
        rw [Bool.eq_false_iff]
        intro h
        obtain ⟨x, hx, h1⟩ := List.any_eq_true.1 h
        obtain ⟨q, hq, he⟩ := List.getElem_of_mem hx
        have := HE.out q x (by rw [HL.out] at hq; exact hq) (by rw [List.getElem?_eq_getElem hq, he])
        rw [this] at h1
        cases h1)
      go_wp2
      go_ret
      exact ⟨-1, rfl, by rw [HA.out]; rfl, HB.out⟩
theorem any_ev (s : Sl) (l : List Ef) (w : World) (h : EsR w s l) : Calls Tryd.prog 43 #[s.v l.length, .func (.func 54) #[] #[]] w (BE (l.any evN) w) := by
  have HC := Lib.hid (idx_ev s l w h)
  obtain ⟨A, c⟩ := s
  simp only [Sl.v] at HC ⊢
  obtain ⟨d, hd⟩ : ∃ d, l.any evN = d := ⟨_, rfl⟩
  rw [hd] at HC ⊢
  obtain ⟨len, hlen⟩ : ∃ n, l.length = n := ⟨_, rfl⟩
  rw [hlen] at HC ⊢
  clear hd h hlen
  go_enter Tryd.func43, Tryd.ntmps43
  go_wp2_with fail
  refine HC.out.mono ?_
  rintro e w1 ⟨i, rfl, hib, hb⟩
  go_wp2
  go_ret
  exact ⟨rfl, hb⟩
theorem itself_any (e : Ef) (w : World) : Calls Tryd.prog 44 #[.agg e.cells.toArray] w (BE (itS e) w) := by
  obtain ⟨code, tgt, n, m, col⟩ := e
  have hv : itS ⟨code, tgt, n, m, col⟩ = ((tgt == 0) && ((code == 8) || (code == 9))) := rfl
  rw [hv]
  simp only [Ef.cells]
  have HAL : Hid (Below w.heap.size w (w.alloc (.cells #[.int .i64 code, .int .i64 tgt, .int .i64 n, .int .i64 m, .int .i64 col] 106))) := Lib.hid ((Below.refl _ _).alloc (Nat.le_refl _) _)
  obtain ⟨d0, h0⟩ : ∃ d, (tgt == 0) = d := ⟨_, rfl⟩
  obtain ⟨d1, h1⟩ : ∃ d, (code == 8) = d := ⟨_, rfl⟩
  obtain ⟨d2, h2⟩ : ∃ d, (code == 9) = d := ⟨_, rfl⟩
  rw [h0, h1, h2]
  clear hv
  cases d0 <;> cases d1 <;> cases d2
  all_goals (
    go_enter Tryd.func44, Tryd.ntmps44
    go_wp2
    go_ret
    exact ⟨rfl, HAL.out⟩)
set_option maxHeartbeats 1600000 in
theorem idx_it (s : Sl) (l : List Ef) (w : World) (h : EsR w s l) : Calls Tryd.prog 60 #[s.v l.length, .func (.func 44) #[] #[]] w fun e w' => ∃ i : Int, e = .returned (.int .i64 i) ∧ decide (0 ≤ i) = l.any itS ∧ Below w.heap.size w w' := by
  obtain ⟨A, c⟩ := s
  obtain ⟨len, hlen⟩ : ∃ n, l.length = n := ⟨_, rfl⟩
  have HL := Lib.hid hlen
  have h9 : len ≤ 9223372036854775807 := by have := h.ok; unfold Sl.ok at this; omega
  have HX := Lib.hid h
  simp only [Sl.v]
  rw [hlen]
  clear h hlen
  go_enter Tryd.func60, Tryd.ntmps60
  go_wp2
  go_loopw [8] (fun i W => ∃ k : Nat, k ≤ len ∧ i = .int .i64 k ∧ Hid (∀ j y, j < k → l[j]? = some y → itS y = false) ∧ Hid (Below w.heap.size w W)) (fun i _ => len - (intOf i).toNat)
  case atStart => exact ⟨0, Nat.zero_le _, rfl, Lib.hid (fun q y h => absurd h (by omega)), Lib.hid (Below.refl _ _)⟩
  case round =>
    obtain ⟨k, hk, rfl, HE, HB⟩ := hrel
    by_cases hlt : k < len
    · have hlt' : (k : Int) < len := by omega
      obtain ⟨e, he⟩ := get_of (l := l) (k := k) (by rw [HL.out]; exact hlt)
      have HG := Lib.hid he
      obtain ⟨ad, e9, -, c0, c1, c2, c3, c4⟩ := (HX.out.below HB.out).at_ he (by rw [HL.out]; exact hlt)
      simp only at e9
      subst e9
      have HQ := Lib.hid (itself_any e wr)
      obtain ⟨d, hd⟩ : ∃ d, itS e = d := ⟨_, rfl⟩
      rw [hd] at HQ
      have HD := Lib.hid hd
      obtain ⟨code, tgt, n, m, col⟩ := e
      simp only [Ef.cells] at HQ
      clear hd he
      cases d with
      | true =>
        go_wp2_with fail
        refine HQ.out.mono ?_
        rintro e w1 ⟨rfl, hb1⟩
        have HB1 := Lib.hid (below_call HB.out hb1 HB.out.size)
        clear hb1 c0 c1 c2 c3 c4
        go_wp2
        go_ret
        exact ⟨k, rfl, by rw [show l.any itS = true from List.any_eq_true.2 ⟨_, List.mem_of_getElem? HG.out, HD.out⟩]; simp, HB1.out⟩
      | false =>
        have HEE : Hid (∀ j y, j < k + 1 → l[j]? = some y → itS y = false) := Lib.hid (fun j z hq hg => by
          rcases Nat.lt_or_ge j k with h | h
          · exact HE.out j z h hg
          · obtain rfl : j = k := by omega
            rw [HG.out] at hg
            rw [← Option.some.inj hg]
            exact HD.out)
        go_wp2_with fail
        refine HQ.out.mono ?_
        rintro e w1 ⟨rfl, hb1⟩
        have HB1 := Lib.hid (below_call HB.out hb1 HB.out.size)
        clear hb1 c0 c1 c2 c3 c4
        go_wp2
        go_roundw
        case rel => exact ⟨k + 1, hlt, by go_num, HEE, HB1⟩
        case measure => simp [intOf]; omega
    · obtain rfl : k = len := by omega
      have HA : Hid (l.any itS = false) := Lib.hid (by
        rw [Bool.eq_false_iff]
        intro h
        obtain ⟨x, hx, h1⟩ := List.any_eq_true.1 h
        obtain ⟨q, hq, he⟩ := List.getElem_of_mem hx
        have := HE.out q x (by rw [HL.out] at hq; exact hq) (by rw [List.getElem?_eq_getElem hq, he])
        rw [this] at h1
        cases h1)
      go_wp2
      go_ret
      exact ⟨-1, rfl, by rw [HA.out]; rfl, HB.out⟩
theorem any_it (s : Sl) (l : List Ef) (w : World) (h : EsR w s l) : Calls Tryd.prog 43 #[s.v l.length, .func (.func 44) #[] #[]] w (BE (l.any itS) w) := by
  have HC := Lib.hid (idx_it s l w h)
  obtain ⟨A, c⟩ := s
  simp only [Sl.v] at HC ⊢
  obtain ⟨d, hd⟩ : ∃ d, l.any itS = d := ⟨_, rfl⟩
  rw [hd] at HC ⊢
  obtain ⟨len, hlen⟩ : ∃ n, l.length = n := ⟨_, rfl⟩
  rw [hlen] at HC ⊢
  clear hd h hlen
  go_enter Tryd.func43, Tryd.ntmps43
  go_wp2_with fail
  refine HC.out.mono ?_
  rintro e w1 ⟨i, rfl, hib, hb⟩
  go_wp2
  go_ret
  exact ⟨rfl, hb⟩
theorem efsOk_eq (l : List Ef) : efsOk l = (decide (l.length ≤ 4) && !(l.any evN)) := by
  unfold efsOk
  congr 1
  rw [List.all_eq_not_any_not]
  rfl
theorem all_any (s : Sl) (l : List Ef) (w : World) (h : EsR w s l) : Calls Tryd.prog 39 #[s.v l.length] w (BE (efsOk l) w) := by
  have HC := Lib.hid (any_ev s l w h)
  rw [efsOk_eq]
  obtain ⟨A, c⟩ := s
  simp only [Sl.v] at HC ⊢
  obtain ⟨d, hd⟩ : ∃ d, l.any evN = d := ⟨_, rfl⟩
  rw [hd] at HC ⊢
  obtain ⟨len, hlen⟩ : ∃ n, l.length = n := ⟨_, rfl⟩
  rw [hlen] at HC ⊢
  clear hd h hlen
  by_cases h4 : len ≤ 4
  · have h4' : (len : Int) ≤ 4 := by omega
    rw [decide_eq_true h4]
    clear h4
    go_enter Tryd.func39, Tryd.ntmps39
    go_wp2_with fail
    refine HC.out.mono ?_
    rintro e w1 ⟨rfl, hb⟩
    go_wp2
    go_ret
    exact ⟨rfl, hb⟩
  · have h4' : decide ((len : Int) ≤ 4) = false := decide_eq_false (by omega)
    rw [decide_eq_false h4]
    clear h4
    go_enter Tryd.func39, Tryd.ntmps39
    go_wp2
    go_ret
    exact ⟨rfl, Below.refl _ _⟩
def tgN (l : List Ef) : Nat := (l.filter fun x => x.tgt != 0).length
theorem tgN_snoc {l : List Ef} {k : Nat} {e : Ef} (h : l[k]? = some e) : tgN (l.take (k + 1)) = tgN (l.take k) + if e.tgt = 0 then 0 else 1 := by
  have hk : k < l.length := (List.getElem?_eq_some_iff.1 h).1
  rw [List.take_succ_eq_append_getElem hk]
  rw [List.getElem?_eq_getElem hk] at h
  rw [Option.some.inj h]
  unfold tgN
  rw [List.filter_append, List.length_append]
  congr 1
  by_cases h0 : e.tgt = 0 <;> simp [h0]
set_option maxHeartbeats 1600000 in
theorem targets_any (s : Sl) (l : List Ef) (w : World) (h : EsR w s l) : Calls Tryd.prog 71 #[s.v l.length] w fun e w' => e = .returned (.int .i64 (tgN l)) ∧ Below w.heap.size w w' := by
  obtain ⟨A, c⟩ := s
  obtain ⟨len, hlen⟩ : ∃ n, l.length = n := ⟨_, rfl⟩
  have HL := Lib.hid hlen
  have h9 : len ≤ 9223372036854775807 := by have := h.ok; unfold Sl.ok at this; omega
  have HX := Lib.hid h
  simp only [Sl.v]
  rw [hlen]
  clear h hlen
  go_enter Tryd.func71, Tryd.ntmps71
  go_wp2
  go_loopw [3, 8] (fun n i W => ∃ (k m : Nat), k ≤ len ∧ i = .int .i64 k ∧ n = .int .i64 m ∧ m ≤ k ∧ Hid (tgN (l.take k) = m) ∧ Hid (Below w.heap.size w W)) (fun _ i _ => len - (intOf i).toNat)
  case atStart => exact ⟨0, 0, Nat.zero_le _, rfl, rfl, Nat.le_refl _, Lib.hid rfl, Lib.hid (Below.refl _ _)⟩
  case round =>
    obtain ⟨k, m, hk, rfl, rfl, hmk, HM, HB⟩ := hrel
    by_cases hlt : k < len
    · have hlt' : (k : Int) < len := by omega
      obtain ⟨e, he⟩ := get_of (l := l) (k := k) (by rw [HL.out]; exact hlt)
      have HS := Lib.hid (tgN_snoc he)
      obtain ⟨ad, e9, -, c0, c1, c2, c3, c4⟩ := (HX.out.below HB.out).at_ he (by rw [HL.out]; exact hlt)
      simp only at e9
      subst e9
      obtain ⟨code, tgt, n, m2, col⟩ := e
      simp only at HS c0 c1 c2 c3 c4
      have HBA : Hid (∀ o, Below w.heap.size w (wr.alloc o)) := Lib.hid (fun o => HB.out.alloc HB.out.size _)
      clear he
      by_cases h0 : tgt = 0
      · have h0' : (tgt == 0) = true := by simpa using h0
        have HM2 : Hid (tgN (l.take (k + 1)) = m) := Lib.hid (by rw [HS.out, HM.out, if_pos h0]; rfl)
        clear h0
        go_wp2
        go_roundw
        case rel => exact ⟨k + 1, m, hlt, by go_num, rfl, by omega, HM2, Lib.hid (HBA.out _)⟩
        case measure => simp [intOf]; omega
      · have h0' : (tgt == 0) = false := by simpa using h0
        have HM2 : Hid (tgN (l.take (k + 1)) = m + 1) := Lib.hid (by rw [HS.out, HM.out, if_neg h0])
        clear h0
        go_wp2
        go_roundw
        case rel => exact ⟨k + 1, m + 1, hlt, by go_num, by go_num, by omega, HM2, Lib.hid (HBA.out _)⟩
        case measure => simp [intOf]; omega
    · obtain rfl : k = len := by omega
      have HE : Hid (tgN l = m) := Lib.hid (by
        have := HM.out
        rwa [List.take_of_length_le (by rw [HL.out]; exact Nat.le_refl _)] at this)
      go_wp2
      go_ret
      exact ⟨by rw [HE.out]; rfl, HB.out⟩
theorem plain_any (s : Sl) (l : List Ef) (w : World) (h : EsR w s l) : Calls Tryd.prog 57 #[s.v l.length] w (BE (tgN l == 0) w) := by
  have HC := Lib.hid (targets_any s l w h)
  obtain ⟨A, c⟩ := s
  simp only [Sl.v] at HC ⊢
  obtain ⟨d, hd⟩ : ∃ d, tgN l = d := ⟨_, rfl⟩
  rw [hd] at HC ⊢
  obtain ⟨len, hlen⟩ : ∃ n, l.length = n := ⟨_, rfl⟩
  rw [hlen] at HC ⊢
  clear hd h hlen
  go_enter Tryd.func57, Tryd.ntmps57
  go_wp2_with fail
  refine HC.out.mono ?_
  rintro e w1 ⟨rfl, hb⟩
  go_wp2
  go_ret
  refine ⟨?_, hb⟩
  congr 1
  show Value.bool ((d : Int) == 0) = Value.bool (d == 0)
  congr 1
  rw [Bool.eq_iff_iff]
  simp
end Go.Proofs.YtpbbemmjodegkaaDoor
