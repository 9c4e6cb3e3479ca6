/-
  Texts: Ka, Later, Kb, AppOp.
-/
import Derived.Test.YtpbbemmjodegkaaDoorXk2
import Derived.Handy
import Derived.Test.YtpbbemmjodegkaaDoorXk1
import Derived.Deep.QuietTactic
import Derived.BigQuiet
set_option linter.unusedSimpArgs false
set_option linter.unusedVariables false
namespace Go.Proofs.YtpbbemmjodegkaaDoor
open Go.RowKit

/-! ### Plainly -/
def wnR (x lo hi : Int) : Bool := decide (lo ≤ x ∧ x ≤ hi)
def BE (v : Bool) (w : World) (e : Ending) (w' : World) : Prop := e = .returned (.bool v) ∧ Below w.heap.size w w'
def bareOk (ts : List Int) (e : Ef) : Bool := ts.contains e.tgt && (e.n == 0) && (e.m == 0) && (e.col == 0)
def cntOk (ts : List Int) (most : Int) (e : Ef) : Bool := wnR e.n 1 most && bareOk ts { e with n := 0 }
def pairOk (ts : List Int) (least : Int) (e : Ef) : Bool := wnR e.n 0 9 && wnR e.m least 9 && decide (0 < e.n + e.m) && bareOk ts { e with n := 0, m := 0 }
def colOk (ts : List Int) (most : Int) (e : Ef) : Bool := wnR e.col 0 3 && cntOk ts most { e with col := 0 }
inductive Rule where
  | none
  | bare (ts : List Int)
  | cnt (ts : List Int) (most : Int)
  | pair (ts : List Int) (least : Int)
  | col (ts : List Int) (most : Int)
def Rule.ok : Rule → Ef → Bool
  | .none, _ => false
  | .bare ts, e => bareOk ts e
  | .cnt ts most, e => cntOk ts most e
  | .pair ts least, e => pairOk ts least e
  | .col ts most, e => colOk ts most e
def ofS (c : Int) : Rule :=
  if c = 1 then .cnt [1, 2, 3, 4, 5] 99 else if c = 2 then .cnt [0, 4] 7 else if c = 3 ∨ c = 4 then .cnt [0, 4] 99 else if c = 5 ∨ c = 6 ∨ c = 11 then .bare [1, 2, 3] else if c = 7 then .bare [6]
  else if c = 8 then .pair [1, 2, 3, 0] 0 else if c = 9 then .cnt [1, 2, 3, 0] 9 else if c = 10 then .pair [0] 1 else if c = 12 then .col [0] 9 else .none
def efOk (e : Ef) : Bool := (ofS e.code).ok e
def efsOk (l : List Ef) : Bool := decide (l.length ≤ 4) && l.all efOk
def itS (e : Ef) : Bool := (e.tgt == 0) && (e.code == 8 || e.code == 9)

/-! ### Small ones -/
theorem cwithin (n lo hi : Int) (w : World) : Calls Tryd.prog 37 #[.int .i64 n, .int .i64 lo, .int .i64 hi] w fun e w' => e = .returned (.bool (wnR n lo hi)) ∧ w = w' := by
  obtain ⟨d, hd⟩ : ∃ d, wnR n lo hi = d := ⟨_, rfl⟩
  rw [hd]
  unfold wnR at hd
  by_cases h1 : lo ≤ n
  · by_cases h2 : n ≤ hi
    · have : d = true := by rw [← hd]; simp [h1, h2]
      subst this
      clear hd
      go_enter Tryd.func37, Tryd.ntmps37
      go_wp2
      go_ret
      exact ⟨rfl, rfl⟩
    · have : d = false := by rw [← hd]; simp [h2]
      subst this
      clear hd
      go_enter Tryd.func37, Tryd.ntmps37
      go_wp2
      go_ret
      exact ⟨rfl, rfl⟩
  · have : d = false := by rw [← hd]; simp [h1]
    subst this
    clear hd
    go_enter Tryd.func37, Tryd.ntmps37
    go_wp2
    go_ret
    exact ⟨rfl, rfl⟩
theorem clamp_any (n most : Int) (w : World) : Calls Tryd.prog 108 #[.int .i64 n, .int .i64 most] w fun e w' => e = .returned (.int .i64 (max 0 (min n most))) ∧ w = w' := by
  go_enter Tryd.func108, Tryd.ntmps108
  go_wp2
  all_goals (
    go_ret
    refine ⟨?_, rfl⟩
    simp
    try omega)
theorem ewithin (n lo hi : Int) (h0 : 0 ≤ lo) (h9 : 0 ≤ hi) (w : World) : Calls Tryd.prog 107 #[.int .i64 n, .int .i64 lo, .int .i64 hi] w fun e w' => e = .returned (.bool (wnR n lo hi)) ∧ w = w' := by
  obtain ⟨d, hd⟩ : ∃ d, wnR n lo hi = d := ⟨_, rfl⟩
  rw [hd]
  unfold wnR at hd
  have HC := Lib.hid (clamp_any n hi w)
  obtain ⟨m, hm⟩ : ∃ m, max 0 (min n hi) = m := ⟨_, rfl⟩
  rw [hm] at HC
  by_cases h1 : lo ≤ n
  · by_cases h2 : n ≤ hi
    · have : d = true := by rw [← hd]; simp [h1, h2]
      subst this
      have hmn : (m == n) = true := by rw [beq_iff_eq]; omega
      clear hd hm h9 h0 h2
      go_enter Tryd.func107, Tryd.ntmps107
      go_wp2_with (first | (go_at_call 108; refine HC.out.mono ?_; rintro e w1 ⟨rfl, rfl⟩) | fail)
      go_ret
      exact ⟨rfl, rfl⟩
    · have : d = false := by rw [← hd]; simp [h2]
      subst this
      have hmn : (m == n) = false := by rw [beq_eq_false_iff_ne]; omega
      clear hd hm h9 h0 h2
      go_enter Tryd.func107, Tryd.ntmps107
      go_wp2_with (first | (go_at_call 108; refine HC.out.mono ?_; rintro e w1 ⟨rfl, rfl⟩) | fail)
      go_ret
      exact ⟨rfl, rfl⟩
  · have : d = false := by rw [← hd]; simp [h1]
    subst this
    clear hd hm h9 h0
    go_enter Tryd.func107, Tryd.ntmps107
    go_wp2
    go_ret
    exact ⟨rfl, rfl⟩
set_option maxHeartbeats 800000 in
theorem idxK_any (A : Option Addr) (len c : Nat) (l : List Int) (x : Int) (w : World) (hx : Reads w 1 A len (ics l)) (hlen : len ≤ 9223372036854775807) :
    Calls Tryd.prog 105 #[.slice A len c, .int .i64 x] w fun e w' => ∃ i : Int, e = .returned (.int .i64 i) ∧ decide (0 ≤ i) = l.contains x ∧ w = w' := by
  have HX := Lib.hid hx
  have HL := Lib.hid (ilen hx)
  clear hx
  go_enter Tryd.func105, Tryd.ntmps105
  go_wp2
  go_loopw [8] (fun i W => ∃ k : Nat, k ≤ len ∧ i = .int .i64 k ∧ Hid (∀ j y, j < k → l[j]? = some y → y ≠ x) ∧ W = w) (fun i _ => len - (intOf i).toNat)
  case atStart => exact ⟨0, Nat.zero_le _, rfl, Lib.hid (fun q y h => absurd h (by omega)), rfl⟩
  case round =>
    obtain ⟨k, hk, rfl, HE, rfl⟩ := hrel
    by_cases hlt : k < len
    · obtain ⟨ad, rfl, -, c0⟩ := int_at HX.out hlt
      have hlt' : (k : Int) < len := by omega
      have HG := Lib.hid (ith_get (xs := l) (k := k) (by rw [HL.out]; exact hlt))
      generalize ith l k = y at *
      by_cases hy : x = y
      · have hyb : (x == y) = true := by rw [beq_iff_eq]; exact hy
        have HA : Hid (l.contains x = true) := Lib.hid (by rw [List.contains_iff_mem, hy]; exact List.mem_of_getElem? HG.out)
        clear hy
        go_wp2
        go_ret
        exact ⟨k, rfl, by rw [HA.out]; simp, rfl⟩
      · have hyb : (x == y) = false := by rw [beq_eq_false_iff_ne]; exact hy
        have HEE : Hid (∀ j y, j < k + 1 → l[j]? = some y → y ≠ x) := Lib.hid (fun j z hq hg => by
          rcases Nat.lt_or_ge j k with h | h
          · exact HE.out j z h hg
          · obtain rfl : j = k := by omega
            rw [HG.out] at hg
            rw [← Option.some.inj hg]
            exact fun e => hy e.symm)
        clear hy
        go_wp2
        go_roundw
        case rel => exact ⟨k + 1, hlt, by go_num, HEE, by first | rfl | trivial⟩
        case measure => simp [intOf]; omega
    · obtain rfl : k = len := by omega
      have HA : Hid (l.contains x = false) := Lib.hid (by
        rw [Bool.eq_false_iff]
        intro h
        rw [List.contains_iff_mem] at h
        obtain ⟨q, hq, he⟩ := List.getElem_of_mem h
        exact HE.out q x (by rw [HL.out] at hq; exact hq) (by rw [List.getElem?_eq_getElem hq, he]) rfl)
      go_wp2
      go_ret
      exact ⟨-1, rfl, by rw [HA.out]; rfl, rfl⟩
theorem conK_any (A : Option Addr) (len c : Nat) (l : List Int) (x : Int) (w : World) (hx : Reads w 1 A len (ics l)) (hlen : len ≤ 9223372036854775807) :
    Calls Tryd.prog 104 #[.slice A len c, .int .i64 x] w fun e w' => e = .returned (.bool (l.contains x)) ∧ w = w' := by
  have HC := Lib.hid (idxK_any A len c l x w hx hlen)
  clear hx
  obtain ⟨d, hd⟩ : ∃ d, l.contains x = d := ⟨_, rfl⟩
  rw [hd] at HC ⊢
  clear hd
  go_enter Tryd.func104, Tryd.ntmps104
  go_wp2_with fail
  refine HC.out.mono ?_
  rintro e w1 ⟨i, rfl, hib, rfl⟩
  go_wp2
  go_ret
  exact ⟨rfl, rfl⟩

structure Later (B : Nat) (w0 : World) where
  W : World
  h : Below B w0 W

instance {B : Nat} {w0 : World} : Nonempty (Later B w0) := ⟨⟨w0, Below.refl _ _⟩⟩

theorem wp_region_later {P : Program} {id : Nat} {Q : Exit → Act → World → Prop} {a : Act} {w : World} {l : List Oper} {B : Nat} {w0 : World} (h0 : Below B w0 w) (hm : P.follows .mixedOrders = true) (hB : Region.lexB .any l.toArray = true)
    (h : wpQuiet P l.toArray (fun w' => ∃ s : Later B w0, w' = s.W) (fun a' => ∀ w', (∃ s : Later B w0, w' = s.W) → Q .normal a' w') l a) : (Code.region id l.toArray true).wp P Q a w :=
  wp_region_quiet (C := fun w' => ∃ s : Later B w0, w' = s.W) hm hB ⟨⟨_, h0.drew⟩, rfl⟩ (by simpa using h)

section
variable {P : Program} {f : FuncId} {args : Array Value} {B : Nat} {w0 : World} {s : Later B w0} {v : Value}
theorem Calls.later (hB : B ≤ w0.heap.size) (h : Calls P f args s.W fun e w' => e = .returned v ∧ Below s.W.heap.size s.W w') : Calls P f args s.W fun e w' => e = .returned v ∧ ∃ s' : Later B w0, w' = s'.W :=
  h.mono fun _ w' ⟨he, hb⟩ => ⟨he, ⟨w', below_call s.h hb (Nat.le_trans hB s.h.size)⟩, rfl⟩
theorem Calls.later_same' (h : Calls P f args s.W fun e w' => e = .returned v ∧ w' = s.W) : Calls P f args s.W fun e w' => e = .returned v ∧ ∃ s' : Later B w0, w' = s'.W :=
  h.mono fun _ _ ⟨he, hb⟩ => ⟨he, s, hb⟩
end

set_option maxRecDepth 100000 in
set_option maxHeartbeats 1600000 in
theorem bare_any (ts : List Int) (e : Ef) (A : Option Addr) (c : Nat) (w : World) (hx : Reads w 1 A ts.length (ics ts)) (hlen : ts.length ≤ 9223372036854775807) :
    Calls Tryd.prog 103 #[.slice A ts.length c, .agg e.cells.toArray] w (BE (bareOk ts e) w) := by
  obtain ⟨code, tgt, n, m, col⟩ := e
  have hv : bareOk ts ⟨code, tgt, n, m, col⟩ = (ts.contains tgt && (n == 0) && (m == 0) && (col == 0)) := rfl
  have HC : Hid (∀ W, Below w.heap.size w W → Calls Tryd.prog 104 #[.slice A ts.length c, .int .i64 tgt] W fun e w' => e = .returned (.bool (ts.contains tgt)) ∧ W = w') := Lib.hid (fun W hb => conK_any A ts.length c ts tgt W (hx.below hb) hlen)
  rw [hv]
  simp only [Ef.cells]
  clear hv hx
  obtain ⟨k, hk⟩ : ∃ k, ts.length = k := ⟨_, rfl⟩
  rw [hk] at HC ⊢
  obtain ⟨d0, h0⟩ : ∃ d, ts.contains tgt = d := ⟨_, rfl⟩
  obtain ⟨d1, h1⟩ : ∃ d, (n == 0) = d := ⟨_, rfl⟩
  obtain ⟨d2, h2⟩ : ∃ d, (m == 0) = d := ⟨_, rfl⟩
  obtain ⟨d3, h3⟩ : ∃ d, (col == 0) = d := ⟨_, rfl⟩
  rw [h0, h1, h2, h3]
  rw [h0] at HC
  clear h0 hk hlen
  have HAL : Hid (Below w.heap.size w (w.alloc (.cells #[.int .i64 code, .int .i64 tgt, .int .i64 n, .int .i64 m, .int .i64 col] 106))) := Lib.hid ((Below.refl _ _).alloc (Nat.le_refl _) _)
  cases d0 with
  | false =>
    go_enter Tryd.func103, Tryd.ntmps103
    go_wp2_with (first | (go_at_call 104; refine (HC.out _ HAL.out).mono ?_; rintro e w1 ⟨rfl, rfl⟩) | fail)
    go_ret
    exact ⟨rfl, HAL.out⟩
  | true =>
    cases d1 with
    | false =>
      go_enter Tryd.func103, Tryd.ntmps103
      go_wp2_with (first | (go_at_call 104; refine (HC.out _ HAL.out).mono ?_; rintro e w1 ⟨rfl, rfl⟩) | fail)
      go_ret
      exact ⟨rfl, HAL.out⟩
    | true =>
      cases d2 with
      | false =>
        go_enter Tryd.func103, Tryd.ntmps103
        go_wp2_with (first | (go_at_call 104; refine (HC.out _ HAL.out).mono ?_; rintro e w1 ⟨rfl, rfl⟩) | fail)
        go_ret
        exact ⟨rfl, HAL.out⟩
      | true =>
        go_enter Tryd.func103, Tryd.ntmps103
        go_wp2_with (first | (go_at_call 104; refine (HC.out _ HAL.out).mono ?_; rintro e w1 ⟨rfl, rfl⟩) | fail)
        go_ret
        exact ⟨rfl, HAL.out⟩
set_option maxRecDepth 100000 in
set_option maxHeartbeats 1600000 in
theorem cnt_any (ts : List Int) (most : Int) (e : Ef) (A : Option Addr) (c : Nat) (w : World) (hx : Reads w 1 A ts.length (ics ts)) (hlen : ts.length ≤ 9223372036854775807) (h0 : 0 ≤ most) :
    Calls Tryd.prog 106 #[.agg #[.slice A ts.length c, .int .i64 most], .agg e.cells.toArray] w (BE (cntOk ts most e) w) := by
  obtain ⟨code, tgt, n, m, col⟩ := e
  have hv : cntOk ts most ⟨code, tgt, n, m, col⟩ = (wnR n 1 most && bareOk ts ⟨code, tgt, 0, m, col⟩) := rfl
  have HB : Hid (∀ W, Below w.heap.size w W → Calls Tryd.prog 103 #[.slice A ts.length c, .agg #[.int .i64 code, .int .i64 tgt, .int .i64 0, .int .i64 m, .int .i64 col]] W (BE (bareOk ts ⟨code, tgt, 0, m, col⟩) W)) := Lib.hid (fun W hb => bare_any ts ⟨code, tgt, 0, m, col⟩ A c W (hx.below hb) hlen)
  have HC : Hid (∀ W, Calls Tryd.prog 107 #[.int .i64 n, .int .i64 1, .int .i64 most] W fun e w' => e = .returned (.bool (wnR n 1 most)) ∧ W = w') := Lib.hid (fun W => ewithin n 1 most (by decide) h0 W)
  rw [hv]
  simp only [Ef.cells]
  clear hv hx h0
  obtain ⟨k, hk⟩ : ∃ k, ts.length = k := ⟨_, rfl⟩
  rw [hk] at HB ⊢
  obtain ⟨d0, h0⟩ : ∃ d, wnR n 1 most = d := ⟨_, rfl⟩
  obtain ⟨d1, h1⟩ : ∃ d, bareOk ts ⟨code, tgt, 0, m, col⟩ = d := ⟨_, rfl⟩
  rw [h0, h1]
  rw [h0] at HC
  rw [h1] at HB
  clear h0 h1 hk hlen
  have HAL : Hid (Below w.heap.size w ((w.alloc (.cells #[.slice A k c, .int .i64 most] 149)).alloc (.cells #[.int .i64 code, .int .i64 tgt, .int .i64 0, .int .i64 m, .int .i64 col] 106))) := Lib.hid (((Below.refl _ _).alloc (Nat.le_refl _) _).alloc (by simp) _)
  cases d0 with
  | false =>
    go_enter Tryd.func106, Tryd.ntmps106
    go_wp2_with (first
      | (go_at_call 107; refine (HC.out _).mono ?_; rintro e w1 ⟨rfl, rfl⟩)
      | fail)
    go_ret
    exact ⟨rfl, HAL.out⟩
  | true =>
    go_enter Tryd.func106, Tryd.ntmps106
    go_wp2_with (first
      | (go_at_call 107; refine (HC.out _).mono ?_; rintro e w1 ⟨rfl, rfl⟩)
      | fail)
    refine (HB.out _ HAL.out).mono ?_
    rintro e w2 ⟨rfl, hb2⟩
    have HB2 := Lib.hid (below_call HAL.out hb2 HAL.out.size)
    clear hb2
    go_wp2
    go_ret
    exact ⟨rfl, HB2.out⟩
set_option maxRecDepth 100000 in
set_option maxHeartbeats 1600000 in
theorem pair_any (ts : List Int) (least : Int) (e : Ef) (A : Option Addr) (c : Nat) (w : World) (hx : Reads w 1 A ts.length (ics ts)) (hlen : ts.length ≤ 9223372036854775807) (h0 : 0 ≤ least) :
    Calls Tryd.prog 109 #[.agg #[.slice A ts.length c, .int .i64 least], .agg e.cells.toArray] w (BE (pairOk ts least e) w) := by
  obtain ⟨code, tgt, n, m, col⟩ := e
  have hv : pairOk ts least ⟨code, tgt, n, m, col⟩ = (wnR n 0 9 && wnR m least 9 && decide (0 < n + m) && bareOk ts ⟨code, tgt, 0, 0, col⟩) := rfl
  have HB : Hid (∀ W, Below w.heap.size w W → Calls Tryd.prog 103 #[.slice A ts.length c, .agg #[.int .i64 code, .int .i64 tgt, .int .i64 0, .int .i64 0, .int .i64 col]] W (BE (bareOk ts ⟨code, tgt, 0, 0, col⟩) W)) := Lib.hid (fun W hb => bare_any ts ⟨code, tgt, 0, 0, col⟩ A c W (hx.below hb) hlen)
  have HC : Hid (∀ W, Calls Tryd.prog 107 #[.int .i64 n, .int .i64 0, .int .i64 9] W fun e w' => e = .returned (.bool (wnR n 0 9)) ∧ W = w') := Lib.hid (fun W => ewithin n 0 9 (by decide) (by decide) W)
  have HD : Hid (∀ W, Calls Tryd.prog 107 #[.int .i64 m, .int .i64 least, .int .i64 9] W fun e w' => e = .returned (.bool (wnR m least 9)) ∧ W = w') := Lib.hid (fun W => ewithin m least 9 h0 (by decide) W)
  have hsum : wnR n 0 9 = true → wnR m least 9 = true → IntKind.i64.wrap (n + m) = n + m := by
    intro h1 h2
    unfold wnR at h1 h2
    simp at h1 h2
    have h3 : -9223372036854775808 ≤ n + m ∧ n + m ≤ 9223372036854775807 := by omega
    exact IntWalk.i64_in _ h3
  rw [hv]
  simp only [Ef.cells]
  clear hv hx h0
  obtain ⟨k, hk⟩ : ∃ k, ts.length = k := ⟨_, rfl⟩
  rw [hk] at HB ⊢
  obtain ⟨d0, h0⟩ : ∃ d, wnR n 0 9 = d := ⟨_, rfl⟩
  obtain ⟨d1, h1⟩ : ∃ d, wnR m least 9 = d := ⟨_, rfl⟩
  obtain ⟨d2, h2⟩ : ∃ d, decide (0 < n + m) = d := ⟨_, rfl⟩
  obtain ⟨d3, h3⟩ : ∃ d, bareOk ts ⟨code, tgt, 0, 0, col⟩ = d := ⟨_, rfl⟩
  rw [h0, h1, h2, h3]
  rw [h0] at HC
  rw [h1] at HD
  rw [h3] at HB
  rw [h0, h1] at hsum
  clear h0 h1 h3 hk hlen
  have HQ : Hid (∀ q, Below w.heap.size w (((((w.alloc (.cells #[.slice A k c, .int .i64 least] 151)).alloc (.cells #[.int .i64 code, .int .i64 tgt, .int .i64 n, .int .i64 m, .int .i64 col] 106)).drewN q).setCell ⟨w.heap.size + 1, 2, none⟩ (.int .i64 0)).setCell ⟨w.heap.size + 1, 3, none⟩ (.int .i64 0))) := Lib.hid (fun q => by
    refine Below.setCell (Below.setCell (below_drewN ?_ _) ?_ _) ?_ _
    · exact ((Below.refl _ _).alloc (Nat.le_refl _) _).alloc (by simp) _
    · simp
    · simp)
  cases d0 with
  | false =>
    clear hsum h2
    go_enter Tryd.func109, Tryd.ntmps109
    go_wp2
    go_quiet (fail)
    go_wp2_with (first
      | (go_at_call 107; (first | (with_reducible refine (HC.out _).mono ?_) | (with_reducible refine (HD.out _).mono ?_)); rintro e w1 ⟨rfl, rfl⟩)
      | fail)
    go_ret
    exact ⟨rfl, HQ.out nq⟩
  | true =>
    cases d1 with
    | false =>
      clear hsum h2
      go_enter Tryd.func109, Tryd.ntmps109
      go_wp2
      go_quiet (fail)
      go_wp2_with (first
        | (go_at_call 107; (first | (with_reducible refine (HC.out _).mono ?_) | (with_reducible refine (HD.out _).mono ?_)); rintro e w1 ⟨rfl, rfl⟩)
        | fail)
      go_ret
      exact ⟨rfl, HQ.out nq⟩
    | true =>
      have hs := hsum rfl rfl
      clear hsum
      cases d2 with
      | false =>
        go_enter Tryd.func109, Tryd.ntmps109
        go_wp2
        go_quiet (fail)
        go_wp2_with (first
          | (go_at_call 107; (first | (with_reducible refine (HC.out _).mono ?_) | (with_reducible refine (HD.out _).mono ?_)); rintro e w1 ⟨rfl, rfl⟩)
          | fail)
        go_ret
        exact ⟨rfl, HQ.out nq⟩
      | true =>
        go_enter Tryd.func109, Tryd.ntmps109
        go_wp2
        go_quiet (fail)
        go_wp2_with (first
          | (go_at_call 107; (first | (with_reducible refine (HC.out _).mono ?_) | (with_reducible refine (HD.out _).mono ?_)); rintro e w1 ⟨rfl, rfl⟩)
          | fail)
        refine (HB.out _ (HQ.out nq)).mono ?_
        rintro e w2 ⟨rfl, hb2⟩
        have HB2 := Lib.hid (below_call (HQ.out nq) hb2 (HQ.out nq).size)
        clear hb2
        go_wp2
        go_ret
        exact ⟨rfl, HB2.out⟩
set_option maxRecDepth 100000 in
set_option maxHeartbeats 1600000 in
theorem col_any (ts : List Int) (most : Int) (e : Ef) (A : Option Addr) (c : Nat) (w : World) (hx : Reads w 1 A ts.length (ics ts)) (hlen : ts.length ≤ 9223372036854775807) (h0 : 0 ≤ most) :
    Calls Tryd.prog 110 #[.agg #[.slice A ts.length c, .int .i64 most], .agg e.cells.toArray] w (BE (colOk ts most e) w) := by
  obtain ⟨code, tgt, n, m, col⟩ := e
  have hv : colOk ts most ⟨code, tgt, n, m, col⟩ = (wnR col 0 3 && cntOk ts most ⟨code, tgt, n, m, 0⟩) := rfl
  have HB : Hid (∀ W, Below w.heap.size w W → Calls Tryd.prog 106 #[.agg #[.slice A ts.length c, .int .i64 most], .agg #[.int .i64 code, .int .i64 tgt, .int .i64 n, .int .i64 m, .int .i64 0]] W (BE (cntOk ts most ⟨code, tgt, n, m, 0⟩) W)) := Lib.hid (fun W hb => cnt_any ts most ⟨code, tgt, n, m, 0⟩ A c W (hx.below hb) hlen h0)
  have HC : Hid (∀ W, Calls Tryd.prog 107 #[.int .i64 col, .int .i64 0, .int .i64 3] W fun e w' => e = .returned (.bool (wnR col 0 3)) ∧ W = w') := Lib.hid (fun W => ewithin col 0 3 (by decide) (by decide) W)
  rw [hv]
  simp only [Ef.cells]
  clear hv hx h0
  obtain ⟨k, hk⟩ : ∃ k, ts.length = k := ⟨_, rfl⟩
  rw [hk] at HB ⊢
  obtain ⟨d0, h0⟩ : ∃ d, wnR col 0 3 = d := ⟨_, rfl⟩
  obtain ⟨d1, h1⟩ : ∃ d, cntOk ts most ⟨code, tgt, n, m, 0⟩ = d := ⟨_, rfl⟩
  rw [h0, h1]
  rw [h0] at HC
  rw [h1] at HB
  clear h0 h1 hk hlen
  have HAL : Hid (Below w.heap.size w ((w.alloc (.cells #[.slice A k c, .int .i64 most] 153)).alloc (.cells #[.int .i64 code, .int .i64 tgt, .int .i64 n, .int .i64 m, .int .i64 0] 106))) := Lib.hid (((Below.refl _ _).alloc (Nat.le_refl _) _).alloc (by simp) _)
  cases d0 with
  | false =>
    go_enter Tryd.func110, Tryd.ntmps110
    go_wp2_with (first
      | (go_at_call 107; refine (HC.out _).mono ?_; rintro e w1 ⟨rfl, rfl⟩)
      | fail)
    go_ret
    exact ⟨rfl, HAL.out⟩
  | true =>
    go_enter Tryd.func110, Tryd.ntmps110
    go_wp2_with (first
      | (go_at_call 107; refine (HC.out _).mono ?_; rintro e w1 ⟨rfl, rfl⟩)
      | fail)
    refine (HB.out _ HAL.out).mono ?_
    rintro e w2 ⟨rfl, hb2⟩
    have HB2 := Lib.hid (below_call HAL.out hb2 HAL.out.size)
    clear hb2
    go_wp2
    go_ret
    exact ⟨rfl, HB2.out⟩

theorem append_xr_op {P : Program} {w : World} {o : Oper} {a : Act} {K : Act → World → Prop} {Q : Exit → Act → World → Prop} (s x : Operand) (t : TypeId)
    (ho : o.op = .call { callee := .builtin .append, args := #[s, x], argTypes := #[t, t] })
    (base : Nat) (e : TypeId) (z : Value) (size bytes : Nat) (hrow : (P.info? e).map (fun i => (i.zero, i.size, i.bytes)) = some (some z, size, bytes)) (ht : P.underlying t = some (.slice e)) (hzs : z.cells.size = size) (hsz : 0 < size)
    (A : Option Addr) (n cap : Nat) (xs : List Value) (hs : a.eval s = .slice A n cap) (hown : XOwns w base e size A n cap xs)
    (A' : Option Addr) (m c : Nat) (news : List Value) (hx : a.eval x = .slice A' m c) (hA : A' = none → c = 0) (hr : Reads w size A' m news) (h1 : ∀ u ∈ news, u.oneCell' = true)
    (hbd : (n + m) * bytes ≤ 140737488355328) (hbd2 : n + m ≤ 140737488355328) (hbase : base ≤ w.heap.size)
    (h : ∀ A2 cap2 w', XOwns w' base e size A2 (n + m) cap2 (xs ++ news) → Below base w w' → K (a.put o.dst (.slice A2 (n + m) cap2)) w') : o.wp P a w K Q := by
  obtain ⟨i0, hi, hz0, hz1, hz2⟩ := info_parts hrow
  cases A' with
  | none =>
    have hc := hA rfl
    subst hc
    have hm : m = 0 := by
      rcases Nat.eq_zero_or_pos m with h0 | h0
      · exact h0
      · obtain ⟨ad, e, _⟩ := hr.2 h0
        cases e
    subst hm
    have hn : news = [] := List.eq_nil_of_length_eq_zero (by rw [hr.1]; simp)
    subst hn
    have hrun := run_append_owned_none (P := P) (w := w) base t o.type e i0 size ht hi (.slice A n cap) n xs hown.1
    unfold Oper.wp
    simp [execOp, ho, resolve, invoke, builtin, hs, hx, hrun, Result.andThen]
    have := h A cap w (by simpa using hown) (Below.refl _ _)
    rw [Nat.add_zero] at this
    exact this
  | some ad =>
    have hc : ∀ j u, news[j]? = some u → w.cell? (ad.add j) = some u := by
      intro j u hj
      have hm : 0 < m := by
        rcases Nat.eq_zero_or_pos m with h0 | h0
        · subst h0
          have hn : news = [] := List.eq_nil_of_length_eq_zero (by rw [hr.1]; simp)
          subst hn
          simp at hj
        · exact h0
      obtain ⟨ad', e', _, hc⟩ := hr.2 hm
      injection e' with e'
      subst e'
      exact hc j u hj
    refine wp_append_own w s x t ho base e i0 z size bytes ht hi hz0 hz1 hz2 hzs hsz _ n xs hs hown.1 ad m c news hx hr.1 hc h1 (by unfold maxLen; omega) hbd hbase ?_
    intro v' w' ho' hg hiff
    have hb : Below base w w' := (Below.refl _ _).grown hg hbase (fun k hk => (hown.1.lt k hk).1)
    rcases ho'.2 with ⟨hv, hn⟩ | ⟨g, c2, cur, hv, h2⟩
    · subst hv
      have := h none 0 w' (by rw [hn]; rw [hn] at ho'; exact ⟨ho', fun _ => rfl⟩) hb
      rw [hn] at this
      exact this
    · subst hv
      exact h _ c2 w' ⟨ho', fun h => by cases h⟩ hb
theorem append_xr {P : Program} {w : World} {ops : Array Oper} {rest : List Oper} {o : Oper} {a : Act} {Q : Exit → Act → World → Prop} (hgd : o.guard = none) (s x : Operand) (t : TypeId)
    (ho : o.op = .call { callee := .builtin .append, args := #[s, x], argTypes := #[t, t] })
    (base : Nat) (e : TypeId) (z : Value) (size bytes : Nat) (hrow : (P.info? e).map (fun i => (i.zero, i.size, i.bytes)) = some (some z, size, bytes)) (ht : P.underlying t = some (.slice e)) (hzs : z.cells.size = size) (hsz : 0 < size)
    (A : Option Addr) (n cap : Nat) (xs : List Value) (hs : a.eval s = .slice A n cap) (hown : XOwns w base e size A n cap xs)
    (A' : Option Addr) (m c : Nat) (news : List Value) (hx : a.eval x = .slice A' m c) (hA : A' = none → c = 0) (hr : Reads w size A' m news) (h1 : ∀ u ∈ news, u.oneCell' = true)
    (hbd : (n + m) * bytes ≤ 140737488355328) (hbd2 : n + m ≤ 140737488355328) (hbase : base ≤ w.heap.size)
    (h : ∀ A2 cap2 w', XOwns w' base e size A2 (n + m) cap2 (xs ++ news) → Below base w w' → wpList P ops Q rest (a.put o.dst (.slice A2 (n + m) cap2)) w') : wpList P ops Q (o :: rest) a w :=
  wpList_plain hgd fun _ hK => append_xr_op s x t ho base e z size bytes hrow ht hzs hsz A n cap xs hs hown A' m c news hx hA hr h1 hbd hbd2 hbase fun A2 c2 w' h2 h3 => hK _ _ (h A2 c2 w' h2 h3)
end Go.Proofs.YtpbbemmjodegkaaDoor
