/-
  The reference's Bytes.
-/
import Derived.Test.YtpmlipcpohajgaaPutLaw
set_option linter.unusedSimpArgs false
set_option linter.unusedVariables false
namespace Go.Proofs.Ytpmlipcpohajgaa
open Go.RowKit

def RB (o : OpV) (w : World) (e : Ending) (w' : World) : Prop :=
  ∃ A n c, e = .returned (.slice A n c) ∧ BOwns w' w.heap.size 5 A n c (rbytes o) ∧ Below w.heap.size w w'
theorem rb_lit {o : OpV} {w W : World} {g : Nat} (L : List Int) (hL : rbytes o = L) (hx : IsBytes L) (n : Nat) (hn : L.length = n) (hg : W.heap.size = g) (hb : Below w.heap.size w W) (hs : n ≤ 1000000) :
    RB o w (.returned (.slice (some ⟨g, 0, none⟩) n n)) (W.alloc (.cells (bys L).toArray 5)) := by
  refine ⟨_, _, _, rfl, ?_, Below.alloc hb hb.size _⟩
  rw [hL]
  exact BOwns.lit _ _ _ L _ _ hx hg hn (hg ▸ hb.size) hs


set_option maxHeartbeats 400000 in
theorem rb_1 (o : OpV) (A : Option Addr) (cap : Nat) (w : World) (hx : BReads w A o.d.length o.d) (hA : A = none → cap = 0) (hd : o.d.length ≤ 100000) (hn5 : o.n ≤ 65535) (h0 : o.k = 1) :
    Calls Try.prog 13 #[.agg #[.int .i64 o.k, .int .i64 o.c, .int .i64 o.n, .int .i64 o.m, .slice A o.d.length cap]] w (RB o w) := by
  clear hx hA
  obtain ⟨y, hy⟩ : ∃ y, wrap64 (16 * o.c) = y := ⟨_, rfl⟩
  have hL : rbytes o = [2] := by
    have hy2 : y % 256 = 16 * o.c % 256 := by rw [← hy]; unfold wrap64; omega
    simp [rbytes, h0]
    try omega
  have HL := Lib.hid hL
  have hB : IsBytes [2] := by
    intro z hz
    simp at hz
    omega
  have HB := Lib.hid hB
  have b0 : (o.k == 1) = true := beq_iff_eq.2 (by omega)
  have H0 := Lib.hid h0
  clear hL hB h0
  go_enter Try.func13, Try.ntmps13
  go_wp2
  go_quiet (fail)
  go_wp2
  go_ret
  exact rb_lit [2] HL.out HB.out 1 rfl (by simp) (by (focus (repeat' (first | (with_reducible exact Below.refl _ _) | (with_reducible assumption) | (with_reducible refine Below.alloc ?_ ?_ _) | (with_reducible refine below_drewN ?_ _) | (with_reducible refine Below.drew ?_) | (with_reducible refine Below.setCell ?_ ?_ _) | omega | (simp; done) | (simp; omega))))) (by omega)


set_option maxHeartbeats 400000 in
theorem rb_2 (o : OpV) (A : Option Addr) (cap : Nat) (w : World) (hx : BReads w A o.d.length o.d) (hA : A = none → cap = 0) (hd : o.d.length ≤ 100000) (hn5 : o.n ≤ 65535) (h0 : ¬ o.k = 1) (h1 : o.k = 2) :
    Calls Try.prog 13 #[.agg #[.int .i64 o.k, .int .i64 o.c, .int .i64 o.n, .int .i64 o.m, .slice A o.d.length cap]] w (RB o w) := by
  clear hx hA
  obtain ⟨y, hy⟩ : ∃ y, wrap64 (16 * o.c) = y := ⟨_, rfl⟩
  have hL : rbytes o = [(y + 3) % 256] := by
    have hy2 : y % 256 = 16 * o.c % 256 := by rw [← hy]; unfold wrap64; omega
    simp [rbytes, h0, h1]
    try omega
  have HL := Lib.hid hL
  have hB : IsBytes [(y + 3) % 256] := by
    intro z hz
    simp at hz
    omega
  have HB := Lib.hid hB
  have b0 : (o.k == 1) = false := beq_eq_false_iff_ne.2 (by omega)
  have b1 : (o.k == 2) = true := beq_iff_eq.2 (by omega)
  have H0 := Lib.hid h0
  have H1 := Lib.hid h1
  clear hL hB h0 h1
  go_enter Try.func13, Try.ntmps13
  go_wp2
  go_quiet (fail)
  go_wp2
  go_ret
  exact rb_lit [(y + 3) % 256] HL.out HB.out 1 rfl (by simp) (by (focus (repeat' (first | (with_reducible exact Below.refl _ _) | (with_reducible assumption) | (with_reducible refine Below.alloc ?_ ?_ _) | (with_reducible refine below_drewN ?_ _) | (with_reducible refine Below.drew ?_) | (with_reducible refine Below.setCell ?_ ?_ _) | omega | (simp; done) | (simp; omega))))) (by omega)


set_option maxHeartbeats 400000 in
theorem rb_3a (o : OpV) (A : Option Addr) (cap : Nat) (w : World) (hx : BReads w A o.d.length o.d) (hA : A = none → cap = 0) (hd : o.d.length ≤ 100000) (hn5 : o.n ≤ 65535) (h0 : ¬ o.k = 1) (h1 : ¬ o.k = 2) (h2 : o.k = 3) (h3 : 255 < o.n) :
    Calls Try.prog 13 #[.agg #[.int .i64 o.k, .int .i64 o.c, .int .i64 o.n, .int .i64 o.m, .slice A o.d.length cap]] w (RB o w) := by
  clear hx hA
  obtain ⟨y, hy⟩ : ∃ y, wrap64 (16 * o.c) = y := ⟨_, rfl⟩
  have hL : rbytes o = [10, o.n / 256, o.n % 256] := by
    have hy2 : y % 256 = 16 * o.c % 256 := by rw [← hy]; unfold wrap64; omega
    simp [rbytes, h0, h1, h2, h3]
    try omega
  have HL := Lib.hid hL
  have hB : IsBytes [10, o.n / 256, o.n % 256] := by
    intro z hz
    simp at hz
    omega
  have HB := Lib.hid hB
  have b0 : (o.k == 1) = false := beq_eq_false_iff_ne.2 (by omega)
  have b1 : (o.k == 2) = false := beq_eq_false_iff_ne.2 (by omega)
  have b2 : (o.k == 3) = true := beq_iff_eq.2 (by omega)
  have b3 : decide (255 < o.n) = true := by simp; omega
  have H0 := Lib.hid h0
  have H1 := Lib.hid h1
  have H2 := Lib.hid h2
  have H3 := Lib.hid h3
  clear hL hB h0 h1 h2
  go_enter Try.func13, Try.ntmps13
  go_wp2
  go_quiet (fail)
  go_wp2
  go_ret
  exact rb_lit [10, o.n / 256, o.n % 256] HL.out HB.out 3 rfl (by simp) (by (focus (repeat' (first | (with_reducible exact Below.refl _ _) | (with_reducible assumption) | (with_reducible refine Below.alloc ?_ ?_ _) | (with_reducible refine below_drewN ?_ _) | (with_reducible refine Below.drew ?_) | (with_reducible refine Below.setCell ?_ ?_ _) | omega | (simp; done) | (simp; omega))))) (by omega)


set_option maxHeartbeats 400000 in
theorem rb_3b (o : OpV) (A : Option Addr) (cap : Nat) (w : World) (hx : BReads w A o.d.length o.d) (hA : A = none → cap = 0) (hd : o.d.length ≤ 100000) (hn5 : o.n ≤ 65535) (h0 : ¬ o.k = 1) (h1 : ¬ o.k = 2) (h2 : o.k = 3) (h3 : ¬ 255 < o.n) :
    Calls Try.prog 13 #[.agg #[.int .i64 o.k, .int .i64 o.c, .int .i64 o.n, .int .i64 o.m, .slice A o.d.length cap]] w (RB o w) := by
  clear hx hA
  obtain ⟨y, hy⟩ : ∃ y, wrap64 (16 * o.c) = y := ⟨_, rfl⟩
  have hL : rbytes o = [4, o.n % 256] := by
    have hy2 : y % 256 = 16 * o.c % 256 := by rw [← hy]; unfold wrap64; omega
    simp [rbytes, h0, h1, h2, h3]
    try omega
  have HL := Lib.hid hL
  have hB : IsBytes [4, o.n % 256] := by
    intro z hz
    simp at hz
    omega
  have HB := Lib.hid hB
  have b0 : (o.k == 1) = false := beq_eq_false_iff_ne.2 (by omega)
  have b1 : (o.k == 2) = false := beq_eq_false_iff_ne.2 (by omega)
  have b2 : (o.k == 3) = true := beq_iff_eq.2 (by omega)
  have b3 : decide (255 < o.n) = false := by simp; omega
  have H0 := Lib.hid h0
  have H1 := Lib.hid h1
  have H2 := Lib.hid h2
  have H3 := Lib.hid h3
  clear hL hB h0 h1 h2 h3
  go_enter Try.func13, Try.ntmps13
  go_wp2
  go_quiet (fail)
  go_wp2
  go_ret
  exact rb_lit [4, o.n % 256] HL.out HB.out 2 rfl (by simp) (by (focus (repeat' (first | (with_reducible exact Below.refl _ _) | (with_reducible assumption) | (with_reducible refine Below.alloc ?_ ?_ _) | (with_reducible refine below_drewN ?_ _) | (with_reducible refine Below.drew ?_) | (with_reducible refine Below.setCell ?_ ?_ _) | omega | (simp; done) | (simp; omega))))) (by omega)


set_option maxHeartbeats 400000 in
theorem rb_5 (o : OpV) (A : Option Addr) (cap : Nat) (w : World) (hx : BReads w A o.d.length o.d) (hA : A = none → cap = 0) (hd : o.d.length ≤ 100000) (hn5 : o.n ≤ 65535) (h0 : ¬ o.k = 1) (h1 : ¬ o.k = 2) (h2 : ¬ o.k = 3) (h3 : ¬ o.k = 4) (h4 : o.k = 5) :
    Calls Try.prog 13 #[.agg #[.int .i64 o.k, .int .i64 o.c, .int .i64 o.n, .int .i64 o.m, .slice A o.d.length cap]] w (RB o w) := by
  clear hx hA
  obtain ⟨y, hy⟩ : ∃ y, wrap64 (16 * o.c) = y := ⟨_, rfl⟩
  have hL : rbytes o = [(y + 6) % 256, o.n % 256] := by
    have hy2 : y % 256 = 16 * o.c % 256 := by rw [← hy]; unfold wrap64; omega
    simp [rbytes, h0, h1, h2, h3, h4]
    try omega
  have HL := Lib.hid hL
  have hB : IsBytes [(y + 6) % 256, o.n % 256] := by
    intro z hz
    simp at hz
    omega
  have HB := Lib.hid hB
  have b0 : (o.k == 1) = false := beq_eq_false_iff_ne.2 (by omega)
  have b1 : (o.k == 2) = false := beq_eq_false_iff_ne.2 (by omega)
  have b2 : (o.k == 3) = false := beq_eq_false_iff_ne.2 (by omega)
  have b3 : (o.k == 4) = false := beq_eq_false_iff_ne.2 (by omega)
  have b4 : (o.k == 5) = true := beq_iff_eq.2 (by omega)
  have H0 := Lib.hid h0
  have H1 := Lib.hid h1
  have H2 := Lib.hid h2
  have H3 := Lib.hid h3
  have H4 := Lib.hid h4
  clear hL hB h0 h1 h2 h3 h4
  go_enter Try.func13, Try.ntmps13
  go_wp2
  go_quiet (fail)
  go_wp2
  go_ret
  exact rb_lit [(y + 6) % 256, o.n % 256] HL.out HB.out 2 rfl (by simp) (by (focus (repeat' (first | (with_reducible exact Below.refl _ _) | (with_reducible assumption) | (with_reducible refine Below.alloc ?_ ?_ _) | (with_reducible refine below_drewN ?_ _) | (with_reducible refine Below.drew ?_) | (with_reducible refine Below.setCell ?_ ?_ _) | omega | (simp; done) | (simp; omega))))) (by omega)


set_option maxHeartbeats 400000 in
theorem rb_7 (o : OpV) (A : Option Addr) (cap : Nat) (w : World) (hx : BReads w A o.d.length o.d) (hA : A = none → cap = 0) (hd : o.d.length ≤ 100000) (hn5 : o.n ≤ 65535) (h0 : ¬ o.k = 1) (h1 : ¬ o.k = 2) (h2 : ¬ o.k = 3) (h3 : ¬ o.k = 4) (h4 : ¬ o.k = 5) (h5 : o.k = 7) :
    Calls Try.prog 13 #[.agg #[.int .i64 o.k, .int .i64 o.c, .int .i64 o.n, .int .i64 o.m, .slice A o.d.length cap]] w (RB o w) := by
  clear hx hA
  obtain ⟨y, hy⟩ : ∃ y, wrap64 (16 * o.c) = y := ⟨_, rfl⟩
  have hL : rbytes o = [(y + 8) % 256, o.m % 256] := by
    have hy2 : y % 256 = 16 * o.c % 256 := by rw [← hy]; unfold wrap64; omega
    simp [rbytes, h0, h1, h2, h3, h4, h5]
    try omega
  have HL := Lib.hid hL
  have hB : IsBytes [(y + 8) % 256, o.m % 256] := by
    intro z hz
    simp at hz
    omega
  have HB := Lib.hid hB
  have b0 : (o.k == 1) = false := beq_eq_false_iff_ne.2 (by omega)
  have b1 : (o.k == 2) = false := beq_eq_false_iff_ne.2 (by omega)
  have b2 : (o.k == 3) = false := beq_eq_false_iff_ne.2 (by omega)
  have b3 : (o.k == 4) = false := beq_eq_false_iff_ne.2 (by omega)
  have b4 : (o.k == 5) = false := beq_eq_false_iff_ne.2 (by omega)
  have b5 : (o.k == 7) = true := beq_iff_eq.2 (by omega)
  have H0 := Lib.hid h0
  have H1 := Lib.hid h1
  have H2 := Lib.hid h2
  have H3 := Lib.hid h3
  have H4 := Lib.hid h4
  have H5 := Lib.hid h5
  clear hL hB h0 h1 h2 h3 h4 h5
  go_enter Try.func13, Try.ntmps13
  go_wp2
  go_quiet (fail)
  go_wp2
  go_ret
  exact rb_lit [(y + 8) % 256, o.m % 256] HL.out HB.out 2 rfl (by simp) (by (focus (repeat' (first | (with_reducible exact Below.refl _ _) | (with_reducible assumption) | (with_reducible refine Below.alloc ?_ ?_ _) | (with_reducible refine below_drewN ?_ _) | (with_reducible refine Below.drew ?_) | (with_reducible refine Below.setCell ?_ ?_ _) | omega | (simp; done) | (simp; omega))))) (by omega)


set_option maxHeartbeats 400000 in
theorem rb_8 (o : OpV) (A : Option Addr) (cap : Nat) (w : World) (hx : BReads w A o.d.length o.d) (hA : A = none → cap = 0) (hd : o.d.length ≤ 100000) (hn5 : o.n ≤ 65535) (h0 : ¬ o.k = 1) (h1 : ¬ o.k = 2) (h2 : ¬ o.k = 3) (h3 : ¬ o.k = 4) (h4 : ¬ o.k = 5) (h5 : ¬ o.k = 7) (h6 : o.k = 8) :
    Calls Try.prog 13 #[.agg #[.int .i64 o.k, .int .i64 o.c, .int .i64 o.n, .int .i64 o.m, .slice A o.d.length cap]] w (RB o w) := by
  clear hx hA
  obtain ⟨y, hy⟩ : ∃ y, wrap64 (16 * o.c) = y := ⟨_, rfl⟩
  have hL : rbytes o = [(y + 9) % 256, o.n % 256] := by
    have hy2 : y % 256 = 16 * o.c % 256 := by rw [← hy]; unfold wrap64; omega
    simp [rbytes, h0, h1, h2, h3, h4, h5, h6]
    try omega
  have HL := Lib.hid hL
  have hB : IsBytes [(y + 9) % 256, o.n % 256] := by
    intro z hz
    simp at hz
    omega
  have HB := Lib.hid hB
  have b0 : (o.k == 1) = false := beq_eq_false_iff_ne.2 (by omega)
  have b1 : (o.k == 2) = false := beq_eq_false_iff_ne.2 (by omega)
  have b2 : (o.k == 3) = false := beq_eq_false_iff_ne.2 (by omega)
  have b3 : (o.k == 4) = false := beq_eq_false_iff_ne.2 (by omega)
  have b4 : (o.k == 5) = false := beq_eq_false_iff_ne.2 (by omega)
  have b5 : (o.k == 7) = false := beq_eq_false_iff_ne.2 (by omega)
  have b6 : (o.k == 8) = true := beq_iff_eq.2 (by omega)
  have H0 := Lib.hid h0
  have H1 := Lib.hid h1
  have H2 := Lib.hid h2
  have H3 := Lib.hid h3
  have H4 := Lib.hid h4
  have H5 := Lib.hid h5
  have H6 := Lib.hid h6
  clear hL hB h0 h1 h2 h3 h4 h5 h6
  go_enter Try.func13, Try.ntmps13
  go_wp2
  go_quiet (fail)
  go_wp2
  go_ret
  exact rb_lit [(y + 9) % 256, o.n % 256] HL.out HB.out 2 rfl (by simp) (by (focus (repeat' (first | (with_reducible exact Below.refl _ _) | (with_reducible assumption) | (with_reducible refine Below.alloc ?_ ?_ _) | (with_reducible refine below_drewN ?_ _) | (with_reducible refine Below.drew ?_) | (with_reducible refine Below.setCell ?_ ?_ _) | omega | (simp; done) | (simp; omega))))) (by omega)


set_option maxHeartbeats 400000 in
theorem rb_6a (o : OpV) (A : Option Addr) (cap : Nat) (w : World) (hx : BReads w A o.d.length o.d) (hA : A = none → cap = 0) (hd : o.d.length ≤ 100000) (hn5 : o.n ≤ 65535) (h0 : ¬ o.k = 1) (h1 : ¬ o.k = 2) (h2 : ¬ o.k = 3) (h3 : ¬ o.k = 4) (h4 : ¬ o.k = 5) (h5 : ¬ o.k = 7) (h6 : ¬ o.k = 8) (h7 : o.m = 0) :
    Calls Try.prog 13 #[.agg #[.int .i64 o.k, .int .i64 o.c, .int .i64 o.n, .int .i64 o.m, .slice A o.d.length cap]] w (RB o w) := by
  clear hx hA
  obtain ⟨y, hy⟩ : ∃ y, wrap64 (16 * o.c) = y := ⟨_, rfl⟩
  have hL : rbytes o = [y % 256, o.n % 256] := by
    have hy2 : y % 256 = 16 * o.c % 256 := by rw [← hy]; unfold wrap64; omega
    simp [rbytes, h0, h1, h2, h3, h4, h5, h6, h7]
    try omega
  have HL := Lib.hid hL
  have hB : IsBytes [y % 256, o.n % 256] := by
    intro z hz
    simp at hz
    omega
  have HB := Lib.hid hB
  have b0 : (o.k == 1) = false := beq_eq_false_iff_ne.2 (by omega)
  have b1 : (o.k == 2) = false := beq_eq_false_iff_ne.2 (by omega)
  have b2 : (o.k == 3) = false := beq_eq_false_iff_ne.2 (by omega)
  have b3 : (o.k == 4) = false := beq_eq_false_iff_ne.2 (by omega)
  have b4 : (o.k == 5) = false := beq_eq_false_iff_ne.2 (by omega)
  have b5 : (o.k == 7) = false := beq_eq_false_iff_ne.2 (by omega)
  have b6 : (o.k == 8) = false := beq_eq_false_iff_ne.2 (by omega)
  have b7 : (o.m == 0) = true := beq_iff_eq.2 (by omega)
  have H0 := Lib.hid h0
  have H1 := Lib.hid h1
  have H2 := Lib.hid h2
  have H3 := Lib.hid h3
  have H4 := Lib.hid h4
  have H5 := Lib.hid h5
  have H6 := Lib.hid h6
  have H7 := Lib.hid h7
  clear hL hB h0 h1 h2 h3 h4 h5 h6 h7
  go_enter Try.func13, Try.ntmps13
  go_wp2
  go_quiet (fail)
  go_wp2
  go_ret
  exact rb_lit [y % 256, o.n % 256] HL.out HB.out 2 rfl (by simp) (by (focus (repeat' (first | (with_reducible exact Below.refl _ _) | (with_reducible assumption) | (with_reducible refine Below.alloc ?_ ?_ _) | (with_reducible refine below_drewN ?_ _) | (with_reducible refine Below.drew ?_) | (with_reducible refine Below.setCell ?_ ?_ _) | omega | (simp; done) | (simp; omega))))) (by omega)


set_option maxHeartbeats 400000 in
theorem rb_6b (o : OpV) (A : Option Addr) (cap : Nat) (w : World) (hx : BReads w A o.d.length o.d) (hA : A = none → cap = 0) (hd : o.d.length ≤ 100000) (hn5 : o.n ≤ 65535) (h0 : ¬ o.k = 1) (h1 : ¬ o.k = 2) (h2 : ¬ o.k = 3) (h3 : ¬ o.k = 4) (h4 : ¬ o.k = 5) (h5 : ¬ o.k = 7) (h6 : ¬ o.k = 8) (h7 : ¬ o.m = 0) :
    Calls Try.prog 13 #[.agg #[.int .i64 o.k, .int .i64 o.c, .int .i64 o.n, .int .i64 o.m, .slice A o.d.length cap]] w (RB o w) := by
  clear hx hA
  obtain ⟨y, hy⟩ : ∃ y, wrap64 (16 * o.c) = y := ⟨_, rfl⟩
  have hL : rbytes o = [(y + 7) % 256, o.n % 256, o.m % 256] := by
    have hy2 : y % 256 = 16 * o.c % 256 := by rw [← hy]; unfold wrap64; omega
    simp [rbytes, h0, h1, h2, h3, h4, h5, h6, h7]
    try omega
  have HL := Lib.hid hL
  have hB : IsBytes [(y + 7) % 256, o.n % 256, o.m % 256] := by
    intro z hz
    simp at hz
    omega
  have HB := Lib.hid hB
  have b0 : (o.k == 1) = false := beq_eq_false_iff_ne.2 (by omega)
  have b1 : (o.k == 2) = false := beq_eq_false_iff_ne.2 (by omega)
  have b2 : (o.k == 3) = false := beq_eq_false_iff_ne.2 (by omega)
  have b3 : (o.k == 4) = false := beq_eq_false_iff_ne.2 (by omega)
  have b4 : (o.k == 5) = false := beq_eq_false_iff_ne.2 (by omega)
  have b5 : (o.k == 7) = false := beq_eq_false_iff_ne.2 (by omega)
  have b6 : (o.k == 8) = false := beq_eq_false_iff_ne.2 (by omega)
  have b7 : (o.m == 0) = false := beq_eq_false_iff_ne.2 (by omega)
  have H0 := Lib.hid h0
  have H1 := Lib.hid h1
  have H2 := Lib.hid h2
  have H3 := Lib.hid h3
  have H4 := Lib.hid h4
  have H5 := Lib.hid h5
  have H6 := Lib.hid h6
  have H7 := Lib.hid h7
  clear hL hB h0 h1 h2 h3 h4 h5 h6 h7
  go_enter Try.func13, Try.ntmps13
  go_wp2
  go_quiet (fail)
  go_wp2
  go_ret
  exact rb_lit [(y + 7) % 256, o.n % 256, o.m % 256] HL.out HB.out 3 rfl (by simp) (by (focus (repeat' (first | (with_reducible exact Below.refl _ _) | (with_reducible assumption) | (with_reducible refine Below.alloc ?_ ?_ _) | (with_reducible refine below_drewN ?_ _) | (with_reducible refine Below.drew ?_) | (with_reducible refine Below.setCell ?_ ?_ _) | omega | (simp; done) | (simp; omega))))) (by omega)


set_option maxHeartbeats 400000 in
theorem rb_4 (o : OpV) (A : Option Addr) (cap : Nat) (w : World) (hx : BReads w A o.d.length o.d) (hA : A = none → cap = 0) (hd : o.d.length ≤ 100000) (hn5 : o.n ≤ 65535) (hk : o.k = 4) :
    Calls Try.prog 13 #[.agg #[.int .i64 o.k, .int .i64 o.c, .int .i64 o.n, .int .i64 o.m, .slice A o.d.length cap]] w (RB o w) := by
  have HX : Hid (∀ W, Below w.heap.size w W → BReads W A o.d.length o.d) := fun W h => hx.below h
  have HA := Lib.hid hA
  clear hx hA
  obtain ⟨y, hy⟩ : ∃ y, wrap64 (16 * o.c) = y := ⟨_, rfl⟩
  have hL : rbytes o = [(y + 5) % 256, (o.d.length : Int) % 256] ++ o.d := by
    have hy2 : y % 256 = 16 * o.c % 256 := by rw [← hy]; unfold wrap64; omega
    simp [rbytes, hk]
    omega
  have HL := Lib.hid hL
  have b1 : (o.k == 1) = false := beq_eq_false_iff_ne.2 (by omega)
  have b2 : (o.k == 2) = false := beq_eq_false_iff_ne.2 (by omega)
  have b3 : (o.k == 3) = false := beq_eq_false_iff_ne.2 (by omega)
  have b4 : (o.k == 4) = true := beq_iff_eq.2 (by omega)
  clear hL hk
  generalize hl : o.d.length = L at *
  have HLL := Lib.hid hl
  clear hl
  go_enter Try.func13, Try.ntmps13
  go_wp2
  go_quiet (fail)
  go_wp2_with (at_builtin; refine append_bytes _ rfl (.tmp 47) (.tmp 49) 22 rfl (w.heap.size + 1) 5 Try.info5 Try.underlying22 (some ⟨w.heap.size + 1, 0, none⟩) 2 2 [(y + 5) % 256, (L : Int) % 256] rfl ?_ A L cap o.d rfl HA.out (HX.out _ (by (focus (repeat' (first | (with_reducible exact Below.refl _ _) | (with_reducible assumption) | (with_reducible refine Below.alloc ?_ ?_ _) | (with_reducible refine below_drewN ?_ _) | (with_reducible refine Below.drew ?_) | (with_reducible refine Below.setCell ?_ ?_ _) | omega | (simp; done) | (simp; omega)))))) ?_ ?_ ?_; (exact BOwns.lit _ _ _ [(y + 5) % 256, (L : Int) % 256] _ _ (by intro z hz; simp at hz; omega) (by simp) rfl (by omega) (by omega)); omega; (focus (first | omega | (simp only [World.size_alloc]; done) | (simp only [World.size_alloc]; omega) | (simp; done) | (simp; omega))); intro A5 c5 w1 ho5 hb5)
  go_ret
  exact ⟨A5, 2 + L, c5, rfl, by rw [HL.out]; exact ho5.more (by omega), Below.trans (by (focus (repeat' (first | (with_reducible exact Below.refl _ _) | (with_reducible assumption) | (with_reducible refine Below.alloc ?_ ?_ _) | (with_reducible refine below_drewN ?_ _) | (with_reducible refine Below.drew ?_) | (with_reducible refine Below.setCell ?_ ?_ _) | omega | (simp; done) | (simp; omega))))) (hb5.mono (by omega))⟩

theorem rbytes_any (o : OpV) (A : Option Addr) (cap : Nat) (w : World) (hx : BReads w A o.d.length o.d) (hA : A = none → cap = 0) (hd : o.d.length ≤ 100000) (hn5 : o.n ≤ 65535) :
    Calls Try.prog 13 #[.agg #[.int .i64 o.k, .int .i64 o.c, .int .i64 o.n, .int .i64 o.m, .slice A o.d.length cap]] w (RB o w) := by
  by_cases k1 : o.k = 1
  · exact rb_1 o A cap w hx hA hd hn5 k1
  by_cases k2 : o.k = 2
  · exact rb_2 o A cap w hx hA hd hn5 k1 k2
  by_cases k3 : o.k = 3
  · by_cases hn : 255 < o.n
    · exact rb_3a o A cap w hx hA hd hn5 k1 k2 k3 hn
    · exact rb_3b o A cap w hx hA hd hn5 k1 k2 k3 hn
  by_cases k4 : o.k = 4
  · exact rb_4 o A cap w hx hA hd hn5 k4
  by_cases k5 : o.k = 5
  · exact rb_5 o A cap w hx hA hd hn5 k1 k2 k3 k4 k5
  by_cases k7 : o.k = 7
  · exact rb_7 o A cap w hx hA hd hn5 k1 k2 k3 k4 k5 k7
  by_cases k8 : o.k = 8
  · exact rb_8 o A cap w hx hA hd hn5 k1 k2 k3 k4 k5 k7 k8
  by_cases hm : o.m = 0
  · exact rb_6a o A cap w hx hA hd hn5 k1 k2 k3 k4 k5 k7 k8 hm
  · exact rb_6b o A cap w hx hA hd hn5 k1 k2 k3 k4 k5 k7 k8 hm

end Go.Proofs.Ytpmlipcpohajgaa
