/-
  Write of the reference: the bytes of a frame.
-/
import Derived.Test.YtbcleifhadkecaaEqual
namespace Go.Proofs.Ytbcleifhadkecaa
open Go.RowKit

def seqBytes (s : Int) : List Int := [s / 256, s % 256]
def numBytes (m : Int) : List Int := [m / 16777216, m / 65536 % 256, m / 256 % 256, m % 256]
def headBytes (k s m : Int) : List Int := [k % 256] ++ (if seqB k = true then seqBytes s else []) ++ (if numB k = true then numBytes m else [])
def wr0 (k s m : Int) (xs : List Int) : List Int := headBytes k s m ++ xs
def wr (k s m : Int) (xs : List Int) : List Int := wr0 k s m xs ++ [chk (wr0 k s m xs)]

theorem Try.info5 : (Try.prog.info? 5).map (fun i => (i.zero, i.size, i.bytes)) = some (some (.int .u8 0), 1, 1) := by kernel_rfl

theorem bytes_mod (x : Int) : 0 ≤ x % 256 ∧ x % 256 ≤ 255 := by omega
theorem isBytes_cons {x : Int} {l : List Int} (h : 0 ≤ x ∧ x ≤ 255) (hl : IsBytes l) : IsBytes (x :: l) := fun z hz => by
  rcases List.mem_cons.1 hz with rfl | hz
  · exact h
  · exact hl z hz
theorem isBytes_nil : IsBytes [] := fun _ h => by cases h

theorem isBytes_seq (s : Int) (bs : 0 ≤ s ∧ s ≤ 65535) : IsBytes (seqBytes s) := isBytes_cons (by omega) (isBytes_cons (bytes_mod _) isBytes_nil)
theorem isBytes_num (m : Int) (bm : 0 ≤ m ∧ m ≤ 4294967295) : IsBytes (numBytes m) := isBytes_cons (by omega) (isBytes_cons (bytes_mod _) (isBytes_cons (bytes_mod _) (isBytes_cons (bytes_mod _) isBytes_nil)))
theorem wr_plain (k s m : Int) (xs : List Int) (h1 : seqB k = false) (h2 : numB k = false) : wr k s m xs = [k % 256] ++ xs ++ [chk ([k % 256] ++ xs)] := by
  simp [wr, wr0, headBytes, h1, h2]
theorem wr_seq (k s m : Int) (xs : List Int) (h1 : seqB k = true) (h2 : numB k = false) : wr k s m xs = [k % 256] ++ seqBytes s ++ xs ++ [chk ([k % 256] ++ seqBytes s ++ xs)] := by
  simp [wr, wr0, headBytes, h1, h2]
theorem wr_num (k s m : Int) (xs : List Int) (h1 : seqB k = false) (h2 : numB k = true) : wr k s m xs = [k % 256] ++ numBytes m ++ xs ++ [chk ([k % 256] ++ numBytes m ++ xs)] := by
  simp [wr, wr0, headBytes, h1, h2]
theorem u16_quo (s : Int) (bs : 0 ≤ s ∧ s ≤ 65535) : IntKind.u16.wrap (s.tdiv 256) = s / 256 := by
  rw [Int.tdiv_eq_ediv_of_nonneg bs.1, IntKind.wrap_u16]
  omega
theorem seq_num (k : Int) (h1 : seqB k = true) : numB k = false := by
  simp [seqB, numB] at *
  omega

theorem bcell2 {B : Nat} {W w1 : World} (hb : Below B W w1) : (∀ b o, b < B → w1.cell? ⟨b, o, none⟩ = W.cell? ⟨b, o, none⟩) ∧ (∀ b o, b < B → w1.frozen? ⟨b, o, none⟩ = W.frozen? ⟨b, o, none⟩) :=
  ⟨fun b o h => hb.cell (p := ⟨b, o, none⟩) h, fun b o h => hb.frozen (p := ⟨b, o, none⟩) h⟩

set_option maxHeartbeats 400000 in
theorem rwrite_plain (k s m : Int) (A : Option Addr) (n cap : Nat) (xs : List Int) (w : World) (hx : BReads w A n xs) (hA : A = none → cap = 0) (hn : n ≤ 1000000) (_bs : 0 ≤ s ∧ s ≤ 65535) (_bm : 0 ≤ m ∧ m ≤ 4294967295) (h1 : seqB k = false) (h2 : numB k = false) :
    Calls Try.prog 13 #[.agg #[.int .i64 k, .int .u16 s, .int .u32 m, .slice A n cap]] w fun e w' => ∃ A' n' c', e = .returned (.slice A' n' c') ∧ BOwns w' w.heap.size 5 A' n' c' (wr k s m xs) ∧ Below w.heap.size w w' := by
  have HA := Lib.hid hA
  have HW := Lib.hid (wr_plain k s m xs h1 h2)
  have HO : Hid (∀ o, BOwns ((w.alloc o).alloc (.cells #[.int .u8 (k % 256)] 5)) (w.heap.size + 1) 5 (some ⟨w.heap.size + 1, 0, none⟩) 1 1 [k % 256]) :=
    fun o => BOwns.lit _ _ _ [k % 256] _ _ (isBytes_cons (bytes_mod k) isBytes_nil) (World.size_alloc _ _) rfl (Nat.le_refl _) (by decide)
  have HR : Hid (∀ o o', BReads ((w.alloc o).alloc o') A n xs) := fun o o' => (hx.alloc o).alloc o'
  clear hA hx
  go_enter Try.func13, Try.ntmps13
  go_wp2_with (first
    | (go_at_call 25; refine (seq_any _ _).mono ?_; rintro e w' ⟨rfl, rfl⟩)
    | (go_at_call 26; refine (num_any _ _).mono ?_; rintro e w' ⟨rfl, rfl⟩)
    | (at_builtin; refine append_bytes _ rfl (.tmp 45) (.tmp 47) 25 rfl (w.heap.size + 1) 5 Try.info5 Try.underlying25 _ 1 1 [k % 256] rfl (HO.out _) A n cap xs rfl HA.out (HR.out _ _) ?_ ?_ ?_; omega; (simp only [World.size_alloc]; omega); intro A2 c2 w2 ho2 hb2)
    | (go_at_call 16; refine (rcheck_any _ _ _ _ _ ho2.reads ?_).mono ?_; omega; rintro e w' ⟨rfl, rfl⟩)
    | (at_builtin; refine append_bytes _ rfl (.tmp 49) (.tmp 52) 25 rfl (w.heap.size + 1) 5 Try.info5 Try.underlying25 _ _ _ _ rfl (ho2.alloc _) _ 1 1 [chk ([k % 256] ++ xs)] rfl (fun h => by cases h) (BReads.lit _ _ [chk ([k % 256] ++ xs)] _ _ (isBytes_cons (chk_bd _) isBytes_nil) rfl rfl) ?_ ?_ ?_; omega; (have := hb2.size; simp only [World.size_alloc] at this ⊢; omega); intro A3 c3 w3 ho3 hb3))
  go_ret
  have hz2 : w.heap.size < w2.heap.size := by have := hb2.size; first | omega | (simp only [World.size_alloc] at this; omega)
  refine ⟨_, _, _, rfl, ?_, (((((Below.refl w.heap.size w).alloc (Nat.le_refl _) _).alloc (by simp) _).trans (hb2.mono (Nat.le_succ _))).alloc (by omega) _).trans (hb3.mono (Nat.le_succ _))⟩
  rw [HW.out]
  exact ho3.more (Nat.le_succ _)

set_option maxHeartbeats 400000 in
theorem rwrite_seq (k s m : Int) (A : Option Addr) (n cap : Nat) (xs : List Int) (w : World) (hx : BReads w A n xs) (hA : A = none → cap = 0) (hn : n ≤ 1000000) (bs : 0 ≤ s ∧ s ≤ 65535) (_bm : 0 ≤ m ∧ m ≤ 4294967295) (h1 : seqB k = true) (h2 : numB k = false) :
    Calls Try.prog 13 #[.agg #[.int .i64 k, .int .u16 s, .int .u32 m, .slice A n cap]] w fun e w' => ∃ A' n' c', e = .returned (.slice A' n' c') ∧ BOwns w' w.heap.size 5 A' n' c' (wr k s m xs) ∧ Below w.heap.size w w' := by
  have HA := Lib.hid hA
  have HW := Lib.hid (wr_seq k s m xs h1 h2)
  have HO : Hid (∀ o, BOwns ((w.alloc o).alloc (.cells #[.int .u8 (k % 256)] 5)) (w.heap.size + 1) 5 (some ⟨w.heap.size + 1, 0, none⟩) 1 1 [k % 256]) :=
    fun o => BOwns.lit _ _ _ [k % 256] _ _ (isBytes_cons (bytes_mod k) isBytes_nil) (World.size_alloc _ _) rfl (Nat.le_refl _) (by decide)
  have HR : Hid (∀ W, Below w.heap.size w W → BReads W A n xs) := fun W h => hx.below h
  clear hA hx
  have hq := u16_quo s bs
  have hq2 : s / 256 % 256 = s / 256 := by omega
  go_enter Try.func13, Try.ntmps13
  go_wp2_with (first
    | (go_at_call 25; refine (seq_any _ _).mono ?_; rintro e w' ⟨rfl, rfl⟩)
    | (go_at_call 26; refine (num_any _ _).mono ?_; rintro e w' ⟨rfl, rfl⟩)
    | (at_builtin; refine append_bytes _ rfl (.tmp 12) (.tmp 21) 25 rfl (w.heap.size + 1) 5 Try.info5 Try.underlying25 _ 1 1 [k % 256] rfl ((HO.out _).alloc _) _ 2 2 (seqBytes s) rfl (fun h => by cases h) (BReads.lit _ _ (seqBytes s) _ _ (isBytes_seq s bs) (by simp only [World.size_alloc]) rfl) ?_ ?_ ?_; omega; (simp only [World.size_alloc]; omega); intro A1 c1 w1 ho1 hb1; have hB1 := ((((Below.refl w.heap.size w).alloc (Nat.le_refl _) _).alloc (by simp) _).alloc (by simp; omega) _).trans (hb1.mono (Nat.le_succ _)); have hz1 : w.heap.size < w1.heap.size := (by have := hb1.size; simp only [World.size_alloc] at this; omega); obtain ⟨hc1, _⟩ := bcell2 hb1)
    | (at_builtin; refine append_bytes _ rfl (.tmp 45) (.tmp 47) 25 rfl (w.heap.size + 1) 5 Try.info5 Try.underlying25 _ _ _ ([k % 256] ++ seqBytes s) rfl ho1 A n cap xs rfl HA.out (HR.out _ hB1) ?_ ?_ ?_; omega; (omega); intro A2 c2 w2 ho2 hb2)
    | (go_at_call 16; refine (rcheck_any _ _ _ _ _ ho2.reads ?_).mono ?_; omega; rintro e w' ⟨rfl, rfl⟩)
    | (at_builtin; refine append_bytes _ rfl (.tmp 49) (.tmp 52) 25 rfl (w.heap.size + 1) 5 Try.info5 Try.underlying25 _ _ _ _ rfl (ho2.alloc _) _ 1 1 [chk (([k % 256] ++ seqBytes s) ++ xs)] rfl (fun h => by cases h) (BReads.lit _ _ [chk (([k % 256] ++ seqBytes s) ++ xs)] _ _ (isBytes_cons (chk_bd _) isBytes_nil) rfl rfl) ?_ ?_ ?_; omega; (have := hb2.size; simp only [World.size_alloc] at this ⊢; omega); intro A3 c3 w3 ho3 hb3))
  go_ret
  have hz2 : w.heap.size < w2.heap.size := by have := hb2.size; first | omega | (simp only [World.size_alloc] at this; omega)
  refine ⟨_, _, _, rfl, ?_, ((hB1.trans (hb2.mono (Nat.le_succ _))).alloc (by omega) _).trans (hb3.mono (Nat.le_succ _))⟩
  rw [HW.out]
  exact ho3.more (Nat.le_succ _)

set_option maxHeartbeats 400000 in
theorem rwrite_num (k s m : Int) (A : Option Addr) (n cap : Nat) (xs : List Int) (w : World) (hx : BReads w A n xs) (hA : A = none → cap = 0) (hn : n ≤ 1000000) (_bs : 0 ≤ s ∧ s ≤ 65535) (bm : 0 ≤ m ∧ m ≤ 4294967295) (h1 : seqB k = false) (h2 : numB k = true) :
    Calls Try.prog 13 #[.agg #[.int .i64 k, .int .u16 s, .int .u32 m, .slice A n cap]] w fun e w' => ∃ A' n' c', e = .returned (.slice A' n' c') ∧ BOwns w' w.heap.size 5 A' n' c' (wr k s m xs) ∧ Below w.heap.size w w' := by
  have HA := Lib.hid hA
  have HW := Lib.hid (wr_num k s m xs h1 h2)
  have HO : Hid (∀ o, BOwns ((w.alloc o).alloc (.cells #[.int .u8 (k % 256)] 5)) (w.heap.size + 1) 5 (some ⟨w.heap.size + 1, 0, none⟩) 1 1 [k % 256]) :=
    fun o => BOwns.lit _ _ _ [k % 256] _ _ (isBytes_cons (bytes_mod k) isBytes_nil) (World.size_alloc _ _) rfl (Nat.le_refl _) (by decide)
  have HR : Hid (∀ W, Below w.heap.size w W → BReads W A n xs) := fun W h => hx.below h
  clear hA hx
  go_enter Try.func13, Try.ntmps13
  go_wp2_with (first
    | (go_at_call 25; refine (seq_any _ _).mono ?_; rintro e w' ⟨rfl, rfl⟩)
    | (go_at_call 26; refine (num_any _ _).mono ?_; rintro e w' ⟨rfl, rfl⟩)
    | (at_builtin; refine append_bytes _ rfl (.tmp 28) (.tmp 43) 25 rfl (w.heap.size + 1) 5 Try.info5 Try.underlying25 _ 1 1 [k % 256] rfl ((HO.out _).alloc _) _ 4 4 (numBytes m) rfl (fun h => by cases h) (BReads.lit _ _ (numBytes m) _ _ (isBytes_num m bm) (by simp only [World.size_alloc]) rfl) ?_ ?_ ?_; omega; (simp only [World.size_alloc]; omega); intro A1 c1 w1 ho1 hb1; have hB1 := ((((Below.refl w.heap.size w).alloc (Nat.le_refl _) _).alloc (by simp) _).alloc (by simp; omega) _).trans (hb1.mono (Nat.le_succ _)); have hz1 : w.heap.size < w1.heap.size := (by have := hb1.size; simp only [World.size_alloc] at this; omega); obtain ⟨hc1, _⟩ := bcell2 hb1)
    | (at_builtin; refine append_bytes _ rfl (.tmp 45) (.tmp 47) 25 rfl (w.heap.size + 1) 5 Try.info5 Try.underlying25 _ _ _ ([k % 256] ++ numBytes m) rfl ho1 A n cap xs rfl HA.out (HR.out _ hB1) ?_ ?_ ?_; omega; (omega); intro A2 c2 w2 ho2 hb2)
    | (go_at_call 16; refine (rcheck_any _ _ _ _ _ ho2.reads ?_).mono ?_; omega; rintro e w' ⟨rfl, rfl⟩)
    | (at_builtin; refine append_bytes _ rfl (.tmp 49) (.tmp 52) 25 rfl (w.heap.size + 1) 5 Try.info5 Try.underlying25 _ _ _ _ rfl (ho2.alloc _) _ 1 1 [chk (([k % 256] ++ numBytes m) ++ xs)] rfl (fun h => by cases h) (BReads.lit _ _ [chk (([k % 256] ++ numBytes m) ++ xs)] _ _ (isBytes_cons (chk_bd _) isBytes_nil) rfl rfl) ?_ ?_ ?_; omega; (have := hb2.size; simp only [World.size_alloc] at this ⊢; omega); intro A3 c3 w3 ho3 hb3))
  go_ret
  have hz2 : w.heap.size < w2.heap.size := by have := hb2.size; first | omega | (simp only [World.size_alloc] at this; omega)
  refine ⟨_, _, _, rfl, ?_, ((hB1.trans (hb2.mono (Nat.le_succ _))).alloc (by omega) _).trans (hb3.mono (Nat.le_succ _))⟩
  rw [HW.out]
  exact ho3.more (Nat.le_succ _)

theorem rwrite_any (k s m : Int) (A : Option Addr) (n cap : Nat) (xs : List Int) (w : World) (hx : BReads w A n xs) (hA : A = none → cap = 0) (hn : n ≤ 1000000) (bs : 0 ≤ s ∧ s ≤ 65535) (bm : 0 ≤ m ∧ m ≤ 4294967295) :
    Calls Try.prog 13 #[.agg #[.int .i64 k, .int .u16 s, .int .u32 m, .slice A n cap]] w fun e w' => ∃ A' n' c', e = .returned (.slice A' n' c') ∧ BOwns w' w.heap.size 5 A' n' c' (wr k s m xs) ∧ Below w.heap.size w w' := by
  rcases h1 : seqB k with _ | _
  · rcases h2 : numB k with _ | _
    · exact rwrite_plain k s m A n cap xs w hx hA hn bs bm h1 h2
    · exact rwrite_num k s m A n cap xs w hx hA hn bs bm h1 h2
  · exact rwrite_seq k s m A n cap xs w hx hA hn bs bm h1 (seq_num k h1)

end Go.Proofs.Ytbcleifhadkecaa
