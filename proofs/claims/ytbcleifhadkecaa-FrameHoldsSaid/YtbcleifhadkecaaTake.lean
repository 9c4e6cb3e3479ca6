/-
  take, and bytes.Clone.
-/
import Derived.Test.YtbcleifhadkecaaLaw
import Derived.Test.YtbcleifhadkecaaRWrite
import Derived.Deep.QuietTactic
import Derived.BigQuiet
import Derived.Laws.BitsAllLaws
set_option linter.unusedSimpArgs false
namespace Go.Proofs.Ytbcleifhadkecaa
open Go.RowKit

/-- A number, its greatest byte first. -/
def be (xs : List Int) : Int := xs.foldl (fun a c => a * 256 + c) 0
theorem be_bd (xs : List Int) (h : IsBytes xs) (h4 : xs.length ≤ 3) : 0 ≤ be xs ∧ be xs ≤ 16777215 := by
  match xs, h, h4 with
  | [], _, _ => decide
  | [a], h, _ =>
    have ha := h a (by simp)
    simp [be]; omega
  | [a, b], h, _ =>
    have ha := h a (by simp)
    have hb := h b (by simp)
    simp [be]; omega
  | [a, b, c], h, _ =>
    have ha := h a (by simp)
    have hb := h b (by simp)
    have hc := h c (by simp)
    simp [be]; omega
theorem be_snoc (xs : List Int) (k : Nat) (hk : k < xs.length) : be (xs.take (k + 1)) = be (xs.take k) * 256 + nth xs k := by
  have hg : nth xs k = xs[k]'hk := by simp [nth, List.getD, List.getElem?_eq_getElem hk]
  rw [List.take_succ_eq_append_getElem hk, hg]
  unfold be
  rw [List.foldl_append]
  rfl

theorem or_bytes (a c : Int) (h0 : 0 ≤ a) (h1 : a ≤ 16777215) (c0 : 0 ≤ c) (c1 : c ≤ 255) : bits .or .u32 (a * 256) c = a * 256 + c := by
  rw [u32_or _ _ (by omega) (by omega) c0 (by omega)]
  obtain ⟨x, rfl⟩ := Int.eq_ofNat_of_zero_le h0
  obtain ⟨y, rfl⟩ := Int.eq_ofNat_of_zero_le c0
  have e : ((x : Int) * 256).toNat = x <<< 8 := by rw [Nat.shiftLeft_eq]; omega
  rw [e, Int.toNat_natCast, ← Nat.shiftLeft_add_eq_or_of_lt (by omega), Nat.shiftLeft_eq]
  omega

def TakePost (A : Option Addr) (w : World) (n : Nat) (xs : List Int) (j : Nat) (e : Ending) (w' : World) : Prop :=
  ∃ A' c', e = .returned (.tuple #[.int .u32 (be (xs.take j)), .slice A' (n - j) c']) ∧ (∀ W, BReads W A n xs → BReads W A' (n - j) (xs.drop j)) ∧ (A' = none → c' = 0) ∧ n - j ≤ c' ∧ ∃ nq, w' = w.drewN nq

theorem BReads.cut {w : World} {A : Option Addr} {n cap : Nat} {xs : List Int} (h : BReads w A n xs) {k : Nat} (hk : k ≤ n) (hc : n ≤ cap) :
    BReads w (if cap = k then A else A.map (·.add k)) (n - k) (xs.drop k) := by
  have := h.1.cut hk hc
  simp only [Nat.mul_one] at this
  exact ⟨by simpa [bys] using this, fun x hx => h.2 x (List.mem_of_mem_drop hx)⟩
theorem BReads.head {w : World} {A : Option Addr} {n : Nat} {xs : List Int} (h : BReads w A n xs) {k : Nat} (hk : k ≤ n) : BReads w A k (xs.take k) := by
  have := h.1.head hk
  simp only [Nat.mul_one] at this
  exact ⟨by simpa [bys] using this, fun x hx => h.2 x (List.mem_of_mem_take hx)⟩

theorem be2_bd (xs : List Int) (h : IsBytes xs) : 0 ≤ be (xs.take 2) ∧ be (xs.take 2) ≤ 65535 := by
  match xs, h with
  | [], _ => decide
  | [a], h =>
    have ha := h a (by simp)
    simp [be]; omega
  | a :: b :: l, h =>
    have ha := h a (by simp)
    have hb := h b (by simp)
    simp [be]; omega

set_option maxHeartbeats 400000 in
theorem take_any (A : Option Addr) (n cap : Nat) (xs : List Int) (j : Nat) (w : World) (hr : BReads w A n xs) (hA : A = none → cap = 0) (hn : n ≤ 1000000) (hc : n ≤ cap) (hj : j ≤ n) (h4 : j ≤ 4) :
    Calls Try.prog 29 #[.slice A n cap, .int .i64 j] w (TakePost A w n xs j) := by
  have HC : Hid (∀ W, BReads W A n xs → BReads W (if cap = j then A else A.map (·.add j)) (n - j) (xs.drop j)) := fun W h => h.cut hj hc
  have HA := Lib.hid hA
  clear hA
  go_enter Try.func29, Try.ntmps29
  go_wp2
  go_loop [6, 8, 13] (fun x c i => ∃ k : Nat, k ≤ j ∧ i = .int .i64 k ∧ x = .int .u32 (be (xs.take k))) (fun _ _ i => j - (intOf i).toNat)
  case atStart => exact ⟨0, Nat.zero_le _, rfl, rfl⟩
  case round =>
    obtain ⟨k, hk, rfl, rfl⟩ := hrel
    have hlen := hr.length
    by_cases hlt : k < j
    · obtain ⟨ad, rfl, hc, h0, h1⟩ := hr.at_ (show k < n by omega)
      have hb := be_bd (xs.take k) (fun x hx => hr.2 x (List.mem_of_mem_take hx)) (by simp; omega)
      go_wp2
      refine ⟨⟨k + 1, by omega, by go_num, ?_⟩, by simp [intOf]; omega⟩
      rw [or_bytes _ _ hb.1 hb.2 h0 h1, be_snoc xs k (by omega)]
    · have hkn : k = j := by omega
      subst hkn
      go_wp2
      go_quiet (fail)
      go_wp2
      · have hck : cap = k := by assumption
        have H := HC.out
        simp only [if_pos hck] at H
        go_ret2
        exact ⟨_, _, rfl, H, fun _ => rfl, by omega, _, rfl⟩
      · have hck : ¬ cap = k := by assumption
        have H := HC.out
        simp only [if_neg hck] at H
        go_ret2
        exact ⟨_, _, rfl, H, (fun h => by have := HA.out (by simpa using h); omega), by omega, _, rfl⟩

/-- bytes.Clone of a slice that isn't nil or that is. -/
def ClonePost (w : World) (n : Nat) (xs : List Int) (e : Ending) (w' : World) : Prop :=
  ∃ A' c', e = .returned (.slice A' n c') ∧ BOwns w' w.heap.size 5 A' n c' xs ∧ Below w.heap.size w w'

set_option maxHeartbeats 400000 in
theorem clone_nil (n cap : Nat) (xs : List Int) (w : World) (hr : BReads w none n xs) :
    Calls Try.prog 30 #[.slice none n cap] w (ClonePost w n xs) := by
  have hl := hr.length
  have hn : n = 0 := by
    rcases Nat.eq_zero_or_pos n with h0 | h0
    · exact h0
    · obtain ⟨ad, e, _⟩ := hr.1.2 h0
      cases e
  subst hn
  have hx : xs = [] := List.eq_nil_of_length_eq_zero hl
  subst hx
  clear hl hr
  have h1 := fun W => Lib.run_eql_slice_nil (P := Try.prog) W 25 5 none 0 cap 0 0 Try.underlying25
  go_enter Try.func30, Try.ntmps30
  go_wp2
  go_ret
  exact ⟨_, _, rfl, BOwns.nil _ _ _, Below.refl _ _⟩

set_option maxHeartbeats 400000 in
theorem clone_some (a : Addr) (n cap : Nat) (xs : List Int) (w : World) (hr : BReads w (some a) n xs) (hn : n ≤ 1000000) :
    Calls Try.prog 30 #[.slice (some a) n cap] w (ClonePost w n xs) := by
  have h1 := fun W => Lib.run_eql_slice_nil (P := Try.prog) W 25 5 (some a) n cap 0 0 Try.underlying25
  have HO : Hid (BOwns (w.alloc (.cells #[] 5)) w.heap.size 5 (some ⟨w.heap.size, 0, none⟩) 0 0 []) :=
    BOwns.lit w w.heap.size 5 [] _ 0 isBytes_nil rfl rfl (Nat.le_refl _) (by decide)
  have HR := Lib.hid (hr.alloc (.cells #[] 5))
  clear hr
  go_enter Try.func30, Try.ntmps30
  go_wp2_with (at_builtin; refine append_bytes _ rfl (.tmp 5) (.tmp 6) 25 rfl w.heap.size 5 Try.info5 Try.underlying25 _ 0 0 [] rfl HO.out (some a) n cap xs rfl (fun h => by cases h) HR.out ?_ ?_ ?_; omega; (simp only [World.size_alloc]; omega); intro A2 c2 w2 ho2 hb2)
  go_ret
  simp only [Nat.zero_add, List.nil_append] at ho2
  exact ⟨_, _, rfl, ho2, ((Below.refl _ _).alloc (Nat.le_refl _) _).trans hb2⟩

theorem clone_any (A : Option Addr) (n cap : Nat) (xs : List Int) (w : World) (hr : BReads w A n xs) (hn : n ≤ 1000000) :
    Calls Try.prog 30 #[.slice A n cap] w (ClonePost w n xs) := by
  cases A with
  | none => exact clone_nil n cap xs w hr
  | some a => exact clone_some a n cap xs w hr hn
end Go.Proofs.Ytbcleifhadkecaa
