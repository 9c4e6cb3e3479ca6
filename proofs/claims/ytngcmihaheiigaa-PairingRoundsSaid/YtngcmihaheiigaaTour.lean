/-
  A tournament in memory; none, free.
-/
import Derived.Test.YtngcmihaheiigaaCat
import Derived.Laws.BitsLemmas
import Derived.IntWalk
set_option linter.unusedSimpArgs false
set_option linter.unusedVariables false
namespace Go.Proofs.Ytngcmihaheiigaa
open Go.RowKit

structure TS where
  n : Nat
  rounds : List (List D)
  scores : List (List Int)
  open_ : Bool
def DOk (n : Nat) (d : D) : Prop := 0 ≤ d.a ∧ d.a < n ∧ (d.b = -1 ∨ (0 ≤ d.b ∧ d.b < n ∧ d.a ≠ d.b))
def D.pl (d : D) : List Int := if d.b = -1 then [d.a] else [d.a, d.b]
def plist (l : List D) : List Int := l.flatMap D.pl
def rangeI (n : Nat) : List Int := (List.range n).map fun k : Nat => (k : Int)
def RoundOk (n : Nat) (l : List D) : Prop := (∀ d ∈ l, DOk n d) ∧ (plist l).Perm (rangeI n)
structure TS.WF (st : TS) : Prop where
  n0 : 2 ≤ st.n ∧ st.n ≤ 14
  len : st.scores.length = st.rounds.length
  cnt : st.rounds.length ≤ 13
  rnd : ∀ l ∈ st.rounds, RoundOk st.n l
  sco : ∀ (k : Nat) (l : List D) (s : List Int), st.rounds[k]? = some l → st.scores[k]? = some s → s.length = l.length ∧ ∀ x ∈ s, -1 ≤ x ∧ x ≤ 2
  op : st.open_ = true → 0 < st.rounds.length
def MetOk (n : Nat) (ms : List Nat) (rs : List (List D)) : Prop := ms.length = n ∧ ∀ a, a < n → ∃ m, ms[a]? = some m ∧ m < 65536 ∧ ∀ b, b < n → m.testBit b = metS rs a b

structure Sl where
  A : Option Addr
  n : Nat
  c : Nat
def Sl.v (s : Sl) : Value := .slice s.A s.n s.c
def svs (l : List Sl) : List Value := l.map Sl.v
def mcs (l : List Nat) : List Value := l.map fun m : Nat => Value.int .u16 m
/-- Where the parts of a tournament lie. -/
structure TC where
  mA : Option Addr
  mc : Nat
  ms : List Nat
  RA : Option Addr
  rc : Nat
  rs : List Sl
  SA : Option Addr
  sc : Nat
  ss : List Sl
/-- Block p is a tournament in the state st; all of it lies from block B on. -/
structure Tn (w : World) (B p : Nat) (st : TS) (x : TC) : Prop where
  blk : Blk w p 57 #[.slice x.mA st.n x.mc, .slice x.RA st.rounds.length x.rc, .slice x.SA st.rounds.length x.sc, .bool st.open_]
  base : B ≤ p
  met : XOwns w B 67 1 x.mA st.n x.mc (mcs x.ms)
  rds : XOwns w B 29 1 x.RA st.rounds.length x.rc (svs x.rs)
  scs : XOwns w B 66 1 x.SA st.rounds.length x.sc (svs x.ss)
  ird : ∀ (k : Nat) (s : Sl) (l : List D), x.rs[k]? = some s → st.rounds[k]? = some l → XOwns w B 33 2 s.A s.n s.c (dcells l)
  isc : ∀ (k : Nat) (s : Sl) (l : List Int), x.ss[k]? = some s → st.scores[k]? = some l → XOwns w B 34 1 s.A s.n s.c (ics l)
  sep : ∀ (j k : Nat) (s t : Sl), j < k → x.ss[j]? = some s → x.ss[k]? = some t → blkOf t.A = none ∨ blkOf s.A ≠ blkOf t.A
  mok : MetOk st.n x.ms st.rounds
  ok : st.WF
section
variable {w w' : World} {B p : Nat} {st : TS} {x : TC}
theorem Tn.below (h : Tn w B p st x) (hb : Below w.heap.size w w') : Tn w' B p st x :=
  ⟨h.blk.call hb, h.base, h.met.below hb, h.rds.below hb, h.scs.below hb, fun k s l h1 h2 => (h.ird k s l h1 h2).below hb, fun k s l h1 h2 => (h.isc k s l h1 h2).below hb, h.sep, h.mok, h.ok⟩
/-- Which blocks a tournament may turn. -/
def MutT (p : Nat) (x : TC) (i : Nat) : Prop := i = p ∨ blkOf x.mA = some i ∨ blkOf x.RA = some i ∨ blkOf x.SA = some i ∨ ∃ (k : Nat) (s : Sl), x.ss[k]? = some s ∧ blkOf s.A = some i
/-- Which blocks it has. -/
def FootT (p : Nat) (x : TC) (i : Nat) : Prop := MutT p x i ∨ ∃ (k : Nat) (s : Sl), x.rs[k]? = some s ∧ blkOf s.A = some i
theorem Tn.rs_len (h : Tn w B p st x) : x.rs.length = st.rounds.length := by have := h.rds.len; simpa [svs] using this
theorem Tn.ss_len (h : Tn w B p st x) : x.ss.length = st.rounds.length := by have := h.scs.len; simpa [svs] using this
theorem Tn.onlyF {F : Nat → Prop} (h : Tn w B p st x) (ho : OnlyF F w w') (hF : ∀ i, FootT p x i → ¬ F i) : Tn w' B p st x :=
  ⟨h.blk.onlyF ho (hF _ (.inl (.inl rfl))), h.base, h.met.onlyF ho (fun i hi => hF i (.inl (.inr (.inl hi)))), h.rds.onlyF ho (fun i hi => hF i (.inl (.inr (.inr (.inl hi))))), h.scs.onlyF ho (fun i hi => hF i (.inl (.inr (.inr (.inr (.inl hi)))))),
    fun k s l h1 h2 => (h.ird k s l h1 h2).onlyF ho (fun i hi => hF i (.inr ⟨k, s, h1, hi⟩)), fun k s l h1 h2 => (h.isc k s l h1 h2).onlyF ho (fun i hi => hF i (.inl (.inr (.inr (.inr (.inr ⟨k, s, h1, hi⟩)))))), h.sep, h.mok, h.ok⟩
theorem Tn.foot (h : Tn w B p st x) : ∀ i, FootT p x i → B ≤ i ∧ i < w.heap.size := by
  rintro i ((rfl | hi | hi | hi | ⟨k, s, hk, hi⟩) | ⟨k, s, hk, hi⟩)
  · exact ⟨h.base, h.blk.lt⟩
  · exact h.met.lt i hi
  · exact h.rds.lt i hi
  · exact h.scs.lt i hi
  · have hl : k < st.scores.length := by rw [h.ok.len, ← h.ss_len]; exact (List.getElem?_eq_some_iff.1 hk).1
    exact (h.isc k s _ hk (List.getElem?_eq_getElem hl)).lt i hi
  · have hl : k < st.rounds.length := by rw [← h.rs_len]; exact (List.getElem?_eq_some_iff.1 hk).1
    exact (h.ird k s _ hk (List.getElem?_eq_getElem hl)).lt i hi
end

set_option maxHeartbeats 400000 in
theorem none_f (B p : Nat) (st : TS) (x : TC) (w : World) (h : Tn w B p st x) : Calls Try.prog 25 #[.pointer (some ⟨p, 0, none⟩)] w fun e w' => e = .returned (.bool false) ∧ w = w' := by
  have x0 := (h.blk.at_ 0).trans rfl
  have hn := h.ok.n0
  have hn' : ((st.n : Int) == 0) = false := by rw [beq_eq_false_iff_ne]; omega
  clear h
  go_enter Try.func25, Try.ntmps25
  go_wp2
  go_ret
  exact ⟨rfl, rfl⟩
theorem free_bit (m b : Nat) (hb : b < 16) : decide (((m : Int) / 2 ^ b) % 2 = 0) = !m.testBit b := by
  have h1 : ((m : Int) / 2 ^ b) = ((m / 2 ^ b : Nat) : Int) := by simp
  rw [h1, Nat.testBit_eq_decide_div_mod_eq]
  have h2 := Nat.mod_two_eq_zero_or_one (m / 2 ^ b)
  rcases h2 with h2 | h2
  · rw [h2]
    have : ((m / 2 ^ b : Nat) : Int) % 2 = 0 := by omega
    rw [this]; rfl
  · rw [h2]
    have : ((m / 2 ^ b : Nat) : Int) % 2 = 1 := by omega
    rw [this]; rfl
theorem wraps_u16 (n : Int) (h₀ : 0 ≤ n) (h₁ : n < 2 ^ 16) : IntKind.u16.wrap n = n := by
  simp [IntKind.wrap, IntKind.bits, IntKind.signed]; omega
theorem free_bits {m b : Nat} (hm : m < 65536) (hb : b < 16) : (bits .and .u16 ((m : Int) / 2 ^ b) 1 == 0) = !m.testBit b := by
  have h0 : (0 : Int) ≤ (m : Int) / 2 ^ b := Int.ediv_nonneg (by omega) (Int.pow_nonneg (by omega))
  have h1 : (m : Int) / 2 ^ b < 2 ^ 16 := by
    have h1 : ((m : Int) / 2 ^ b) = ((m / 2 ^ b : Nat) : Int) := by simp
    have h2 := Nat.div_le_self m (2 ^ b)
    rw [h1]
    omega
  have h2 := bits_mask .u16 16 (by decide) wraps_u16 1 (by decide) ((m : Int) / 2 ^ b) h0 h1
  rw [show ((2 : Int) ^ 1 - 1) = 1 from rfl, show ((2 : Int) ^ 1) = 2 from rfl] at h2
  rw [h2, ← free_bit m b hb]
  rfl
theorem ad_zero {g j : Nat} : (⟨g, 0, none⟩ : Addr).add j = ⟨g, j, none⟩ := by unfold Addr.add; split <;> simp_all

set_option maxHeartbeats 400000 in
theorem free_any (B p : Nat) (st : TS) (x : TC) (a b : Int) (w : World) (h : Tn w B p st x) (ha : 0 ≤ a ∧ a < st.n) (hb : 0 ≤ b ∧ b < st.n) : Calls Try.prog 40 #[.pointer (some ⟨p, 0, none⟩), .int .i64 a, .int .i64 b] w fun e w' => e = .returned (.bool (!metS st.rounds a b)) ∧ w = w' := by
  obtain ⟨a, rfl⟩ : ∃ k : Nat, a = k := ⟨a.toNat, by omega⟩
  obtain ⟨b, rfl⟩ : ∃ k : Nat, b = k := ⟨b.toNat, by omega⟩
  have x0 := (h.blk.at_ 0).trans rfl
  have hn := h.ok.n0
  obtain ⟨hm1, hm2⟩ := h.mok
  obtain ⟨m, hm, hm16, hbit⟩ := hm2 a (by omega)
  obtain ⟨g, hg, _, _, hc, _⟩ := h.met.cell (j := a) (u := .int .u16 m) (by simp [mcs, hm])
  have HB := Lib.hid (hbit b (by omega))
  rw [hg] at x0
  have ha' : (a : Int) < st.n := by omega
  have hb0 : (0 : Int) ≤ b := by omega
  have HF := Lib.hid (free_bits hm16 (show b < 16 by omega))
  clear h hbit hm hm1 hm2
  go_enter Try.func40, Try.ntmps40
  go_wp2
  go_ret
  exact ⟨by rw [← HB.out, ← HF.out]; rfl, rfl⟩
end Go.Proofs.Ytngcmihaheiigaa
