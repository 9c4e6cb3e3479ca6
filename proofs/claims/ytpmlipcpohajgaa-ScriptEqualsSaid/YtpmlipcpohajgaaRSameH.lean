/-
  The reference's Same: words.
-/
import Derived.Test.YtpmlipcpohajgaaSame
import Derived.Deep.QuietTactic
import Derived.BigQuiet
set_option linter.unusedSimpArgs false
set_option linter.unusedVariables false
namespace Go.Proofs.Ytpmlipcpohajgaa
open Go.RowKit

theorem did_f1 {x y : DidC} (h : (x.sk != y.sk) = true) : didEq x y = false := by
  have h2 : (x.sk == y.sk) = false := by simpa [bne] using h
  simp [didEq, stepEq, h2]
theorem did_f2 {x y : DidC} (h : (x.sc != y.sc) = true) : didEq x y = false := by
  have h2 : (x.sc == y.sc) = false := by simpa [bne] using h
  simp [didEq, stepEq, h2]
theorem did_f3 {x y : DidC} (h : (x.sn != y.sn) = true) : didEq x y = false := by
  have h2 : (x.sn == y.sn) = false := by simpa [bne] using h
  simp [didEq, stepEq, h2]
theorem did_f4 {x y : DidC} (h : (x.sd == y.sd) = false) : didEq x y = false := by simp [didEq, stepEq, h]
theorem did_f5 {x y : DidC} (h : (x.err != y.err) = true) : didEq x y = false := by
  have h2 : (x.err == y.err) = false := by simpa [bne] using h
  simp [didEq, stepEq, h2]
theorem did_f6 {x y : DidC} (h : (x.n != y.n) = true) : didEq x y = false := by
  have h2 : (x.n == y.n) = false := by simpa [bne] using h
  simp [didEq, stepEq, h2]
theorem did_f7 {x y : DidC} (h : (x.work != y.work) = true) : didEq x y = false := by
  have h2 : (x.work == y.work) = false := by simpa [bne] using h
  simp [didEq, stepEq, h2]
theorem did_f8 {x y : DidC} (h : (x.at_ != y.at_) = true) : didEq x y = false := by
  have h2 : (x.at_ == y.at_) = false := by simpa [bne] using h
  simp [didEq, stepEq, h2]
theorem did_f9 {x y : DidC} (h : (x.sents.length != y.sents.length) = true) : didEq x y = false := by
  have h2 : (x.sents.length == y.sents.length) = false := by simpa [bne] using h
  simp [didEq, sentsEq, allEq, h2]
theorem did_f10 {x y : DidC} (h : (x.moves.length != y.moves.length) = true) : didEq x y = false := by
  have h2 : (x.moves.length == y.moves.length) = false := by simpa [bne] using h
  simp [didEq, movesEq, allEq, h2]
theorem conv_drew {P : Program} {w : World} {A : Option Addr} {n : Nat} {xs : List Int} (h : BReads w A n xs) (cap : Nat) (src e : TypeId) (hs : P.underlying src = some (.slice e)) (he : P.underlying e = some (.int .u8)) (dst : TypeId) (hd : P.underlying dst = some .string) :
    ∀ q, (convert src dst (.slice A n cap)).run P (w.drewN q) = .ok (.string (strOfNums xs)) (w.drewN q) := fun q => convert_bytes (h.drewN q) cap src e hs he dst hd

theorem did_true {x y : DidC} (e1 : (x.sk != y.sk) = false) (e2 : (x.sc != y.sc) = false) (e3 : (x.sn != y.sn) = false) (e4 : (x.sd == y.sd) = true) (e5 : (x.err != y.err) = false) (e6 : (x.n != y.n) = false) (e7 : (x.work != y.work) = false) (e8 : (x.at_ != y.at_) = false)
    (h1 : sentsEq x.sents y.sents = true) (h2 : movesEq x.moves y.moves = true) : didEq x y = true := by
  simp only [bne_eq_false_iff_eq] at e1 e2 e3 e5 e6 e7 e8
  simp [didEq, stepEq, e1, e2, e3, e4, e5, e6, e7, e8, h1, h2]
theorem all_ne {α : Type} {d : α} {eq : α → α → Bool} {l m : List α} {k : Nat} (hk : k < l.length) (h : eq (l.getD k d) (m.getD k d) = false) : allEq d eq l m = false := by
  rw [Bool.eq_false_iff]
  intro h'
  unfold allEq at h'
  rw [Bool.and_eq_true, List.all_eq_true] at h'
  have := h'.2 k (List.mem_range.2 hk)
  rw [this] at h
  cases h
theorem did_sents {x y : DidC} {k : Nat} (hk : k < x.sents.length) (h : sentEq (x.sents.getD k s0) (y.sents.getD k s0) = false) : didEq x y = false := by
  have : sentsEq x.sents y.sents = false := all_ne hk h
  simp [didEq, this]
theorem did_moves {x y : DidC} {k : Nat} (hk : k < x.moves.length) (h : moveEq (x.moves.getD k m0) (y.moves.getD k m0) = false) : didEq x y = false := by
  have : movesEq x.moves y.moves = false := all_ne hk h
  simp [didEq, this]

end Go.Proofs.Ytpmlipcpohajgaa
