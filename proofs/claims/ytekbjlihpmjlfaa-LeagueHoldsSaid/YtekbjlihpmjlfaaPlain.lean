/-
  The plain law of the league: games, rows, the order of the table.
-/
import Derived.Test.YtekbjlihpmjlfaaMem
import Derived.Shelf.SlSortCmp.WholeK
namespace Go.Proofs.Ytekbjlihpmjlfaa
open Go.Shelf Go.Lib Go.Sort

structure Gm where
  a : Int
  b : Int
  o : Int
deriving DecidableEq
def Gm.cells (g : Gm) : List Value := [.int .i64 g.a, .int .i64 g.b, .int .i64 g.o]
def gcells (l : List Gm) : List Value := l.flatMap Gm.cells
structure Rw where
  pl : Int
  pt : Int
  am : Int
  wi : Int
  dr : Int
  lo : Int
deriving DecidableEq, Inhabited
def Rw.cells (r : Rw) : List Value := [.int .i64 r.pl, .int .i64 r.pt, .int .i64 r.am, .int .i64 r.wi, .int .i64 r.dr, .int .i64 r.lo]
def rcells (l : List Rw) : List Value := l.flatMap Rw.cells
structure D where
  a : Int
  b : Int
deriving DecidableEq, Inhabited
def D.cells (d : D) : List Value := [.int .i64 d.a, .int .i64 d.b]
def dcells (l : List D) : List Value := l.flatMap D.cells
def ics (l : List Int) : List Value := l.map (Value.int .i64)
theorem ics_one (l : List Int) : ∀ u ∈ ics l, u.oneCell' = true := by
  intro u hu
  obtain ⟨x, _, rfl⟩ := List.mem_map.1 hu
  rfl

/-! ### The order of two rows -/
def cmpI (a b : Int) : Int := if a < b then -1 else if b < a then 1 else 0
def orI : List Int → Int
  | [] => 0
  | x :: l => if x = 0 then orI l else x
def cmpR (x y : Rw) : Int := orI [cmpI y.pt x.pt, cmpI y.am x.am, cmpI y.wi x.wi, cmpI x.pl y.pl]
def cmpD (x y : D) : Int := cmpI (min x.a x.b) (min y.a y.b)
/-- The first row stands ahead of the second. -/
def Ahead (x y : Rw) : Prop := y.pt < x.pt ∨ (x.pt = y.pt ∧ (y.am < x.am ∨ (x.am = y.am ∧ (y.wi < x.wi ∨ (x.wi = y.wi ∧ x.pl < y.pl)))))
instance (x y : Rw) : Decidable (Ahead x y) := by unfold Ahead; infer_instance
theorem cmpI_neg {a b : Int} : cmpI a b < 0 ↔ a < b := by
  unfold cmpI
  split
  · omega
  · split <;> omega
theorem cmpI_zero {a b : Int} : cmpI a b = 0 ↔ a = b := by
  unfold cmpI
  split
  · omega
  · split <;> omega
theorem cmpR_neg {x y : Rw} : cmpR x y < 0 ↔ Ahead x y := by
  unfold cmpR Ahead
  simp only [orI]
  have h1 := @cmpI_zero y.pt x.pt
  have h2 := @cmpI_zero y.am x.am
  have h3 := @cmpI_zero y.wi x.wi
  have h4 := @cmpI_zero x.pl y.pl
  have g1 := @cmpI_neg y.pt x.pt
  have g2 := @cmpI_neg y.am x.am
  have g3 := @cmpI_neg y.wi x.wi
  have g4 := @cmpI_neg x.pl y.pl
  split
  · split
    · split
      · split <;> omega
      · omega
    · omega
  · omega
theorem cmpR_lt {x y : Rw} : ltOf cmpR x y = decide (Ahead x y) := by
  unfold ltOf
  rw [decide_eq_decide]
  exact cmpR_neg
theorem cmpR_swo : SWO (ltOf cmpR) where
  irrefl x := by rw [cmpR_lt]; exact decide_eq_false (by unfold Ahead; omega)
  trans x y z h1 h2 := by
    rw [cmpR_lt, decide_eq_true_eq] at *
    unfold Ahead at *; omega
  ntrans x y z h1 h2 := by
    rw [cmpR_lt, decide_eq_false_iff_not] at *
    unfold Ahead at *; omega
theorem cmpD_lt {x y : D} : ltOf cmpD x y = decide (min x.a x.b < min y.a y.b) := by
  unfold ltOf cmpD
  rw [decide_eq_decide]
  exact cmpI_neg
theorem cmpD_swo : SWO (ltOf cmpD) where
  irrefl x := by rw [cmpD_lt]; exact decide_eq_false (by omega)
  trans x y z h1 h2 := by
    rw [cmpD_lt, decide_eq_true_eq] at *
    omega
  ntrans x y z h1 h2 := by
    rw [cmpD_lt, decide_eq_false_iff_not] at *
    omega

/-! ### A game's points -/
def Inv (g : Gm) (p : Int) : Prop := g.a = p ∨ g.b = p
instance (g : Gm) (p : Int) : Decidable (Inv g p) := by unfold Inv; infer_instance
/-- The points of a player in a game. -/
def scS (g : Gm) (p : Int) : Int := if ¬ Inv g p then 0 else if g.o = 3 then 1 else if (g.a = p ↔ g.o = 1) then 3 else 0
def sumS (l : List Gm) (p : Int) : Int := (l.map fun g => scS g p).sum
def cntS (v : Int) (l : List Gm) (p : Int) : Int := (l.map fun g => if Inv g p ∧ scS g p = v then 1 else 0).sum
/-- The points among those with the same points: by a list of all games. -/
def amT (all l : List Gm) (p : Int) : Int := (l.map fun g => if sumS all g.a = sumS all g.b then scS g p else 0).sum
def row0 (l : List Gm) (p : Int) : Rw := ⟨p, sumS l p, 0, cntS 3 l p, cntS 1 l p, cntS 0 l p⟩
def rowA (all l : List Gm) (p : Int) : Rw := ⟨p, sumS all p, amT all l p, cntS 3 all p, cntS 1 all p, cntS 0 all p⟩
def rowS (l : List Gm) (p : Int) : Rw := rowA l l p
def rangeI (n : Nat) : List Int := (List.range n).map fun k : Nat => (k : Int)
theorem rangeI_len (n : Nat) : (rangeI n).length = n := by simp [rangeI]
theorem rangeI_get {n k : Nat} (h : k < n) : (rangeI n)[k]? = some (k : Int) := by simp [rangeI, List.getElem?_map, List.getElem?_range h]
def rows0 (n : Nat) (l : List Gm) : List Rw := (rangeI n).map (row0 l)
def rowsA (n : Nat) (all l : List Gm) : List Rw := (rangeI n).map (rowA all l)
def rowsS (n : Nat) (l : List Gm) : List Rw := (rangeI n).map (rowS l)
def GOk (n : Int) (g : Gm) : Prop := 0 ≤ g.a ∧ g.a < n ∧ 0 ≤ g.b ∧ g.b < n ∧ g.a ≠ g.b ∧ 1 ≤ g.o ∧ g.o ≤ 3
instance (n : Int) (g : Gm) : Decidable (GOk n g) := by unfold GOk; infer_instance
/-- The error of players and games. -/
def errS (n : Int) (l : List Gm) : Int := if 2000 < l.length then 5 else if n < 2 ∨ 40 < n then 2 else if l.all (fun g => decide (GOk n g)) = true then 0 else 2

/-! ### The table sorted -/
def insR (x : Rw) : List Rw → List Rw
  | [] => [x]
  | y :: l => if Ahead y x then y :: insR x l else x :: y :: l
def srtR (l : List Rw) : List Rw := l.foldl (fun a x => insR x a) []
theorem insR_perm (x : Rw) : ∀ l, (insR x l).Perm (x :: l)
  | [] => List.Perm.refl _
  | y :: l => by
    unfold insR
    split
    · exact ((insR_perm x l).cons y).trans (List.Perm.swap x y l)
    · exact List.Perm.refl _
theorem Ahead.trans {x y z : Rw} (h : Ahead x y) (h' : Ahead y z) : Ahead x z := by unfold Ahead at *; omega
theorem Ahead.asymm {x y : Rw} (h : Ahead x y) : ¬ Ahead y x := by unfold Ahead at *; omega
theorem Ahead.total {x y : Rw} (h : x.pl ≠ y.pl) : Ahead x y ∨ Ahead y x := by unfold Ahead; omega
theorem insR_sorted (x : Rw) : ∀ l : List Rw, l.Pairwise Ahead → (∀ y ∈ l, y.pl ≠ x.pl) → (insR x l).Pairwise Ahead
  | [], _, _ => by simp [insR]
  | y :: l, h, hd => by
    have hp := List.pairwise_cons.1 h
    unfold insR
    split
    · rename_i hy
      refine List.pairwise_cons.2 ⟨fun z hz => ?_, insR_sorted x l hp.2 (fun z hz => hd z (List.mem_cons_of_mem _ hz))⟩
      rcases List.mem_cons.1 ((insR_perm x l).mem_iff.1 hz) with rfl | hz
      · exact hy
      · exact hp.1 z hz
    · rename_i hy
      have hxy : Ahead x y := by
        rcases Ahead.total (hd y (List.mem_cons_self ..)) with h1 | h1
        · exact absurd h1 hy
        · exact h1
      refine List.pairwise_cons.2 ⟨fun z hz => ?_, h⟩
      rcases List.mem_cons.1 hz with rfl | hz
      · exact hxy
      · exact hxy.trans (hp.1 z hz)
theorem srt_both : ∀ (l acc : List Rw), acc.Pairwise Ahead → ((acc ++ l).map Rw.pl).Nodup → (l.foldl (fun a x => insR x a) acc).Perm (acc ++ l) ∧ (l.foldl (fun a x => insR x a) acc).Pairwise Ahead := by
  intro l
  induction l with
  | nil => intro acc h _; exact ⟨by simp, h⟩
  | cons x l ih =>
    intro acc h hn
    have hp := insR_perm x acc
    have hperm : (insR x acc ++ l).Perm (acc ++ x :: l) := by
      refine (List.Perm.append_right l hp).trans ?_
      simp only [List.cons_append]
      exact List.perm_middle.symm
    have hd : ∀ y ∈ acc, y.pl ≠ x.pl := by
      intro y hy e
      rw [List.map_append, List.map_cons] at hn
      exact (List.nodup_append.1 hn).2.2 y.pl (List.mem_map_of_mem hy) x.pl (List.mem_cons_self ..) e
    have h2 := ih (insR x acc) (insR_sorted x acc h hd) ((hperm.map Rw.pl).nodup_iff.2 hn)
    exact ⟨h2.1.trans hperm, h2.2⟩
theorem srtR_perm {l : List Rw} (h : (l.map Rw.pl).Nodup) : (srtR l).Perm l := by
  have := (srt_both l [] List.Pairwise.nil (by simpa using h)).1
  rwa [List.nil_append] at this
theorem srtR_sorted {l : List Rw} (h : (l.map Rw.pl).Nodup) : (srtR l).Pairwise Ahead := (srt_both l [] List.Pairwise.nil (by simpa using h)).2
theorem perm_eqR : ∀ {l m : List Rw}, l.Perm m → l.Pairwise Ahead → m.Pairwise Ahead → l = m := by
  intro l
  induction l with
  | nil => intro m h _ _; exact (h.nil_eq)
  | cons a l ih =>
    intro m h hl hm
    cases m with
    | nil => exact absurd h.symm.nil_eq (by simp)
    | cons b m =>
      have hl' := List.pairwise_cons.1 hl
      have hm' := List.pairwise_cons.1 hm
      have hab : a = b := by
        rcases List.mem_cons.1 (h.mem_iff.1 (List.mem_cons_self ..)) with h1 | h1
        · exact h1
        · rcases List.mem_cons.1 (h.mem_iff.2 (List.mem_cons_self ..)) with h2 | h2
          · exact h2.symm
          · exact absurd (hm'.1 a h1) (Ahead.asymm (hl'.1 b h2))
      subst hab
      rw [ih ((List.perm_cons a).1 h) hl'.2 hm'.2]
theorem rows_pl (n : Nat) (f : Int → Rw) (hf : ∀ p, (f p).pl = p) : (((rangeI n).map f).map Rw.pl).Nodup := by
  rw [List.map_map, show (Rw.pl ∘ f) = id from funext hf, List.map_id]
  unfold rangeI
  rw [List.Nodup, List.pairwise_map]
  exact (List.nodup_range (n := n)).imp fun h e => h (by omega)
/-- The table. -/
def tabS (n : Nat) (l : List Gm) : List Rw := srtR (rowsS n l)
/-- What is a permutation, sorted, is the table. -/
theorem tab_of {n : Nat} {l : List Gm} {d d' : Array Rw} (hd : d.toList = rowsS n l) (hp : PermIn 0 d.size d d') (hs : SortedIn (ltOf cmpR) 0 d.size d') : d'.toList = tabS n l := by
  have hn := rows_pl n (rowS l) (fun p => rfl)
  obtain ⟨hsz, _, hpm⟩ := hp
  have hperm : d'.toList.Perm (rowsS n l) := by
    rw [← hd]
    rw [show d'.extract 0 d.size = d' by rw [← hsz]; exact Array.extract_size .., Array.extract_size] at hpm
    exact hpm
  refine perm_eqR (hperm.trans (srtR_perm hn).symm) ?_ (srtR_sorted hn)
  rw [List.pairwise_iff_getElem]
  intro i j hi hj hij
  have h1 := hs i j (Nat.zero_le _) hij (by rw [← hsz]; simpa using hj)
  rw [cmpR_lt, decide_eq_false_iff_not] at h1
  have e1 : d'[i]! = d'.toList[i] := by rw [getElem!_pos d' i (by simpa using hi)]; simp
  have e2 : d'[j]! = d'.toList[j] := by rw [getElem!_pos d' j (by simpa using hj)]; simp
  rw [e1, e2] at h1
  have hne : (d'.toList[i]).pl ≠ (d'.toList[j]).pl := by
    intro e
    have hnd : (d'.toList.map Rw.pl).Nodup := (hperm.map Rw.pl).nodup_iff.2 hn
    rw [List.Nodup, List.pairwise_map, List.pairwise_iff_getElem] at hnd
    exact hnd i j hi hj hij e
  rcases Ahead.total hne with h2 | h2
  · exact h2
  · exact absurd h2 h1
end Go.Proofs.Ytekbjlihpmjlfaa
