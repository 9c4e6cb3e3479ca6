/-
  Texts: Num, Who.
-/
import Derived.Test.YtagpphelgghbpaaGreatHk14
import Derived.Test.YtagpphelgghbpaaGreatHk2
/-
  The writer of views: plain: numbers as bytes, the numbers of a view.
-/
set_option linter.unusedSimpArgs false
set_option linter.unusedVariables false
namespace Go.Proofs.YtagpphelgghbpaaGreat
open Go.RowKit

/-! ### Numbers in groups of seven bits -/
def numF : Nat → Nat → List Int
  | 0, n => [(n : Int)]
  | f + 1, n => if n < 128 then [(n : Int)] else ((n % 128 + 128 : Nat) : Int) :: numF f (n / 128)
def numS (n : Nat) : List Int := numF n n
theorem numF_enough : ∀ (f g n : Nat), n ≤ f → n ≤ g → numF f n = numF g n := by
  intro f
  induction f with
  | zero =>
    intro g n h _
    obtain rfl : n = 0 := by omega
    cases g <;> simp [numF]
  | succ f ih =>
    intro g n h hg
    cases g with
    | zero =>
      obtain rfl : n = 0 := by omega
      simp [numF]
    | succ g =>
      simp only [numF]
      split
      · rfl
      · rw [ih g (n / 128) (by omega) (by omega)]
theorem numS_lt {n : Nat} (h : n < 128) : numS n = [(n : Int)] := by
  unfold numS
  cases n with
  | zero => rfl
  | succ n => simp only [numF, if_pos h]
theorem numS_ge {n : Nat} (h : 128 ≤ n) : numS n = ((n % 128 + 128 : Nat) : Int) :: numS (n / 128) := by
  unfold numS
  obtain ⟨k, rfl⟩ : ∃ k, n = k + 1 := ⟨n - 1, by omega⟩
  rw [numF, if_neg (by omega), numF_enough k ((k + 1) / 128) ((k + 1) / 128) (by omega) (Nat.le_refl _)]
theorem numS_bytes : ∀ n : Nat, IsBytes (numS n) := by
  intro n
  induction n using Nat.strongRecOn with
  | ind n ih =>
    rcases Nat.lt_or_ge n 128 with h | h
    · rw [numS_lt h]
      intro x hx
      rw [List.mem_singleton] at hx
      omega
    · rw [numS_ge h]
      intro x hx
      rcases List.mem_cons.1 hx with rfl | hx
      · omega
      · exact ih _ (by omega) x hx
theorem numS_pos (n : Nat) : 1 ≤ (numS n).length := by
  rcases Nat.lt_or_ge n 128 with h | h
  · rw [numS_lt h]; simp
  · rw [numS_ge h]; simp
theorem numS_len : ∀ (k n : Nat), n < 128 ^ (k + 1) → (numS n).length ≤ k + 1 := by
  intro k
  induction k with
  | zero =>
    intro n h
    rw [numS_lt (by omega)]
    simp
  | succ k ih =>
    intro n h
    rcases Nat.lt_or_ge n 128 with h0 | h0
    · rw [numS_lt h0]; simp
    · rw [numS_ge h0]
      have := ih (n / 128) (by rw [Nat.div_lt_iff_lt_mul (by omega), ← Nat.pow_succ]; exact h)
      simp only [List.length_cons]
      omega
theorem numS_len10 {n : Nat} (h : n < 2 ^ 64) : (numS n).length ≤ 10 := numS_len 9 n (Nat.lt_trans h (by decide))

/-- The number that bytes begin with, and how many bytes it has: what 'get' does. -/
def getL : Nat → Nat → Nat → List Int → Nat × Nat
  | 0, _, _, _ => (0, 0)
  | _ + 1, _, _, [] => (0, 0)
  | f + 1, i, n, x :: xs => if (i = 9 ∧ 1 < x) ∨ (0 < i ∧ x = 0) then (0, 0) else if x < 128 then (n + x.toNat * 128 ^ i, i + 1) else getL f (i + 1) (n + (x.toNat % 128) * 128 ^ i) xs
def getS (xs : List Int) : Nat × Nat := getL 10 0 0 xs
theorem getL_num (ys : List Int) : ∀ (m i n : Nat), i ≤ 9 → n + m * 128 ^ i < 2 ^ 64 → (0 < i → 0 < m) → getL (10 - i) i n (numS m ++ ys) = (n + m * 128 ^ i, i + (numS m).length) := by
  intro m
  induction m using Nat.strongRecOn with
  | ind m ih =>
    intro i n hi hb hp
    obtain ⟨f, hf⟩ : ∃ f, 10 - i = f + 1 := ⟨9 - i, by omega⟩
    rw [hf]
    rcases Nat.lt_or_ge m 128 with h | h
    · rw [numS_lt h]
      simp only [List.cons_append, List.nil_append, getL]
      rw [if_neg, if_pos (by omega)]
      · simp
      · rintro (⟨rfl, h1⟩ | ⟨h1, h2⟩)
        · have : m * 128 ^ 9 < 2 ^ 64 := by omega
          have h2 : (2 : Nat) ^ 64 = 2 * 128 ^ 9 := by decide
          rw [h2] at this
          have := Nat.lt_of_mul_lt_mul_right this
          omega
        · have := hp h1
          omega
    · rw [numS_ge h]
      have hi9 : i ≠ 9 := by
        rintro rfl
        have : m * 128 ^ 9 < 2 ^ 64 := by omega
        have h2 : (2 : Nat) ^ 64 = 2 * 128 ^ 9 := by decide
        rw [h2] at this
        have := Nat.lt_of_mul_lt_mul_right this
        omega
      have hsplit : m * 128 ^ i = (m % 128) * 128 ^ i + (m / 128) * 128 ^ (i + 1) := by
        rw [Nat.pow_succ, Nat.mul_comm (128 ^ i) 128, ← Nat.mul_assoc, ← Nat.add_mul]
        congr 1
        omega
      simp only [List.cons_append, getL]
      rw [if_neg, if_neg (by omega)]
      · have hx : ((((m % 128 + 128 : Nat) : Int)).toNat % 128) = m % 128 := by omega
        rw [hx]
        have h1 := ih (m / 128) (by omega) (i + 1) (n + m % 128 * 128 ^ i) (by omega) (by rw [Nat.add_assoc, ← hsplit]; exact hb) (fun _ => by omega)
        rw [show 10 - (i + 1) = f by omega] at h1
        rw [h1, Nat.add_assoc, ← hsplit]
        simp only [List.length_cons, Prod.mk.injEq, true_and]
        omega
      · rintro (⟨h1, _⟩ | ⟨_, h2⟩)
        · exact hi9 h1
        · omega
theorem getS_num {n : Nat} (h : n < 2 ^ 64) (ys : List Int) : getS (numS n ++ ys) = (n, (numS n).length) := by
  have := getL_num ys n 0 0 (by omega) (by simpa using h) (fun h => absurd h (by omega))
  unfold getS
  simpa using this


/-- A number without its sign. -/
def zig (n : Int) : Nat := if n < 0 then (-2 * n - 1).toNat else (2 * n).toNat
theorem zig_lt {n : Int} (h : wfI n) : zig n < 2 ^ 64 := by
  unfold wfI at h
  unfold zig
  split <;> omega
theorem zig_inj {a b : Int} (h : zig a = zig b) : a = b := by
  unfold zig at h
  split at h <;> split at h <;> omega
/-- The bytes of a number, and of numbers. -/
def vi (n : Int) : List Int := numS (zig n)
def vis (l : List Int) : List Int := l.flatMap vi
theorem vis_nil : vis [] = [] := rfl
theorem vis_app (l m : List Int) : vis (l ++ m) = vis l ++ vis m := by simp [vis]
theorem vi_len {n : Int} (h : wfI n) : (vi n).length ≤ 10 := numS_len10 (zig_lt h)
theorem vis_len : ∀ {l : List Int}, (∀ x ∈ l, wfI x) → (vis l).length ≤ 10 * l.length
  | [], _ => by simp [vis]
  | x :: l, h => by
    have h1 := vi_len (h x (List.mem_cons_self ..))
    have h2 := vis_len (l := l) fun y hy => h y (List.mem_cons_of_mem _ hy)
    show (vi x ++ vis l).length ≤ _
    rw [List.length_append, List.length_cons]
    omega
theorem vis_bytes (l : List Int) : IsBytes (vis l) := by
  intro x hx
  obtain ⟨n, _, h⟩ := List.mem_flatMap.1 hx
  exact numS_bytes _ x h
/-- Different numbers have different bytes. -/
theorem vis_inj : ∀ {l m : List Int}, (∀ x ∈ l, wfI x) → (∀ x ∈ m, wfI x) → vis l = vis m → l = m
  | [], [], _, _, _ => rfl
  | [], y :: m, _, _, h => by
    have h0 : [] = numS (zig y) ++ vis m := h
    have h1 := congrArg List.length h0
    have h2 := numS_pos (zig y)
    rw [List.length_append, List.length_nil] at h1
    omega
  | x :: l, [], _, _, h => by
    have h0 : numS (zig x) ++ vis l = [] := h
    have h1 := congrArg List.length h0
    have h2 := numS_pos (zig x)
    rw [List.length_append, List.length_nil] at h1
    omega
  | x :: l, y :: m, hl, hm, h => by
    have h0 : numS (zig x) ++ vis l = numS (zig y) ++ vis m := h
    have e1 := getS_num (zig_lt (hl x (List.mem_cons_self ..))) (vis l)
    have e2 := getS_num (zig_lt (hm y (List.mem_cons_self ..))) (vis m)
    rw [h0, e2] at e1
    injection e1 with e1 e3
    have hxy := zig_inj e1
    subst hxy
    rw [vis_inj (fun z hz => hl z (List.mem_cons_of_mem _ hz)) (fun z hz => hm z (List.mem_cons_of_mem _ hz)) (List.append_cancel_left h0)]
/-! ### The numbers of a view -/
def tf (b : Bool) : Int := if b then 1 else 0
def obN (o : Ob) : List Int := [o.id, o.card, o.own, o.pow, o.tou, o.dam, o.cnt, o.pp, o.pt, tf o.tap, tf o.sick, tf o.doom]
def obsN (l : List Ob) : List Int := (l.length : Int) :: l.flatMap obN
def tgN (t : Tg) : List Int := [t.id, t.pl]
def itN (x : It) : List Int := [x.pl, x.id, x.card, x.trg, (x.tgs.length : Int)] ++ x.tgs.flatMap tgN
def itsN (l : List It) : List Int := (l.length : Int) :: l.flatMap itN
def bkN (x : Bk) : List Int := [x.b, x.a]
def vsN (v : Vs) : List Int := [v.life, v.p0, v.p1, v.p2, v.p3, v.lib, v.hand] ++ (obsN v.fld ++ (obsN v.grv ++ [tf v.emp, tf v.ply, tf v.kpt, v.mul, v.act]))
def vwN (who : Int) (p : Pu) (hd : List Ob) : List Int := who :: (vsN p.v0 ++ (vsN p.v1 ++ (obsN hd ++ (itsN p.stk ++ (itsN p.que ++ ((p.att.length : Int) :: (p.att ++ ((p.blk.length : Int) :: (p.blk.flatMap bkN ++ [p.turn, p.actv, p.phs, p.hold, p.pas, -1, 0, 0, 0])))))))))
end Go.Proofs.YtagpphelgghbpaaGreat

/-
  A struct as a whole in a region that draws its order: loaded, stored; a part of a block stored.
-/
set_option linter.unusedSimpArgs false
set_option linter.unusedVariables false
namespace Go.Proofs.YtagpphelgghbpaaGreat
open Go.RowKit

/-- A part of a function's code: region n. -/
def findR (n : Nat) : Code → Option Code
  | .region m ops b => if m = n then some (.region m ops b) else Option.none
  | .loop c => findR n c
  | .seq a b => match findR n a with
    | some c => some c
    | Option.none => findR n b
  | .block _ c => findR n c
  | .scope c => findR n c
  | .cond _ a b => match findR n a with
    | some c => some c
    | Option.none => findR n b
  | _ => Option.none
def regOf (f : Func) (n : Nat) : Code := (f.body.bind (findR n)).getD .skip
theorem ret_cell2 {fn : Func} {p q : Tmp} {ty : TypeId} {tmps : Array Value} {w : World} {g t : Nat} {cs : Array Value} {d : TypeDesc} (h : fn.results = #[.cell p ty, .tmp q]) (hp : tmps.getD p undef = .pointer (some ⟨g, 0, none⟩)) (hb : Blk w g t cs)
    (hu : Tryz.prog.underlying ty = some d) (hd : d.isRow = true) (hi : (Tryz.prog.info? ty).map (·.size) = some cs.size) : (results fn tmps).run Tryz.prog w = .ok (.tuple #[.agg cs, tmps.getD q undef]) w := by
  have hp' : tmps[p]?.getD undef = .pointer (some ⟨g, 0, none⟩) := by simpa using hp
  simp [results, h, hp', asAddr, run_loadVar_row w g t ty cs (0, 0) d hb hu (by cases d <;> simp_all) hi]
set_option maxRecDepth 100000 in
theorem size_seat : (Tryz.prog.info? 27).map (·.size) = some 14 := by decide +kernel
theorem one_se (v : Se) (m : SeM) : ∀ u ∈ v.cells m, u.oneCell' = true := by
  intro u hu
  simp only [Se.cells, Sl.v, List.mem_cons, List.not_mem_nil, or_false] at hu
  rcases hu with rfl | rfl | rfl | rfl | rfl | rfl | rfl | rfl | rfl | rfl | rfl | rfl | rfl | rfl <;> rfl
theorem one_vs (v : Vs) (m : VsM) : ∀ u ∈ v.cells m, u.oneCell' = true := by
  intro u hu
  simp only [Vs.cells, Sl.v, List.mem_cons, List.not_mem_nil, or_false] at hu
  rcases hu with rfl | rfl | rfl | rfl | rfl | rfl | rfl | rfl | rfl | rfl | rfl | rfl | rfl | rfl <;> rfl
theorem one_pu (p : Pu) (m : PuM) : ∀ u ∈ p.cells m, u.oneCell' = true := by
  intro u hu
  unfold Pu.cells at hu
  rcases List.mem_append.1 hu with hu | hu
  · rcases List.mem_append.1 hu with hu | hu
    · exact one_vs _ _ u hu
    · exact one_vs _ _ u hu
  · simp only [Pu.tail, Sl.v, List.mem_cons, List.not_mem_nil, or_false] at hu
    rcases hu with rfl | rfl | rfl | rfl | rfl | rfl | rfl | rfl | rfl <;> rfl
theorem one_bcs (l : List Bk) : ∀ u ∈ bcs l, u.oneCell' = true := by
  intro u hu
  unfold bcs at hu
  obtain ⟨p, _, hp⟩ := List.mem_flatMap.1 hu
  simp only [Bk.cells, List.mem_cons, List.not_mem_nil, or_false] at hp
  rcases hp with rfl | rfl <;> rfl
theorem wpQuiet_load_by {P : Program} {ops : Array Oper} {C : World → Prop} {Qa : Act → Prop} {rest : List Oper} {op : Oper} {a : Act} {ty : TypeId} {x : Operand} {p v : Value} (hl : ∀ w, C w → (Instr.loadAt ty p).run P w = .ok v w)
    (hC : ∃ w, C w) (ho : op.op = .load ty x) (hw : Region.wanted op (yielded ops a.tmps) = true) (hx : a.eval x = p) (h : wpQuiet P ops C Qa rest (a.put op.dst v)) : wpQuiet P ops C Qa (op :: rest) a := by
  unfold wpQuiet
  rw [if_pos hw]
  refine ⟨v, fun w hc => ?_, h⟩
  unfold Oper.quietAt execOp
  simp only [ho, hx, hl w hc, Sem.run_bind, Sem.run_pure, Result.andThen_ok, Oper.quietUpon]
  exact ⟨trivial, trivial⟩
theorem wp_store_by {P : Program} {op : Oper} {a : Act} {w w' : World} {K : Act → World → Prop} {Q : Exit → Act → World → Prop} {ty : TypeId} {x y : Operand} {p v : Value} (hl : (Instr.storeAt ty p v).run P w = .ok () w')
    (ho : op.op = .store ty x y) (hx : a.eval x = p) (hy : a.eval y = v) (h : K (a.put op.dst undef) w') : op.wp P a w K Q := by
  unfold Oper.wp execOp
  simp only [ho, hx, hy, hl, Sem.run_bind, Sem.run_pure, Result.andThen_ok]
  exact h
theorem setCells_mid {g t : Nat} : ∀ (vs : List Value) (o : Nat) (w : World) (cs : List Value), Blk w g t cs.toArray → o + vs.length ≤ cs.length → Blk (w.setCells g o vs) g t (cs.take o ++ vs ++ cs.drop (o + vs.length)).toArray
  | [], o, w, cs, h, hl => by
    simp only [List.append_nil, List.length_nil, Nat.add_zero, List.take_append_drop]
    exact h
  | v :: r, o, w, cs, h, hl => by
    have h1 := h.put o v
    rw [List.setIfInBounds_toArray] at h1
    have h2 := setCells_mid r (o + 1) _ (cs.set o v) h1 (by simp at hl ⊢; omega)
    rw [take_set_ v cs o (by simp at hl; omega), List.append_assoc, List.drop_set_of_lt (by omega)] at h2
    rw [show o + 1 + r.length = o + (v :: r).length by simp; omega] at h2
    refine (congrArg (fun l : List Value => Blk (w.setCells g o (v :: r)) g t l.toArray) ?_).mp h2
    simp
theorem Blk.storeMid {W : World} {g t ty : Nat} {cs : List Value} (h : Blk W g t cs.toArray) (o : Nat) (vs : List Value) (hl : o + vs.length ≤ cs.length) (hi : (Tryz.prog.info? ty).map (·.size) = some vs.length) (h1 : ∀ v ∈ vs, v.oneCell' = true) :
    ∃ w', (Instr.storeAt ty (.pointer (some ⟨g, o, none⟩)) (.agg vs.toArray)).run Tryz.prog W = .ok () w' ∧ Blk w' g t (cs.take o ++ vs ++ cs.drop (o + vs.length)).toArray ∧ W.grownBy w' (some g) := by
  refine ⟨_, run_storeAt_mid W g o ty vs.toArray (fun j hj => ⟨?_, h.free _⟩) (by simpa using hi) (all_oneCell_toArray h1), ?_, ?_⟩
  · rw [h.at_]
    have : o + j < cs.length := by
      have : j < vs.length := by simpa using hj
      omega
    simp [this]
  · exact setCells_mid vs o W cs h hl
  · exact setCells_only _ _ _ (only_refl _ _)
end Go.Proofs.YtagpphelgghbpaaGreat
