/-
  Texts: Pu, Who, Sched2.
-/
import Derived.Test.YtagpphelgghbpaaTk14
import Derived.Test.YtagpphelgghbpaaTk6
/-
  What is public of a board: plain, and in memory.
-/
set_option linter.unusedSimpArgs false
set_option linter.unusedVariables false
namespace Go.Proofs.Ytagpphelgghbpaa
open Go.RowKit

structure Vs where
  life : Int
  p0 : Int
  p1 : Int
  p2 : Int
  p3 : Int
  lib : Int
  hand : Int
  fld : List Ob
  grv : List Ob
  emp : Bool
  ply : Bool
  kpt : Bool
  mul : Int
  act : Int
deriving DecidableEq, Inhabited
structure Pu where
  v0 : Vs
  v1 : Vs
  stk : List It
  que : List It
  att : List Int
  blk : List Bk
  turn : Int
  actv : Int
  phs : Int
  hold : Int
  pas : Int
deriving DecidableEq, Inhabited
structure VsM where
  F : Sl
  G : Sl
deriving Inhabited
structure PuM where
  m0 : VsM
  m1 : VsM
  S : Sl
  Q : Sl
  ST : List Sl
  QT : List Sl
  AT : Sl
  BK : Sl
deriving Inhabited
def Vs.cells (s : Vs) (m : VsM) : List Value := [.int .i64 s.life, .int .i64 s.p0, .int .i64 s.p1, .int .i64 s.p2, .int .i64 s.p3, .int .i64 s.lib, .int .i64 s.hand, m.F.v s.fld.length, m.G.v s.grv.length, .bool s.emp, .bool s.ply, .bool s.kpt, .int .i64 s.mul, .int .i64 s.act]
/-- What stands behind the seats. -/
def Pu.tail (p : Pu) (m : PuM) : List Value := [m.S.v p.stk.length, m.Q.v p.que.length, m.AT.v p.att.length, m.BK.v p.blk.length, .int .i64 p.turn, .int .i64 p.actv, .int .i64 p.phs, .int .i64 p.hold, .int .i64 p.pas]
def Pu.cells (p : Pu) (m : PuM) : List Value := p.v0.cells m.m0 ++ p.v1.cells m.m1 ++ p.tail m
structure OsR (w : World) (s : Sl) (l : List Ob) : Prop where
  row : Reads w 12 s.A l.length (ocs l)
  ok : s.ok l.length
structure IlR (w : World) (s : Sl) (l : List Int) : Prop where
  row : Reads w 1 s.A l.length (ics l)
  ok : s.ok l.length
structure BsR (w : World) (s : Sl) (l : List Bk) : Prop where
  row : Reads w 2 s.A l.length (bcs l)
  ok : s.ok l.length
structure VsR (w : World) (v : Vs) (m : VsM) : Prop where
  F : OsR w m.F v.fld
  G : OsR w m.G v.grv
structure PuR (w : World) (p : Pu) (m : PuM) : Prop where
  v0 : VsR w p.v0 m.m0
  v1 : VsR w p.v1 m.m1
  S : IsR w m.S p.stk m.ST
  Q : IsR w m.Q p.que m.QT
  AT : IlR w m.AT p.att
  BK : BsR w m.BK p.blk
section
variable {w w' : World}
theorem OsR.below {s : Sl} {l : List Ob} (h : OsR w s l) (hb : Below w.heap.size w w') : OsR w' s l := ⟨h.row.below hb, h.ok⟩
theorem IlR.below {s : Sl} {l : List Int} (h : IlR w s l) (hb : Below w.heap.size w w') : IlR w' s l := ⟨h.row.below hb, h.ok⟩
theorem BsR.below {s : Sl} {l : List Bk} (h : BsR w s l) (hb : Below w.heap.size w w') : BsR w' s l := ⟨h.row.below hb, h.ok⟩
theorem VsR.below {v : Vs} {m : VsM} (h : VsR w v m) (hb : Below w.heap.size w w') : VsR w' v m := ⟨h.F.below hb, h.G.below hb⟩
theorem PuR.below {p : Pu} {m : PuM} (h : PuR w p m) (hb : Below w.heap.size w w') : PuR w' p m := ⟨h.v0.below hb, h.v1.below hb, h.S.below hb, h.Q.below hb, h.AT.below hb, h.BK.below hb⟩
theorem LsR.il {s : Sl} {l : List Int} (h : LsR w s l) : IlR w s l := ⟨h.row, h.ok⟩
end
/-- The same, all of it one's own. -/
structure VsO (W : World) (B : Nat) (v : Vs) (m : VsM) : Prop where
  F : XOwns W B 88 12 m.F.A v.fld.length m.F.c (ocs v.fld)
  G : XOwns W B 88 12 m.G.A v.grv.length m.G.c (ocs v.grv)
structure PuO (W : World) (B : Nat) (p : Pu) (m : PuM) : Prop where
  v0 : VsO W B p.v0 m.m0
  v1 : VsO W B p.v1 m.m1
  S : IsO W B m.S p.stk m.ST
  Q : IsO W B m.Q p.que m.QT
  AT : XOwns W B 3 1 m.AT.A p.att.length m.AT.c (ics p.att)
  BK : XOwns W B 93 2 m.BK.A p.blk.length m.BK.c (bcs p.blk)
/-- None of the types of what a board's lists hold. -/
def offT (t : TypeId) : Prop := 88 ≠ t ∧ 41 ≠ t ∧ 78 ≠ t ∧ 3 ≠ t ∧ 93 ≠ t
section
variable {W W' : World} {B B' : Nat} {v : Vs} {m : VsM} {p : Pu} {q : PuM} {g : Nat} {t : TypeId} {cs : Array Value}
theorem VsO.isR (h : VsO W B v m) : VsR W v m := ⟨⟨h.F.reads, h.F.okS⟩, ⟨h.G.reads, h.G.okS⟩⟩
theorem VsO.below (h : VsO W B v m) (hb : Below W.heap.size W W') : VsO W' B v m := ⟨h.F.below hb, h.G.below hb⟩
theorem VsO.more (h : VsO W B v m) (hb : B' ≤ B) : VsO W B' v m := ⟨h.F.more hb, h.G.more hb⟩
theorem VsO.blk (h : VsO W B v m) (hk : Blk W g t cs) (hg : W.grownBy W' (some g)) (ho : offT t) : VsO W' B v m := ⟨h.F.blk_ hk hg ho.1, h.G.blk_ hk hg ho.1⟩
theorem PuO.isR (h : PuO W B p q) : PuR W p q := ⟨h.v0.isR, h.v1.isR, h.S.isR, h.Q.isR, ⟨h.AT.reads, h.AT.okS⟩, ⟨h.BK.reads, h.BK.okS⟩⟩
theorem PuO.below (h : PuO W B p q) (hb : Below W.heap.size W W') : PuO W' B p q := ⟨h.v0.below hb, h.v1.below hb, h.S.below hb, h.Q.below hb, h.AT.below hb, h.BK.below hb⟩
theorem PuO.more (h : PuO W B p q) (hb : B' ≤ B) : PuO W B' p q := ⟨h.v0.more hb, h.v1.more hb, h.S.more hb, h.Q.more hb, h.AT.more hb, h.BK.more hb⟩
theorem PuO.blk (h : PuO W B p q) (hk : Blk W g t cs) (hg : W.grownBy W' (some g)) (ho : offT t) : PuO W' B p q :=
  ⟨h.v0.blk hk hg ho, h.v1.blk hk hg ho, h.S.blk hk hg ho.2.1 ho.2.2.1, h.Q.blk hk hg ho.2.1 ho.2.2.1, h.AT.blk_ hk hg ho.2.2.2.1, h.BK.blk_ hk hg ho.2.2.2.2⟩
end
/-- What is public of a seat, of a board. -/
def vsOf (l : List Ob) (s : Se) : Vs := ⟨s.life, s.p0, s.p1, s.p2, s.p3, s.lib.length, s.hand.length, s.fld.map (obI l), s.grv.map (obI l), s.emp, s.ply, s.kpt, s.mul, s.act⟩
def puOf (b : Bd) : Pu := ⟨vsOf b.objs b.s0, vsOf b.objs b.s1, b.stk, b.que, b.att, b.blk, b.turn, b.actv, b.phs, b.hold, b.pas⟩

/-! ### What a valid board bounds -/
theorem plc_objs {b : Bd} (h : plcP b) : b.plc.Perm (b.objs.map fun o => (o.id, o.own)) := by
  obtain ⟨h1, h2, h3, h4⟩ := h
  have hid := nodup_of_lt (inc_pw _ h3)
  have hL : (b.objs.map fun o => (o.id, o.own)).Nodup := by
    have e : (b.objs.map fun o => (o.id, o.own)).map Prod.fst = b.objs.map Ob.id := by rw [List.map_map]; rfl
    rw [← e] at hid
    exact List.Pairwise.of_map Prod.fst (fun a b h e => h (by rw [e])) hid
  exact (perm_of_sub hL (m := b.plc) (fun x hx => by
    obtain ⟨o, ho, rfl⟩ := List.mem_map.1 hx
    exact (h2 o ho).2.1) (by rw [h4]; simp)).symm
theorem plc_mem {b : Bd} (h : plcP b) {i p : Int} (hi : (i, p) ∈ b.plc) : ∃ o ∈ b.objs, o.id = i ∧ o.own = p := by
  obtain ⟨o, ho, e⟩ := List.mem_map.1 ((plc_objs h).mem_iff.1 hi)
  exact ⟨o, ho, congrArg Prod.fst e, congrArg Prod.snd e⟩
theorem ids0_mem {b : Bd} {i : Int} (h : i ∈ b.s0.ids) : (i, 0) ∈ b.plc := by
  unfold Bd.plc
  exact List.mem_append_left _ (List.mem_append_left _ (List.mem_map.2 ⟨i, h, rfl⟩))
theorem ids1_mem {b : Bd} {i : Int} (h : i ∈ b.s1.ids) : (i, 1) ∈ b.plc := by
  unfold Bd.plc
  exact List.mem_append_left _ (List.mem_append_right _ (List.mem_map.2 ⟨i, h, rfl⟩))
structure SeSm (s : Se) (l : List Ob) : Prop where
  L : s.lib.length ≤ 500
  H : s.hand.length ≤ 500
  F : s.fld.length ≤ 500
  G : s.grv.length ≤ 500
  Li : ∀ i ∈ s.lib, ∃ o ∈ l, o.id = i
  Hi : ∀ i ∈ s.hand, ∃ o ∈ l, o.id = i
  Fi : ∀ i ∈ s.fld, ∃ o ∈ l, o.id = i
  Gi : ∀ i ∈ s.grv, ∃ o ∈ l, o.id = i
structure BdSm (b : Bd) : Prop where
  O : b.objs.length ≤ 500
  s0 : SeSm b.s0 b.objs
  s1 : SeSm b.s1 b.objs
  S : b.stk.length ≤ 200
  Q : b.que.length ≤ 200
  AT : b.att.length ≤ 500
  BK : b.blk.length ≤ 500
  ST : ∀ x ∈ b.stk, x.tgs.length ≤ 4
  QT : ∀ x ∈ b.que, x.tgs.length ≤ 4
theorem nodup_len {l m : List Int} (h : l.Nodup) (hs : ∀ x ∈ l, x ∈ m) : l.length ≤ m.length := by
  induction l generalizing m with
  | nil => simp
  | cons x l ih =>
    have hx : x ∈ m := hs x (List.mem_cons_self ..)
    have hn := List.nodup_cons.1 h
    have h1 := ih (m := m.erase x) hn.2 fun y hy => by
      have := hs y (List.mem_cons_of_mem _ hy)
      have hp := List.perm_cons_erase hx
      rcases List.mem_cons.1 (hp.mem_iff.1 this) with rfl | h
      · exact absurd hy hn.1
      · exact h
    rw [List.length_erase_of_mem hx] at h1
    have : 0 < m.length := List.length_pos_of_mem hx
    simp only [List.length_cons]
    omega
theorem it_sm {q : Bool} {l : List It} (h : l.all (itOk q) = true) : ∀ x ∈ l, x.tgs.length ≤ 4 := fun x hx => by
  have := List.all_eq_true.1 h x hx
  simp only [itOk, Bool.and_eq_true, decide_eq_true_eq] at this
  exact this.1.1.1.2
theorem bd_sm {b : Bd} (h : b.Valid) : BdSm b := by
  obtain ⟨hn, h0, h1, hs, hq, hp, hf⟩ := h
  simp only [numOk, inR, Bool.and_eq_true, decide_eq_true_eq] at hn
  obtain ⟨⟨⟨_, hO⟩, hS⟩, hQ⟩ := hn
  have hlen : b.s0.ids.length + b.s1.ids.length ≤ 500 := by
    have := hp.2.2.2
    unfold Bd.plc at this
    simp only [List.length_append, List.length_map] at this
    omega
  have m0 := fun {i : Int} (hi : i ∈ b.s0.ids) => (plc_mem hp (ids0_mem hi)).imp fun o h => And.intro h.1 h.2.1
  have m1 := fun {i : Int} (hi : i ∈ b.s1.ids) => (plc_mem hp (ids1_mem hi)).imp fun o h => And.intro h.1 h.2.1
  have hsm : ∀ s : Se, s.ids.length ≤ 500 → (∀ i ∈ s.ids, ∃ o ∈ b.objs, o.id = i) → SeSm s b.objs := fun s hl hm => by
    unfold Se.ids at hl hm
    simp only [List.length_append] at hl
    exact ⟨by omega, by omega, by omega, by omega, fun i hi => hm i (by simp [hi]), fun i hi => hm i (by simp [hi]), fun i hi => hm i (by simp [hi]), fun i hi => hm i (by simp [hi])⟩
  have s0 := hsm b.s0 (by omega) fun i hi => m0 hi
  have s1 := hsm b.s1 (by omega) fun i hi => m1 hi
  have hfl : ∀ p, (b.fld p).length ≤ 500 := fun p => by
    unfold Bd.fld
    split
    · exact s0.F
    · exact s1.F
  have hA : b.att.length ≤ 500 := Nat.le_trans (nodup_len hf.1 hf.2.1) (hfl _)
  have hB : b.blk.length ≤ 500 := by
    have := nodup_len (m := b.att) hf.2.2.1 fun x hx => by
      obtain ⟨y, hy, rfl⟩ := List.mem_map.1 hx
      exact (hf.2.2.2.2 y hy).1
    rw [List.length_map] at this
    omega
  exact ⟨hO, s0, s1, hS, hQ, hA, hB, it_sm hs, it_sm hq⟩
end Go.Proofs.Ytagpphelgghbpaa

/-
  A struct as a whole in a region that draws its order: loaded, stored; a part of a block stored.
-/
set_option linter.unusedSimpArgs false
set_option linter.unusedVariables false
namespace Go.Proofs.Ytagpphelgghbpaa
open Go.RowKit

/-- A part of a function's code: region n. -/
def findR (n : Nat) : Code → Option Code
  | .region m ops b => if m = n then some (.region m ops b) else Option.none
  | .loop c => findR n c
  | .seq a b => match findR n a with
    | some c => some c
    | Option.none => findR n b
  | .block _ c => findR n c
  | .scope c => findR n c
  | .cond _ a b => match findR n a with
    | some c => some c
    | Option.none => findR n b
  | _ => Option.none
def regOf (f : Func) (n : Nat) : Code := (f.body.bind (findR n)).getD .skip
theorem ret_cell2 {fn : Func} {p q : Tmp} {ty : TypeId} {tmps : Array Value} {w : World} {g t : Nat} {cs : Array Value} {d : TypeDesc} (h : fn.results = #[.cell p ty, .tmp q]) (hp : tmps.getD p undef = .pointer (some ⟨g, 0, none⟩)) (hb : Blk w g t cs)
    (hu : Try.prog.underlying ty = some d) (hd : d.isRow = true) (hi : (Try.prog.info? ty).map (·.size) = some cs.size) : (results fn tmps).run Try.prog w = .ok (.tuple #[.agg cs, tmps.getD q undef]) w := by
  have hp' : tmps[p]?.getD undef = .pointer (some ⟨g, 0, none⟩) := by simpa using hp
  simp [results, h, hp', asAddr, run_loadVar_row w g t ty cs (0, 0) d hb hu (by cases d <;> simp_all) hi]
set_option maxRecDepth 100000 in
theorem size_seat : (Try.prog.info? 27).map (·.size) = some 14 := by decide +kernel
theorem one_se (v : Se) (m : SeM) : ∀ u ∈ v.cells m, u.oneCell' = true := by
  intro u hu
  simp only [Se.cells, Sl.v, List.mem_cons, List.not_mem_nil, or_false] at hu
  rcases hu with rfl | rfl | rfl | rfl | rfl | rfl | rfl | rfl | rfl | rfl | rfl | rfl | rfl | rfl <;> rfl
theorem one_vs (v : Vs) (m : VsM) : ∀ u ∈ v.cells m, u.oneCell' = true := by
  intro u hu
  simp only [Vs.cells, Sl.v, List.mem_cons, List.not_mem_nil, or_false] at hu
  rcases hu with rfl | rfl | rfl | rfl | rfl | rfl | rfl | rfl | rfl | rfl | rfl | rfl | rfl | rfl <;> rfl
theorem one_pu (p : Pu) (m : PuM) : ∀ u ∈ p.cells m, u.oneCell' = true := by
  intro u hu
  unfold Pu.cells at hu
  rcases List.mem_append.1 hu with hu | hu
  · rcases List.mem_append.1 hu with hu | hu
    · exact one_vs _ _ u hu
    · exact one_vs _ _ u hu
  · simp only [Pu.tail, Sl.v, List.mem_cons, List.not_mem_nil, or_false] at hu
    rcases hu with rfl | rfl | rfl | rfl | rfl | rfl | rfl | rfl | rfl <;> rfl
theorem one_bcs (l : List Bk) : ∀ u ∈ bcs l, u.oneCell' = true := by
  intro u hu
  unfold bcs at hu
  obtain ⟨p, _, hp⟩ := List.mem_flatMap.1 hu
  simp only [Bk.cells, List.mem_cons, List.not_mem_nil, or_false] at hp
  rcases hp with rfl | rfl <;> rfl
theorem wpQuiet_load_by {P : Program} {ops : Array Oper} {C : World → Prop} {Qa : Act → Prop} {rest : List Oper} {op : Oper} {a : Act} {ty : TypeId} {x : Operand} {p v : Value} (hl : ∀ w, C w → (Instr.loadAt ty p).run P w = .ok v w)
    (hC : ∃ w, C w) (ho : op.op = .load ty x) (hw : Region.wanted op (yielded ops a.tmps) = true) (hx : a.eval x = p) (h : wpQuiet P ops C Qa rest (a.put op.dst v)) : wpQuiet P ops C Qa (op :: rest) a := by
  unfold wpQuiet
  rw [if_pos hw]
  refine ⟨v, fun w hc => ?_, h⟩
  unfold Oper.quietAt execOp
  simp only [ho, hx, hl w hc, Sem.run_bind, Sem.run_pure, Result.andThen_ok, Oper.quietUpon]
  exact ⟨trivial, trivial⟩
theorem wp_store_by {P : Program} {op : Oper} {a : Act} {w w' : World} {K : Act → World → Prop} {Q : Exit → Act → World → Prop} {ty : TypeId} {x y : Operand} {p v : Value} (hl : (Instr.storeAt ty p v).run P w = .ok () w')
    (ho : op.op = .store ty x y) (hx : a.eval x = p) (hy : a.eval y = v) (h : K (a.put op.dst undef) w') : op.wp P a w K Q := by
  unfold Oper.wp execOp
  simp only [ho, hx, hy, hl, Sem.run_bind, Sem.run_pure, Result.andThen_ok]
  exact h
theorem setCells_mid {g t : Nat} : ∀ (vs : List Value) (o : Nat) (w : World) (cs : List Value), Blk w g t cs.toArray → o + vs.length ≤ cs.length → Blk (w.setCells g o vs) g t (cs.take o ++ vs ++ cs.drop (o + vs.length)).toArray
  | [], o, w, cs, h, hl => by
    simp only [List.append_nil, List.length_nil, Nat.add_zero, List.take_append_drop]
    exact h
  | v :: r, o, w, cs, h, hl => by
    have h1 := h.put o v
    rw [List.setIfInBounds_toArray] at h1
    have h2 := setCells_mid r (o + 1) _ (cs.set o v) h1 (by simp at hl ⊢; omega)
    rw [take_set_ v cs o (by simp at hl; omega), List.append_assoc, List.drop_set_of_lt (by omega)] at h2
    rw [show o + 1 + r.length = o + (v :: r).length by simp; omega] at h2
    refine (congrArg (fun l : List Value => Blk (w.setCells g o (v :: r)) g t l.toArray) ?_).mp h2
    simp
theorem Blk.storeMid {W : World} {g t ty : Nat} {cs : List Value} (h : Blk W g t cs.toArray) (o : Nat) (vs : List Value) (hl : o + vs.length ≤ cs.length) (hi : (Try.prog.info? ty).map (·.size) = some vs.length) (h1 : ∀ v ∈ vs, v.oneCell' = true) :
    ∃ w', (Instr.storeAt ty (.pointer (some ⟨g, o, none⟩)) (.agg vs.toArray)).run Try.prog W = .ok () w' ∧ Blk w' g t (cs.take o ++ vs ++ cs.drop (o + vs.length)).toArray ∧ W.grownBy w' (some g) := by
  refine ⟨_, run_storeAt_mid W g o ty vs.toArray (fun j hj => ⟨?_, h.free _⟩) (by simpa using hi) (all_oneCell_toArray h1), ?_, ?_⟩
  · rw [h.at_]
    have : o + j < cs.length := by
      have : j < vs.length := by simpa using hj
      omega
    simp [this]
  · exact setCells_mid vs o W cs h hl
  · exact setCells_only _ _ _ (only_refl _ _)
end Go.Proofs.Ytagpphelgghbpaa

/-
  A region that draws its order: first what hangs on no memory at all (class CP: all worlds), then as Sched says.
-/
set_option linter.unusedVariables false
namespace Go.Proofs.Ytagpphelgghbpaa
open Go.RowKit
section
variable {P : Program} {ops : Array Oper} {Q : Exit → Act → World → Prop} {md : Region.Mode} {late : List Nat} {T : Bool → World → Prop}

/-- May these be taken ahead of all others? They read no memory. -/
def pureB (md : Region.Mode) (ops : Array Oper) (late : List Nat) : List Nat → Array Bool → Option (Array Bool)
  | [], l => some l
  | i :: is, l => if (Region.ready md ops l).contains i && Region.free md ops l i && ((ops[i]?).map (valOp ·.op)).getD false && !late.contains i then pureB md ops late is (l.setIfInBounds i true) else none
theorem pure_take (hsel : Region.noSelect ops = true) (hQ : ∀ d v c a w, Q (.panic c) (Act.put a d v) w → Q (.panic c) a w) {b : Bool} {w : World} (hT : T b w) {C : World → Prop} (hC : ∀ w, C w) {Qa : Act → Prop} {f : Nat} {l' : Array Bool}
    (hk : ∀ a', Closed md ops l' → early late l' = b → Qa a' → wpG P md ops Q late T f l' a' w) : ∀ (hs : List Nat) (l : Array Bool) (a : Act), Closed md ops l → early late l = b → pureB md ops late hs l = some l' → wpQuiet P ops C Qa (opsAt ops hs) a → wpG P md ops Q late T (hs.length + f) l a w
  | [], l, a, hc, he, hB, h => by
    simp only [pureB, Option.some.injEq] at hB
    subst hB
    simpa [opsAt, wpQuiet] using hk _ hc he h
  | i :: is, l, a, hc, he, hB, h => by
    simp only [pureB] at hB
    split at hB
    · rename_i hcond
      simp only [Bool.and_eq_true, Bool.not_eq_true'] at hcond
      obtain ⟨⟨⟨hr, hf⟩, hv⟩, hni⟩ := hcond
      cases ho : ops[i]? with
      | none => rw [ho] at hv; cases hv
      | some o =>
        rw [ho] at hv
        simp only [Option.map_some, Option.getD_some] at hv
        simp only [opsAt, ho, wpQuiet] at h
        have hrm : i ∈ Region.ready md ops l := by simpa using hr
        have hnext := fun v hn => pure_take hsel hQ hT hC hk is (l.setIfInBounds i true) (a.put o.dst v) (closed_set hc hrm) (by rw [early_set hni]; exact he) hB hn
        rw [show (i :: is).length + f = (is.length + f) + 1 by simp only [List.length_cons]; omega]
        by_cases hwt : Region.wanted o (yielded ops a.tmps) = true
        · rw [if_pos hwt] at h
          obtain ⟨v, hy, hn⟩ := yields_of_quiet hv hwt h
          exact wpG_first (C := C) (b := b) ho hsel hQ hni (fun _ _ _ _ w _ => hC w) _ l a w hc (fun hb => by rw [he, hb]) (Region.free_spec ho hf) hrm hy (by rw [he]; exact hT) (hnext v hn)
        · rw [if_neg hwt] at h
          exact wpG_first (C := C) (b := b) ho hsel hQ hni (fun _ _ _ _ w _ => hC w) _ l a w hc (fun hb => by rw [he, hb]) (Region.free_spec ho hf) hrm (.inr ⟨by simpa using hwt, rfl⟩) (by rw [he]; exact hT) (hnext undef h)
    · cases hB
/-- The region: hsP reads no memory, then as wp_region_late. -/
theorem wp_region_late2 {id : Nat} {a : Act} {w : World} {l : List Oper} (T : Bool → World → Prop) (C : World → Prop) (hC : ∀ w, C w) (late : List Nat) (hsP hs0 : List Nat) (t : Tr) (hm : P.follows .mixedOrders = true)
    (hB : (Region.noSelect l.toArray && decide (hsP.length + hs0.length + schedLen t ≤ l.toArray.size) && match pureB .any l.toArray late hsP (Array.replicate l.toArray.size false) with
      | some l1 => (match heldB .any l.toArray late true hs0 l1 with | some l' => schedB .any l.toArray late t true l' | none => false)
      | none => false) = true)
    (hQ : ∀ d v c a w, Q (.panic c) (Act.put a d v) w → Q (.panic c) a w) (hT : T true w.drew)
    (h : wpQuiet P l.toArray C (fun a1 => wpQuiet P l.toArray (T true) (fun a' => wpEffs P l.toArray late T Q t true a' w.drew) (opsAt l.toArray hs0) a1) (opsAt l.toArray hsP) a) : (Code.region id l.toArray true).wp P Q a w := by
  simp only [Bool.and_eq_true, decide_eq_true_eq] at hB
  obtain ⟨⟨hsel, hlen⟩, hB⟩ := hB
  refine wp_region_any hm (wpAny_of_G (late := late) (T := T) _ _ _ _ ?_)
  have hg : ∀ j, (Array.replicate l.toArray.size false).getD j false = false := fun j => by
    simp only [Array.getD_eq_getD_getElem?, Array.getElem?_replicate]
    split <;> rfl
  have hc0 : Closed .any l.toArray (Array.replicate l.toArray.size false) := fun j o _ hj => by rw [hg j] at hj; cases hj
  have he0 : early late (Array.replicate l.toArray.size false) = true := by
    unfold early
    rw [List.all_eq_true]
    intro j _
    rw [hg j]
    rfl
  cases h1 : pureB .any l.toArray late hsP (Array.replicate l.toArray.size false) with
  | none => rw [h1] at hB; cases hB
  | some l1 =>
    rw [h1] at hB
    simp only at hB
    cases hh : heldB .any l.toArray late true hs0 l1 with
    | none => rw [hh] at hB; cases hB
    | some l' =>
      rw [hh] at hB
      simp only at hB
      have := pure_take (md := .any) (late := late) (T := T) (f := hs0.length + (l.toArray.size - hsP.length - hs0.length)) hsel hQ hT hC (fun a1 hc1 he1 ha1 =>
        held_take (md := .any) (late := late) (T := T) (f := l.toArray.size - hsP.length - hs0.length) hsel hQ hT (fun a' hc' he' ha => effs_walk hsel hQ t true (l.toArray.size - hsP.length - hs0.length) l' a' w.drew (by omega) hB hc' he' hT ha) hs0 l1 a1 hc1 he1 hh ha1) hsP _ a hc0 he0 h1 h
      rw [show hsP.length + (hs0.length + (l.toArray.size - hsP.length - hs0.length)) = l.toArray.size by omega] at this
      exact this
end
end Go.Proofs.Ytagpphelgghbpaa
