/-
  Texts: Ki.
-/
import Derived.Test.YtpbbemmjodegkaaDoorXk12
import Derived.Test.YtpbbemmjodegkaaDoorXk13
set_option linter.unusedSimpArgs false
set_option linter.unusedVariables false
namespace Go.Proofs.YtpbbemmjodegkaaDoor
open Go.RowKit

theorem run_loadAt_addr {P : Program} (w : World) (a : Addr) (ty : TypeId) (cs : List Value) (d : TypeDesc) (hc : ∀ j v, cs[j]? = some v → w.cell? (a.add j) = some v)
    (hu : P.underlying ty = some d) (hd : d.isRow = true) (hi : (P.info? ty).map (·.size) = some cs.length) : (Instr.loadAt ty (.pointer (some a))).run P w = .ok (.agg cs.toArray) w := by
  have hl : (loadCells a cs.length).run P w = .ok cs.toArray w := run_loadCells_list (P := P) w a cs hc
  cases hq : P.info? ty with
  | none => simp [hq] at hi
  | some i =>
    have hs : i.size = cs.length := by simpa [hq] using hi
    have hagg : (isAgg ty).run P w = .ok true w := by
      unfold isAgg
      rw [Sem.run_bind, run_underlying hu w]
      cases d <;> simp_all
    simp only [Instr.loadAt, Instr.sureAddr, Sem.run_bind, Sem.run_pure, Result.andThen_ok]
    simp [loadVar, Sem.run_bind, hagg, sizeOf, typeInfo, hq, hs, hl]
theorem CsR.load {w : World} {s : Sl} {l : List Cd} {ms : List CdM} (h : CsR w s l ms) {i : Nat} {c : Cd} {m : CdM} (hi : l[i]? = some c) (hm : ms[i]? = some m) : ∃ ad, s.A = some ad ∧ (Instr.loadAt 74 (.pointer (some (ad.add (i * 14))))).run Tryd.prog w = .ok (.agg (c.cells m).toArray) w := by
  obtain ⟨m', ad, hm', e, hb, hc, hR⟩ := h.at_ hi
  rw [hm] at hm'
  obtain rfl := Option.some.inj hm'
  refine ⟨ad, e, run_loadAt_addr w _ _ (c.cells m) _ (fun j v hj => ?_) Tryd.underlying74 rfl (by rw [size_card]; rfl)⟩
  rw [add_of_add]
  exact hc j v (by have := (List.getElem?_eq_some_iff.1 hj).1; exact this) hj
instance : Inhabited Cd := ⟨⟨⟨#[]⟩, 0, 0, 0, 0, 0, 0, 0, 0, 0, 0, [], [], 0⟩⟩
theorem cdOk_B {c : Cd} (h : cdOk c = true) : CdB c := by
  unfold cdOk at h
  simp only [Bool.and_eq_true] at h
  obtain ⟨⟨⟨⟨h1, h2⟩, h3⟩, h4⟩, h5⟩ := h
  unfold efsOk at h4
  simp only [Bool.and_eq_true, decide_eq_true_eq] at h4
  have hs : stillS c = true → c.trs = [] := by
    intro h
    unfold stillS at h
    simp at h
    exact h.2
  have ht : c.trs = [] ∨ trgOk c.trs = true := by
    unfold kindOk at h5
    split at h5
    · simp only [Bool.and_eq_true] at h5
      exact .inl (hs h5.2)
    · split at h5
      · simp only [Bool.and_eq_true] at h5
        exact .inr h5.2
      · split at h5
        · simp only [Bool.and_eq_true] at h5
          exact .inl (hs h5.2)
        · cases h5
  refine ⟨by omega, ?_, ?_⟩
  · rcases ht with ht | ht
    · simp [ht]
    · unfold trgOk at ht
      simp only [Bool.and_eq_true, decide_eq_true_eq] at ht
      omega
  · intro t hm
    rcases ht with ht | ht
    · rw [ht] at hm
      cases hm
    · unfold trgOk at ht
      simp only [Bool.and_eq_true] at ht
      obtain ⟨q, hq, he⟩ := List.getElem_of_mem hm
      have h6 := List.all_eq_true.1 ht.1 q (by simpa using hq)
      unfold trgAt at h6
      rw [List.getElem?_eq_getElem hq, he] at h6
      simp only [Bool.and_eq_true] at h6
      have h7 := h6.1
      unfold trgFine wnR at h7
      simp only [Bool.and_eq_true, decide_eq_true_eq] at h7
      omega
structure CsO (W : World) (B : Nat) (s : Sl) (l : List Cd) (ms : List CdM) : Prop where
  len : ms.length = l.length
  row : XOwns W B 74 14 s.A l.length s.c (ccs (l.zip ms))
  cd : ∀ (i : Nat) (c : Cd) (m : CdM), l[i]? = some c → ms[i]? = some m → CdO W B c m
section
variable {W W' : World} {B : Nat} {s : Sl} {l : List Cd} {ms : List CdM}
theorem CsO.below (h : CsO W B s l ms) (hb : Below W.heap.size W W') : CsO W' B s l ms := ⟨h.len, h.row.below hb, fun i c m h1 h2 => (h.cd i c m h1 h2).below hb⟩
theorem CsO.isR (h : CsO W B s l ms) : CsR W s l ms := ⟨h.len, h.row.reads, h.row.okS, fun i c m h1 h2 => (h.cd i c m h1 h2).isR⟩
theorem CdO.grown {c : Cd} {m : CdM} {A : Option Addr} {n cap : Nat} {xs : List Value} (h : CdO W B c m) (hr : XOwns W B 74 14 A n cap xs) (hg : W.grownBy W' (blkOf A)) : CdO W' B c m :=
  ⟨h.nm, h.E.grown hg (h.E.apart hr (by decide)), h.T.len, h.T.row.grown hg (h.T.row.apart hr (by decide)), fun i t u h1 h2 => (h.T.ef i t u h1 h2).grown hg ((h.T.ef i t u h1 h2).apart hr (by decide))⟩
theorem CsO.blk {g t : Nat} {cs : Array Value} (h : CsO W B s l ms) (hk : Blk W g t cs) (hg : W.grownBy W' (some g)) (h1 : 74 ≠ t) (h2 : 106 ≠ t) (h3 : 112 ≠ t) : CsO W' B s l ms :=
  ⟨h.len, h.row.grown hg (.inr (h.row.apart_blk hk h1)), fun i c m h4 h5 => (h.cd i c m h4 h5).blk hk hg h2 h3⟩
theorem XOwns.far {e size n c g : Nat} {A : Option Addr} {xs : List Value} (h : XOwns W B e size A n c xs) (hg : W.grownBy W' (some g)) (hk : ∀ cs t f, W.heap[g]? ≠ some (.cells cs t f)) : XOwns W' B e size A n c xs := by
  refine h.grown hg ?_
  rcases h.blk with h0 | ⟨g', cur, h1, _, h2⟩
  · exact .inl h0
  · refine .inr fun he => ?_
    rw [h1] at he
    injection he with he
    subst he
    exact hk _ _ _ h2
theorem CsO.far {g : Nat} (h : CsO W B s l ms) (hg : W.grownBy W' (some g)) (hk : ∀ cs t f, W.heap[g]? ≠ some (.cells cs t f)) : CsO W' B s l ms :=
  ⟨h.len, h.row.far hg hk, fun i c m h4 h5 => ⟨(h.cd i c m h4 h5).nm, (h.cd i c m h4 h5).E.far hg hk, (h.cd i c m h4 h5).T.len, (h.cd i c m h4 h5).T.row.far hg hk, fun j t u h6 h7 => ((h.cd i c m h4 h5).T.ef j t u h6 h7).far hg hk⟩⟩
end
theorem MapT.noCells {w : World} {g n : Nat} {f : ByteArray → Bool} (h : MapT w g n f) : ∀ cs t q, w.heap[g]? ≠ some (.cells cs t q) := by
  obtain ⟨D, h1, -, -⟩ := h.ex
  obtain ⟨es, clock, hb, -⟩ := h1
  intro cs t q he
  rw [hb] at he
  cases he
theorem Blk.farM {w w' : World} {g q t n : Nat} {cs : Array Value} {f : ByteArray → Bool} (h : Blk w g t cs) (hm : MapT w q n f) (hg : w.grownBy w' (some q)) : Blk w' g t cs := h.grown hg (fun e => by
  injection e with e
  subst e
  exact hm.noCells _ _ _ h)
structure PoolR (W : World) (B p : Nat) (l : List Cd) : Prop where
  ex : ∃ (s : Sl) (ms : List CdM) (g : Nat), Blk W p 78 #[s.v l.length, .map (some g)] ∧ CsO W B s l ms
  base : B ≤ p
def names (l : List Cd) : List ByteArray := l.map Cd.nm
def inN (l : List ByteArray) (x : ByteArray) : Bool := l.any fun y => decide (y = x)
theorem inN_t {l : List ByteArray} {x : ByteArray} : inN l x = true ↔ x ∈ l := by
  unfold inN
  rw [List.any_eq_true]
  constructor
  · rintro ⟨y, hy, h⟩
    rw [decide_eq_true_eq] at h
    exact h ▸ hy
  · exact fun h => ⟨x, h, by simp⟩
def allOk (l : List Cd) : Bool := l.all cdOk
def NewEnd (l : List Cd) (w : World) (e : Ending) (w' : World) : Prop :=
  (allOk l = false ∧ e = .returned (.tuple #[.pointer none, .int .i64 2]) ∧ Below w.heap.size w w') ∨
  (allOk l = true ∧ ¬ (names l).Nodup ∧ e = .returned (.tuple #[.pointer none, .int .i64 11]) ∧ Below w.heap.size w w') ∨
  (allOk l = true ∧ (names l).Nodup ∧ ∃ p, e = .returned (.tuple #[.pointer (some ⟨p, 0, none⟩), .int .i64 0]) ∧ PoolR w' w.heap.size p l ∧ Below w.heap.size w w')
theorem names_snoc {l : List Cd} {k : Nat} {c : Cd} (h : l[k]? = some c) : names (l.take (k + 1)) = names (l.take k) ++ [c.nm] := by
  have hk : k < l.length := (List.getElem?_eq_some_iff.1 h).1
  rw [List.take_succ_eq_append_getElem hk]
  rw [List.getElem?_eq_getElem hk] at h
  rw [Option.some.inj h]
  simp [names]
theorem nodup_snoc {l : List ByteArray} {x : ByteArray} (h : l.Nodup) (hx : x ∉ l) : (l ++ [x]).Nodup := by
  rw [List.nodup_append]
  exact ⟨h, by simp, fun a ha b hb => by rw [List.mem_singleton] at hb; subst hb; exact fun e => hx (e ▸ ha)⟩
theorem dup_of {l : List Cd} {k : Nat} {c : Cd} (h : l[k]? = some c) (hx : c.nm ∈ names (l.take k)) : ¬ (names l).Nodup := by
  intro hn
  have h1 : names l = names (l.take k) ++ names (l.drop k) := by unfold names; rw [← List.map_append, List.take_append_drop]
  rw [h1, List.nodup_append] at hn
  refine hn.2.2 c.nm hx c.nm ?_ rfl
  have hk : k < l.length := (List.getElem?_eq_some_iff.1 h).1
  unfold names
  rw [List.drop_eq_getElem_cons hk]
  rw [List.getElem?_eq_getElem hk] at h
  rw [Option.some.inj h]
  simp
theorem ccs_snoc {l : List Cd} {ms : List CdM} {c : Cd} {m : CdM} (h : ms.length = l.length) : ccs ((l ++ [c]).zip (ms ++ [m])) = ccs (l.zip ms) ++ c.cells m := by
  rw [List.zip_append h.symm]
  simp [ccs]

theorem tinfo_card : (Tryd.prog.info? 74).map (fun i => (i.zero, i.size, i.bytes)) = some (some (.agg #[.string ⟨#[]⟩, .int .i64 0, .int .i64 0, .int .i64 0, .int .i64 0, .int .i64 0, .int .i64 0, .int .i64 0, .int .i64 0, .int .i64 0, .int .i64 0, .slice none 0 0, .slice none 0 0, .int .i64 0]), 14, 152) := by kernel_rfl

theorem slice_card (c : Cd) (m : CdM) (W : World) : (Instr.buildSlice 24 1 #[(0, .agg (c.cells m).toArray)]).run Tryd.prog W = .ok (.slice (some ⟨W.heap.size, 0, none⟩) 1 1) (W.alloc (.cells (c.cells m).toArray 74)) := by
  obtain ⟨nm, kind, o0, o1, o2, o3, any, mak, pow, tou, kw, efs, trs, rar⟩ := c
  obtain ⟨⟨EA, Ec⟩, ⟨TA, Tc⟩, TS⟩ := m
  simp only [Cd.cells, Sl.v]
  generalize efs.length = ne
  generalize trs.length = nt
  kernel_rfl

set_option maxRecDepth 100000 in
set_option maxHeartbeats 3200000 in
theorem pn_look (w W : World) (hB : Below w.heap.size w W) (p gc g n k cap : Nat) (A : Option Addr) (c : Cd) (m : CdM) (f : ByteArray → Bool) (hP : Blk W p 78 #[.slice A k cap, .map (some g)]) (hC : Blk W gc 74 (c.cells m).toArray) (hM : MapT W g n f) (hn : c.nm.size ≤ maxLen) (Q : Exit → Act → World → Prop) (t0 t1 t2 t3 t4 t5 t7 t9 t10 t11 t12 t13 t14 t15 t16 t17 t18 t19 t20 t21 t22 t23 t24 t25 t26 t27 t28 t29 t30 t31 t32 t33 t34 t35 t36 t37 t38 t39 t40 t41 t42 t43 t44 t45 t46 t47 t48 t49 t50 t51 t52 t53 t54 t55 t56 t57 t58 t59 t60 t61 t62 t63 t64 : Value)
    (hQ : ∀ d v c a w, Q (.panic c) (Act.put a d v) w → Q (.panic c) a w)
    (hK : ∀ (u9 u34 u35 u36 u37 u38 u39 u40 u41 u42 u43 : Value)  (W9 : World), Below W.heap.size W W9 → Q .normal ⟨#[t0, t1, t2, t3, t4, t5, .pointer (some ⟨p, 0, none⟩), t7, .pointer (some ⟨gc, 0, none⟩), u9, .bool (f c.nm), t11, t12, t13, t14, t15, t16, t17, t18, t19, t20, t21, t22, t23, t24, t25, t26, t27, t28, t29, t30, t31, t32, t33, u34, u35, u36, u37, u38, u39, u40, u41, u42, u43, t44, t45, t46, t47, t48, t49, t50, t51, t52, t53, t54, t55, t56, t57, t58, t59, t60, t61, t62, t63, t64], []⟩ W9) :
    Code.wp Tryd.prog (regOf Tryd.f7 13) Q ⟨#[t0, t1, t2, t3, t4, t5, .pointer (some ⟨p, 0, none⟩), t7, .pointer (some ⟨gc, 0, none⟩), t9, t10, t11, t12, t13, t14, t15, t16, t17, t18, t19, t20, t21, t22, t23, t24, t25, t26, t27, t28, t29, t30, t31, t32, t33, t34, t35, t36, t37, t38, t39, t40, t41, t42, t43, t44, t45, t46, t47, t48, t49, t50, t51, t52, t53, t54, t55, t56, t57, t58, t59, t60, t61, t62, t63, t64], []⟩ W := by
  have HKK := Lib.hid hK
  clear hK
  conv => arg 2; whnf
  have HM := Lib.hid hM
  have HN := Lib.hid hn
  have HB := Lib.hid hB
  have HP := Lib.hid hP
  have HC := Lib.hid hC
  have HQ := Lib.hid hQ
  have hne_ : Nonempty (In (fun W' => Blk W' p 78 #[.slice A k cap, .map (some g)] ∧ Blk W' gc 74 (c.cells m).toArray)) := ⟨⟨W, hP, hC⟩⟩
  have x0 : ∀ s : In (fun W' => Blk W' p 78 #[.slice A k cap, .map (some g)] ∧ Blk W' gc 74 (c.cells m).toArray), s.W.cell? ⟨p, 0, none⟩ = some (.slice A k cap) := fun s => (s.h.1.at_ 0).trans rfl
  have x1 : ∀ s : In (fun W' => Blk W' p 78 #[.slice A k cap, .map (some g)] ∧ Blk W' gc 74 (c.cells m).toArray), s.W.cell? ⟨p, 1, none⟩ = some (.map (some g)) := fun s => (s.h.1.at_ 1).trans rfl
  have y0 : ∀ s : In (fun W' => Blk W' p 78 #[.slice A k cap, .map (some g)] ∧ Blk W' gc 74 (c.cells m).toArray), s.W.cell? ⟨gc, 0, none⟩ = some (.string c.nm) := fun s => (s.h.2.at_ 0).trans rfl
  have hpl := hP.lt
  have hgl := hC.lt
  clear hM hn hB hP hC hQ
  refine wp_region_sched (fun w' => ∃ s : In (fun W' => Blk W' p 78 #[.slice A k cap, .map (some g)] ∧ Blk W' gc 74 (c.cells m).toArray), w' = s.W) [0,1,2,3,4,5] (.one 6 [7,8,9,10,11] .done) (by kernel_rfl) (by kernel_rfl) HQ.out ⟨⟨_, ⟨HP.out.drew, HC.out.drew⟩⟩, rfl⟩ ?_
  refine quiet_as (C' := (fun w' => ∃ s : In (fun W' => Blk W' p 78 #[.slice A k cap, .map (some g)] ∧ Blk W' gc 74 (c.cells m).toArray), w' = s.W)) rfl ?_
  simp only [opsAt, List.getElem?_toArray, List.getElem?_cons_succ, List.getElem?_cons_zero]
  repeat (go_big_quiet_step (fail))
  refine wpQuiet_nil ?_
  obtain ⟨W_d, hwd⟩ : ∃ v, W.drew = v := ⟨_, rfl⟩
  have HBW_1 : Hid (Below w.heap.size w W_d) := Lib.hid (by rw [← hwd]; exact (HB.out).drew)
  have HBR_1 : Hid (Below W.heap.size W W_d) := Lib.hid (by rw [← hwd]; exact (Below.refl _ _).drew)
  have FP_1 := Lib.hid ((HP.out).call (show Below W.heap.size W W_d by rw [← hwd]; exact (Below.refl _ _).drew))
  have FC_1 := Lib.hid ((HC.out).call (show Below W.heap.size W W_d by rw [← hwd]; exact (Below.refl _ _).drew))
  have FM_1 := Lib.hid ((HM.out).below (show Below W.heap.size W W_d by rw [← hwd]; exact (Below.refl _ _).drew))
  rw [hwd]
  clear hwd
  refine eff_as (C' := (fun w' => ∃ s : In (fun W' => Blk W' p 78 #[.slice A k cap, .map (some g)] ∧ Blk W' gc 74 (c.cells m).toArray), w' = s.W)) rfl ?_
  (refine eff_lit rfl rfl (fun K hK => ?_))
  obtain ⟨v9, hlk⟩ := FM_1.out.look HN.out
  go_big_op
  clear hlk
  refine hK _ _ ⟨⟨_, ⟨FP_1.out, FC_1.out⟩⟩, rfl⟩ ?_
  clear hK K
  try simp only [opsAt, List.getElem?_toArray, List.getElem?_cons_succ, List.getElem?_cons_zero]
  repeat (go_big_quiet_step (fail))
  refine wpQuiet_nil ?_
  refine effs_done ?_
  refine HKK.out _ _ _ _ _ _ _ _ _ _ _ _ HBR_1.out


set_option maxRecDepth 100000 in
set_option maxHeartbeats 3200000 in
theorem pn_put (w W : World) (hB : Below w.heap.size w W) (p gc g n k cap q : Nat) (A : Option Addr) (c : Cd) (m : CdM) (f : ByteArray → Bool) (hP : Blk W p 78 #[.slice A k cap, .map (some g)]) (hC : Blk W gc 74 (c.cells m).toArray) (hM : MapT W g n f) (hn : c.nm.size ≤ maxLen) (hq : q ≤ 1000) (hnn : n ≤ 1000) (Q : Exit → Act → World → Prop) (t0 t1 t2 t3 t4 t5 t9 t10 t11 t12 t13 t14 t15 t16 t17 t18 t19 t20 t21 t22 t23 t24 t25 t26 t27 t28 t29 t30 t31 t32 t33 t34 t35 t36 t37 t38 t39 t40 t41 t42 t43 t44 t45 t46 t47 t48 t49 t50 t51 t52 t53 t54 t55 t56 t57 t58 t59 t60 t61 t62 t63 t64 : Value)
    (hQ : ∀ d v c a w, Q (.panic c) (Act.put a d v) w → Q (.panic c) a w)
    (hK : ∀ (u45 u46 u47 u48 u49 u50 u51 : Value) (n' : Nat) (W9 : World), n' ≤ n + 1 ∧ MapT W9 g n' (fun y => decide (y = c.nm) || f y) ∧ W.grownBy W9 (some g) → Q .normal ⟨#[t0, t1, t2, t3, t4, t5, .pointer (some ⟨p, 0, none⟩), .int .i64 q, .pointer (some ⟨gc, 0, none⟩), t9, t10, t11, t12, t13, t14, t15, t16, t17, t18, t19, t20, t21, t22, t23, t24, t25, t26, t27, t28, t29, t30, t31, t32, t33, t34, t35, t36, t37, t38, t39, t40, t41, t42, t43, t44, u45, u46, u47, u48, u49, u50, u51, t52, t53, t54, t55, t56, t57, t58, t59, t60, t61, t62, t63, t64], []⟩ W9) :
    Code.wp Tryd.prog (regOf Tryd.f7 16) Q ⟨#[t0, t1, t2, t3, t4, t5, .pointer (some ⟨p, 0, none⟩), .int .i64 q, .pointer (some ⟨gc, 0, none⟩), t9, t10, t11, t12, t13, t14, t15, t16, t17, t18, t19, t20, t21, t22, t23, t24, t25, t26, t27, t28, t29, t30, t31, t32, t33, t34, t35, t36, t37, t38, t39, t40, t41, t42, t43, t44, t45, t46, t47, t48, t49, t50, t51, t52, t53, t54, t55, t56, t57, t58, t59, t60, t61, t62, t63, t64], []⟩ W := by
  have HKK := Lib.hid hK
  clear hK
  conv => arg 2; whnf
  have HM := Lib.hid hM
  have HN := Lib.hid hn
  have HB := Lib.hid hB
  have HQQ := Lib.hid hq
  have HNN := Lib.hid hnn
  have HP := Lib.hid hP
  have HC := Lib.hid hC
  have HQ := Lib.hid hQ
  have hne_ : Nonempty (In (fun W' => Blk W' p 78 #[.slice A k cap, .map (some g)] ∧ Blk W' gc 74 (c.cells m).toArray)) := ⟨⟨W, hP, hC⟩⟩
  have x0 : ∀ s : In (fun W' => Blk W' p 78 #[.slice A k cap, .map (some g)] ∧ Blk W' gc 74 (c.cells m).toArray), s.W.cell? ⟨p, 0, none⟩ = some (.slice A k cap) := fun s => (s.h.1.at_ 0).trans rfl
  have x1 : ∀ s : In (fun W' => Blk W' p 78 #[.slice A k cap, .map (some g)] ∧ Blk W' gc 74 (c.cells m).toArray), s.W.cell? ⟨p, 1, none⟩ = some (.map (some g)) := fun s => (s.h.1.at_ 1).trans rfl
  have y0 : ∀ s : In (fun W' => Blk W' p 78 #[.slice A k cap, .map (some g)] ∧ Blk W' gc 74 (c.cells m).toArray), s.W.cell? ⟨gc, 0, none⟩ = some (.string c.nm) := fun s => (s.h.2.at_ 0).trans rfl
  have hpl := hP.lt
  have hgl := hC.lt
  clear hM hn hB hP hC hQ hq hnn
  refine wp_region_sched (fun w' => ∃ s : In (fun W' => Blk W' p 78 #[.slice A k cap, .map (some g)] ∧ Blk W' gc 74 (c.cells m).toArray), w' = s.W) [0,1,2,3,4,5,6] (.one 7 [] .done) (by kernel_rfl) (by kernel_rfl) HQ.out ⟨⟨_, ⟨HP.out.drew, HC.out.drew⟩⟩, rfl⟩ ?_
  refine quiet_as (C' := (fun w' => ∃ s : In (fun W' => Blk W' p 78 #[.slice A k cap, .map (some g)] ∧ Blk W' gc 74 (c.cells m).toArray), w' = s.W)) rfl ?_
  simp only [opsAt, List.getElem?_toArray, List.getElem?_cons_succ, List.getElem?_cons_zero]
  repeat (go_big_quiet_step (fail))
  refine wpQuiet_nil ?_
  obtain ⟨W_d, hwd⟩ : ∃ v, W.drew = v := ⟨_, rfl⟩
  have HBW_1 : Hid (Below w.heap.size w W_d) := Lib.hid (by rw [← hwd]; exact (HB.out).drew)
  have HBR_1 : Hid (Below W.heap.size W W_d) := Lib.hid (by rw [← hwd]; exact (Below.refl _ _).drew)
  have FP_1 := Lib.hid ((HP.out).call (show Below W.heap.size W W_d by rw [← hwd]; exact (Below.refl _ _).drew))
  have FC_1 := Lib.hid ((HC.out).call (show Below W.heap.size W W_d by rw [← hwd]; exact (Below.refl _ _).drew))
  have FM_1 := Lib.hid ((HM.out).below (show Below W.heap.size W W_d by rw [← hwd]; exact (Below.refl _ _).drew))
  rw [hwd]
  clear hwd
  refine eff_as (C' := (fun w' => ∃ s : In (fun W' => Blk W' p 78 #[.slice A k cap, .map (some g)] ∧ Blk W' gc 74 (c.cells m).toArray), w' = s.W)) rfl ?_
  (refine eff_lit rfl rfl (fun K hK => ?_))
  obtain ⟨V9, hup, hMM, hgw⟩ := FM_1.out.put HN.out (v := (q : Int)) (by have := HQQ.out; omega) (by have := HNN.out; unfold maxLen; omega)
  obtain ⟨n9, hn9, hM9⟩ := hMM
  go_big_op
  clear hup
  have hgr9 : W.grownBy V9 (some g) := grown_pre HBR_1.out hgw
  have hP9 := FP_1.out.farM FM_1.out hgw
  have hC9 := FC_1.out.farM FM_1.out hgw
  refine hK _ _ ⟨⟨_, ⟨hP9, hC9⟩⟩, rfl⟩ ?_
  clear hK K
  try simp only [opsAt, List.getElem?_toArray, List.getElem?_cons_succ, List.getElem?_cons_zero]
  refine wpQuiet_nil ?_
  refine effs_done ?_
  refine HKK.out _ _ _ _ _ _ _ n9 V9 ⟨hn9, hM9, hgr9⟩


set_option maxRecDepth 100000 in
set_option maxHeartbeats 3200000 in
theorem pn_add (w W : World) (hB : Below w.heap.size w W) (p gc g n k cap : Nat) (A : Option Addr) (c : Cd) (m : CdM) (L : List Cd) (ms : List CdM) (f : ByteArray → Bool) (hP : Blk W p 78 #[.slice A k cap, .map (some g)]) (hC : Blk W gc 74 (c.cells m).toArray) (hM : MapT W g n f) (hR : CdR W c m) (hb : CdB c) (hO : CsO W w.heap.size ⟨A, cap⟩ L ms) (hL : L.length = k) (hk : k ≤ 1000) (hp : w.heap.size ≤ p) (hgb : w.heap.size ≤ g) (hgc : w.heap.size ≤ gc) (Q : Exit → Act → World → Prop) (t0 t1 t2 t3 t4 t5 t7 t9 t10 t11 t12 t13 t14 t15 t16 t17 t18 t19 t20 t21 t22 t23 t24 t25 t26 t27 t28 t29 t30 t31 t32 t33 t34 t35 t36 t37 t38 t39 t40 t41 t42 t43 t44 t45 t46 t47 t48 t49 t50 t51 t52 t53 t54 t55 t56 t57 t58 t59 t60 t61 t62 t63 t64 : Value)
    (hQ : ∀ d v c a w, Q (.panic c) (Act.put a d v) w → Q (.panic c) a w)
    (hK : ∀ (u52 u53 u54 u55 u56 u57 u58 u59 u60 u61 u62 : Value) (g8 c8 : Nat) (ms' : List CdM) (W9 : World), CsO W9 w.heap.size ⟨some ⟨g8, 0, none⟩, c8⟩ (L ++ [c]) ms' ∧ Blk W9 p 78 (#[.slice A k cap, .map (some g)].setIfInBounds 0 (.slice (some ⟨g8, 0, none⟩) (k + 1) c8)) ∧ MapT W9 g n f ∧ Below w.heap.size w W9 → Q .normal ⟨#[t0, t1, t2, t3, t4, t5, .pointer (some ⟨p, 0, none⟩), t7, .pointer (some ⟨gc, 0, none⟩), t9, t10, t11, t12, t13, t14, t15, t16, t17, t18, t19, t20, t21, t22, t23, t24, t25, t26, t27, t28, t29, t30, t31, t32, t33, t34, t35, t36, t37, t38, t39, t40, t41, t42, t43, t44, t45, t46, t47, t48, t49, t50, t51, u52, u53, u54, u55, u56, u57, u58, u59, u60, u61, u62, t63, t64], []⟩ W9) :
    Code.wp Tryd.prog (regOf Tryd.f7 17) Q ⟨#[t0, t1, t2, t3, t4, t5, .pointer (some ⟨p, 0, none⟩), t7, .pointer (some ⟨gc, 0, none⟩), t9, t10, t11, t12, t13, t14, t15, t16, t17, t18, t19, t20, t21, t22, t23, t24, t25, t26, t27, t28, t29, t30, t31, t32, t33, t34, t35, t36, t37, t38, t39, t40, t41, t42, t43, t44, t45, t46, t47, t48, t49, t50, t51, t52, t53, t54, t55, t56, t57, t58, t59, t60, t61, t62, t63, t64], []⟩ W := by
  have HKK := Lib.hid hK
  clear hK
  conv => arg 2; whnf
  have HM := Lib.hid hM
  have HB := Lib.hid hB
  have HO := Lib.hid hO
  have HL := Lib.hid hL
  have HK := Lib.hid hk
  have HPB := Lib.hid hp
  have HGB := Lib.hid hgb
  have HGC := Lib.hid hgc
  have HNE : Hid (gc ≠ p) := Lib.hid (fun e => by
    subst e
    unfold Blk at hP hC
    rw [hP] at hC
    injection hC with hC
    injection hC with _ hC
    exact absurd hC (by decide))
  have HR := Lib.hid hR
  have HBB := Lib.hid hb
  have HP := Lib.hid hP
  have HC := Lib.hid hC
  have HQ := Lib.hid hQ
  have hne_ : Nonempty (In (fun W' => Blk W' p 78 #[.slice A k cap, .map (some g)] ∧ Blk W' gc 74 (c.cells m).toArray ∧ Below W.heap.size W W')) := ⟨⟨W, hP, hC, Below.refl _ _⟩⟩
  have x0 : ∀ s : In (fun W' => Blk W' p 78 #[.slice A k cap, .map (some g)] ∧ Blk W' gc 74 (c.cells m).toArray ∧ Below W.heap.size W W'), s.W.cell? ⟨p, 0, none⟩ = some (.slice A k cap) := fun s => (s.h.1.at_ 0).trans rfl
  have HLD : Hid (∀ W', (∃ s : In (fun W' => Blk W' p 78 #[.slice A k cap, .map (some g)] ∧ Blk W' gc 74 (c.cells m).toArray ∧ Below W.heap.size W W'), W' = s.W) → (Instr.loadAt 74 (.pointer (some ⟨gc, 0, none⟩))).run Tryd.prog W' = .ok (.agg (c.cells m).toArray) W') := Lib.hid (by
    rintro W' ⟨s, rfl⟩
    exact s.h.2.1.mid (o := 0) (ty := 74) (c.cells m) _ (fun j v hj => by rw [Nat.zero_add]; simpa using hj) Tryd.underlying74 rfl (by rw [size_card]; rfl))
  have HCP : Hid (∀ W', Below W.heap.size W W' → Calls Tryd.prog 22 #[.agg (c.cells m).toArray] W' (CopyEnd c W')) := Lib.hid (fun W' hb' => ccopy_any c m W' (hR.below hb') hb)
  have hpl := hP.lt
  have hgl := hC.lt
  clear hM hB hP hC hQ hR hb hO hL hk hp hgb hgc
  have hneT : Nonempty (In (fun _ => True)) := ⟨⟨W, trivial⟩⟩
  refine wp_region_late2 (Ph (fun w' => ∃ s : In (fun W' => Blk W' p 78 #[.slice A k cap, .map (some g)] ∧ Blk W' gc 74 (c.cells m).toArray ∧ Below W.heap.size W W'), w' = s.W) (fun w' => ∃ s : In (fun _ => True), w' = s.W)) (fun w' => ∃ s : In (fun _ => True), w' = s.W) (fun w => ⟨⟨w, trivial⟩, rfl⟩) [8,11] [0,1,2,3] [4,5] (.one 6 [] (.one 7 [] (.one 8 [9,10] (.one 11 [] .done)))) (by kernel_rfl) (by kernel_rfl) HQ.out ⟨⟨_, ⟨HP.out.drew, HC.out.drew, (Below.refl _ _).drew⟩⟩, rfl⟩ ?_
  refine quiet_as (C' := (fun w' => ∃ s : In (fun _ => True), w' = s.W)) rfl ?_
  simp only [opsAt, List.getElem?_toArray, List.getElem?_cons_succ, List.getElem?_cons_zero]
  repeat (first | (refine wpQuiet_load_by HLD.out ⟨_, ⟨⟨W, HP.out, HC.out, Below.refl _ _⟩, rfl⟩⟩ rfl rfl rfl ?_; simp only [Act.put, List.setIfInBounds_toArray, List.set_cons_succ, List.set_cons_zero]) | go_big_quiet_step (fail))
  refine wpQuiet_nil ?_
  refine quiet_as (C' := (fun w' => ∃ s : In (fun W' => Blk W' p 78 #[.slice A k cap, .map (some g)] ∧ Blk W' gc 74 (c.cells m).toArray ∧ Below W.heap.size W W'), w' = s.W)) rfl ?_
  try simp only [opsAt, List.getElem?_toArray, List.getElem?_cons_succ, List.getElem?_cons_zero]
  repeat (first | (refine wpQuiet_load_by HLD.out ⟨_, ⟨⟨W, HP.out, HC.out, Below.refl _ _⟩, rfl⟩⟩ rfl rfl rfl ?_; simp only [Act.put, List.setIfInBounds_toArray, List.set_cons_succ, List.set_cons_zero]) | go_big_quiet_step (fail))
  refine wpQuiet_nil ?_
  obtain ⟨W_d, hwd⟩ : ∃ v, W.drew = v := ⟨_, rfl⟩
  have HBW_1 : Hid (Below w.heap.size w W_d) := Lib.hid (by rw [← hwd]; exact (HB.out).drew)
  have HBR_1 : Hid (Below W.heap.size W W_d) := Lib.hid (by rw [← hwd]; exact (Below.refl _ _).drew)
  have FP_1 := Lib.hid ((HP.out).call (show Below W.heap.size W W_d by rw [← hwd]; exact (Below.refl _ _).drew))
  have FC_1 := Lib.hid ((HC.out).call (show Below W.heap.size W W_d by rw [← hwd]; exact (Below.refl _ _).drew))
  have FM_1 := Lib.hid ((HM.out).below (show Below W.heap.size W W_d by rw [← hwd]; exact (Below.refl _ _).drew))
  have FO_1 := Lib.hid ((HO.out).below (show Below W.heap.size W W_d by rw [← hwd]; exact (Below.refl _ _).drew))
  rw [hwd]
  clear hwd
  refine eff_as (C' := (fun w' => ∃ s : In (fun W' => Blk W' p 78 #[.slice A k cap, .map (some g)] ∧ Blk W' gc 74 (c.cells m).toArray ∧ Below W.heap.size W W'), w' = s.W)) rfl ?_
  (refine eff_lit rfl rfl (fun K hK => ?_))
  go_big_op
  refine (HCP.out W_d HBR_1.out).mono ?_
  rintro e W_2 ⟨m1, rfl, hx, hbW_2⟩
  have FN_3 := Lib.hid (hx.more HBW_1.out.size)
  have HBW_3 := Lib.hid (below_call HBW_1.out hbW_2 HBW_1.out.size)
  clear HBW_1
  have HBR_3 := Lib.hid (below_call HBR_1.out hbW_2 HBR_1.out.size)
  clear HBR_1
  have FP_3 := Lib.hid (FP_1.out.call hbW_2)
  clear FP_1
  have FC_3 := Lib.hid (FC_1.out.call hbW_2)
  clear FC_1
  have FM_3 := Lib.hid (FM_1.out.below hbW_2)
  clear FM_1
  have FO_3 := Lib.hid (FO_1.out.below hbW_2)
  clear FO_1
  clear hbW_2
  clear hx
  refine hK _ _ ⟨⟨_, ⟨FP_3.out, FC_3.out, HBR_3.out⟩⟩, rfl⟩ ?_
  clear hK K
  try simp only [opsAt, List.getElem?_toArray, List.getElem?_cons_succ, List.getElem?_cons_zero]
  refine wpQuiet_nil ?_
  refine eff_as (C' := (fun w' => ∃ s : In (fun W' => Blk W' p 78 #[.slice A k cap, .map (some g)] ∧ Blk W' gc 74 (c.cells m).toArray ∧ Below W.heap.size W W'), w' = s.W)) rfl ?_
  (refine eff_lit rfl rfl (fun K hK => ?_))
  refine wp_op_by (run_of_slice (parts' := #[(0, .agg (c.cells m1).toArray)]) rfl (by first | rfl | simp [Act.eval]) (slice_card c m1 W_2)) ?_
  simp only [Act.put, List.setIfInBounds_toArray, List.set_cons_succ, List.set_cons_zero]
  obtain ⟨W_4, hvW_4⟩ : ∃ v, (W_2.alloc (.cells (c.cells m1).toArray 74)) = v := ⟨_, rfl⟩
  have hbW_4 : Below W_2.heap.size W_2 W_4 := by rw [← hvW_4]; exact (Below.refl _ _).alloc (Nat.le_refl _) _
  obtain ⟨gL, hggL⟩ : ∃ v, W_2.heap.size = v := ⟨_, rfl⟩
  have hkW_4 : Blk W_4 gL 74 (c.cells m1).toArray := by rw [← hvW_4]; exact Blk.mk_ _ _ _ _ hggL
  have HNgL : Hid (W.heap.size ≤ gL ∧ w.heap.size ≤ gL) := Lib.hid ⟨by rw [← hggL]; exact HBR_3.out.size, by rw [← hggL]; exact HBW_3.out.size⟩
  rw [hvW_4, hggL]
  have FL_5 := Lib.hid (hkW_4)
  have HBW_5 := Lib.hid (below_call HBW_3.out hbW_4 HBW_3.out.size)
  clear HBW_3
  have HBR_5 := Lib.hid (below_call HBR_3.out hbW_4 HBR_3.out.size)
  clear HBR_3
  have FP_5 := Lib.hid (FP_3.out.call hbW_4)
  clear FP_3
  have FC_5 := Lib.hid (FC_3.out.call hbW_4)
  clear FC_3
  have FM_5 := Lib.hid (FM_3.out.below hbW_4)
  clear FM_3
  have FO_5 := Lib.hid (FO_3.out.below hbW_4)
  clear FO_3
  have FN_5 := Lib.hid (FN_3.out.below hbW_4)
  clear FN_3
  clear hkW_4 hvW_4 hggL hbW_4
  refine hK _ _ ⟨⟨_, ⟨FP_5.out, FC_5.out, HBR_5.out⟩⟩, rfl⟩ ?_
  clear hK K
  try simp only [opsAt, List.getElem?_toArray, List.getElem?_cons_succ, List.getElem?_cons_zero]
  refine wpQuiet_nil ?_
  refine eff_as (C' := (fun w' => ∃ s : In (fun _ => True), w' = s.W)) rfl ?_
  (refine eff_lit rfl rfl (fun K hK => ?_))
  refine append_x_op (w := W_4) (.tmp 56) (.tmp 59) 24 rfl w.heap.size 74 (.agg #[.string ⟨#[]⟩, .int .i64 0, .int .i64 0, .int .i64 0, .int .i64 0, .int .i64 0, .int .i64 0, .int .i64 0, .int .i64 0, .int .i64 0, .int .i64 0, .slice none 0 0, .slice none 0 0, .int .i64 0]) 14 152 tinfo_card Tryd.underlying24 rfl (by decide) A k cap (ccs (L.zip ms)) rfl (by have := FO_5.out.row; rwa [HL.out] at this) (some ⟨gL, 0, none⟩) 1 1 (c.cells m1) rfl (reads_block FL_5.out 14 1 rfl) (one_cd _ _) (by decide) (by have := HK.out; omega) (by have := HK.out; omega) HBW_5.out.size _ rfl ?_
  intro g8 c8 V8 ho8 hg8 hi8 hl8
  simp only [Act.put, List.setIfInBounds_toArray, List.set_cons_succ, List.set_cons_zero]
  have hrow8 : XOwns W_4 w.heap.size 74 14 A k cap (ccs (L.zip ms)) := by have := FO_5.out.row; rwa [HL.out] at this
  have hP8 : Blk V8 p 78 #[.slice A k cap, .map (some g)] := FP_5.out.grown hg8 (fun e => hrow8.apart_blk FP_5.out (by decide) e.symm)
  have hM8 : MapT V8 g n f := FM_5.out.kept hg8 (fun e => by
    rcases hrow8.blk with h0 | ⟨q9, cur, h1, _, h2⟩
    · rw [h0] at e; cases e
    · rw [← e] at h1
      injection h1 with h1
      rw [← h1] at h2
      exact FM_5.out.noCells _ _ _ h2)
  have hB8 : Below w.heap.size w V8 := HBW_5.out.grown hg8 HBW_5.out.size (fun q hq => (hrow8.lt q hq.symm.symm).1)
  have hO8 : CsO V8 w.heap.size ⟨some ⟨g8, 0, none⟩, c8⟩ (L ++ [c]) (ms ++ [m1]) := by
    refine ⟨by simp [FO_5.out.len], ?_, fun i x y h1 h2 => ?_⟩
    · rw [ccs_snoc FO_5.out.len, List.length_append, HL.out]
      exact ho8
    · rcases Nat.lt_or_ge i L.length with hlt | hge
      · rw [List.getElem?_append_left hlt] at h1
        rw [List.getElem?_append_left (by rw [FO_5.out.len]; exact hlt)] at h2
        exact (FO_5.out.cd i x y h1 h2).grown hrow8 hg8
      · rw [List.getElem?_append_right hge] at h1
        rw [List.getElem?_append_right (by rw [FO_5.out.len]; exact hge), FO_5.out.len] at h2
        rcases Nat.eq_zero_or_pos (i - L.length) with h0 | h0
        · rw [h0] at h1 h2
          simp at h1 h2
          subst h1 h2
          exact FN_5.out.grown hrow8 hg8
        · rw [List.getElem?_eq_none (by simp; omega)] at h1
          cases h1
  have FP_888 := Lib.hid hP8
  have hBR8 : Below W.heap.size W V8 → True := fun _ => trivial
  clear hP8
  refine hK _ _ ⟨⟨_, trivial⟩, rfl⟩ ?_
  clear hK K
  try simp only [opsAt, List.getElem?_toArray, List.getElem?_cons_succ, List.getElem?_cons_zero]
  try simp only [Act.put]
  repeat (first | (refine wpQuiet_load_by HLD.out ⟨_, ⟨⟨W, HP.out, HC.out, Below.refl _ _⟩, rfl⟩⟩ rfl rfl rfl ?_; simp only [Act.put, List.setIfInBounds_toArray, List.set_cons_succ, List.set_cons_zero]) | go_big_quiet_step (fail))
  refine wpQuiet_nil ?_
  refine eff_as (C' := (fun w' => ∃ s : In (fun _ => True), w' = s.W)) rfl ?_
  (refine eff_lit rfl rfl (fun K hK => ?_))
  have q9 := (FP_888.out.at_ 0).trans rfl
  have f9 := FP_888.out.free 0
  have l9 := FP_888.out.lt
  go_big_op
  obtain ⟨V9, hv9⟩ : ∃ v, V8.setCell ⟨p, 0, none⟩ (.slice (some ⟨g8, 0, none⟩) (k + 1) c8) = v := ⟨_, rfl⟩
  have hg9 : V8.grownBy V9 (some p) := by rw [← hv9]; exact only_setCell (only_refl _ _) (.inl rfl) _
  have hk9 := FP_888.out.put 0 (.slice (some ⟨g8, 0, none⟩) (k + 1) c8)
  rw [hv9] at hk9
  have hO9 := hO8.blk FP_888.out hg9 (by decide) (by decide) (by decide)
  have hM9 : MapT V9 g n f := hM8.kept hg9 (fun e => by
    injection e with e
    have h9 := FP_888.out
    rw [← e] at h9
    exact hM8.noCells _ _ _ h9)
  have hB9 := hB8.grown hg9 hB8.size (fun q hq => by injection hq with hq; have := HPB.out; omega)
  rw [hv9]
  clear q9 f9 l9 hv9
  refine hK _ _ ⟨⟨_, trivial⟩, rfl⟩ ?_
  clear hK K
  try simp only [opsAt, List.getElem?_toArray, List.getElem?_cons_succ, List.getElem?_cons_zero]
  refine wpQuiet_nil ?_
  refine effs_done ?_
  refine HKK.out _ _ _ _ _ _ _ _ _ _ _ g8 c8 (ms ++ [m1]) V9 ⟨hO9, hk9, hM9, hB9⟩


structure PnS (w : World) (l : List Cd) (p g n' k : Nat) (A : Option Addr) (cap : Nat) (ms : List CdM) (W : World) : Prop where
  P : Blk W p 78 #[.slice A k cap, .map (some g)]
  O : CsO W w.heap.size ⟨A, cap⟩ (l.take k) ms
  M : MapT W g n' (inN (names (l.take k)))
  n : n' ≤ k
  nd : (names (l.take k)).Nodup
  B : Below w.heap.size w W
  pb : w.heap.size ≤ p
  gb : w.heap.size ≤ g
theorem PnS.below {w W W' : World} {l : List Cd} {p g n' k cap : Nat} {A : Option Addr} {ms : List CdM} (h : PnS w l p g n' k A cap ms W) (hb : Below W.heap.size W W') : PnS w l p g n' k A cap ms W' :=
  ⟨h.P.call hb, h.O.below hb, h.M.below hb, h.n, h.nd, below_call h.B hb h.B.size, h.pb, h.gb⟩
set_option maxRecDepth 100000 in
set_option maxHeartbeats 6400000 in
theorem pnew_any (s : Sl) (l : List Cd) (ms : List CdM) (w : World) (h : CsR w s l ms) (hn4 : l.length ≤ 400) : Calls Tryd.prog 7 #[s.v l.length] w (NewEnd l w) := by
  obtain ⟨sA, sc⟩ := s
  obtain ⟨n, hn⟩ : ∃ x, l.length = x := ⟨_, rfl⟩
  have HX := Lib.hid h
  have HN := Lib.hid hn
  have hn4' : ¬ (400 : Int) < n := by omega
  have hn9 : n ≤ 400 := by omega
  simp only [Sl.v]
  rw [hn]
  have H4 := Lib.hid hn4
  clear h hn hn4
  go_enter Tryd.func7, Tryd.ntmps7
  go_wp2_with fail
  clear hn4'
  go_loopw [16] (fun i W => ∃ k : Nat, k ≤ n ∧ i = .int .i64 k ∧ Hid (∀ j c, j < k → l[j]? = some c → cdOk c = true) ∧ Hid (Below w.heap.size w W)) (fun i _ => n - (intOf i).toNat)
  case atStart => exact ⟨0, Nat.zero_le _, rfl, Lib.hid (fun q c h => absurd h (by omega)), Lib.hid (Below.refl _ _)⟩
  case round =>
    obtain ⟨k, hk, rfl, HE, HB⟩ := hrel
    by_cases hlt : k < n
    · have hlt' : (k : Int) < n := by omega
      obtain ⟨c, hc⟩ := get_of (l := l) (k := k) (by rw [HN.out]; exact hlt)
      obtain ⟨m, hm⟩ := get_of (l := ms) (k := k) (by rw [HX.out.len, HN.out]; exact hlt)
      obtain ⟨ad, rfl, hld⟩ := (HX.out.below HB.out).load hc hm
      have HC := Lib.hid hc
      have HLD := Lib.hid hld
      obtain ⟨W8, hst, hB8, hg8⟩ := (Blk.mk_ wr 74 zcd _ rfl).storeAll (ty := 74) (c.cells m) rfl (by rw [size_card]; rfl) (one_cd _ _)
      have hb8 : Below wr.heap.size wr W8 := ((Below.refl _ _).alloc (Nat.le_refl _) _).grown hg8 (by simp) (fun q hq => by injection hq with hq; omega)
      have HB8 := Lib.hid (below_call HB.out hb8 HB.out.size)
      have hld2 : (Instr.loadAt 74 (.pointer (some ⟨wr.heap.size, 0, none⟩))).run Tryd.prog W8 = .ok (.agg (c.cells m).toArray) W8 := hB8.mid (o := 0) (ty := 74) (c.cells m) _ (fun j v hj => by rw [Nat.zero_add]; simpa using hj) Tryd.underlying74 rfl (by rw [size_card]; rfl)
      have HLD2 := Lib.hid hld2
      have HST := Lib.hid hst
      have HV := Lib.hid (cv_any c m W8 ((HX.out.below HB8.out).cd k c m hc hm))
      obtain ⟨d, hd⟩ : ∃ d, cdOk c = d := ⟨_, rfl⟩
      rw [hd] at HV
      have HD := Lib.hid hd
      unfold zcd at HST
      obtain ⟨cs, hcs⟩ : ∃ cs, (c.cells m).toArray = cs := ⟨_, rfl⟩
      rw [hcs] at HLD HST HLD2 HV
      clear hc hm hld hst hB8 hg8 hb8 hld2 hd hcs
      cases d with
      | false =>
        have HBAD : Hid (allOk l = false) := Lib.hid (by
          unfold allOk
          rw [List.all_eq_false]
          exact ⟨c, List.mem_of_getElem? HC.out, by rw [HD.out]; decide⟩)
        go_wp2_with (first | (refine wpList_load_by HLD.out rfl rfl rfl ?_; simp only [Act.put, List.setIfInBounds_toArray, List.set_cons_succ, List.set_cons_zero]) | (refine wpList_store_by HST.out rfl rfl rfl rfl ?_; simp only [Act.put, List.setIfInBounds_toArray, List.set_cons_succ, List.set_cons_zero]) | (refine wpList_load_by HLD2.out rfl rfl rfl ?_; simp only [Act.put, List.setIfInBounds_toArray, List.set_cons_succ, List.set_cons_zero]) | fail)
        refine HV.out.mono ?_
        rintro e w9 ⟨rfl, hb9⟩
        have HB9 := Lib.hid (below_call HB8.out hb9 HB8.out.size)
        clear hb9
        go_wp2_with fail
        (first | go_ret | go_ret2)
        exact .inl ⟨HBAD.out, rfl, HB9.out⟩
      | true =>
        have HEE : Hid (∀ j c, j < k + 1 → l[j]? = some c → cdOk c = true) := Lib.hid (fun j x hq hg => by
          rcases Nat.lt_or_ge j k with h | h
          · exact HE.out j x h hg
          · obtain rfl : j = k := by omega
            rw [HC.out] at hg
            rw [← Option.some.inj hg]
            exact HD.out)
        go_wp2_with (first | (refine wpList_load_by HLD.out rfl rfl rfl ?_; simp only [Act.put, List.setIfInBounds_toArray, List.set_cons_succ, List.set_cons_zero]) | (refine wpList_store_by HST.out rfl rfl rfl rfl ?_; simp only [Act.put, List.setIfInBounds_toArray, List.set_cons_succ, List.set_cons_zero]) | (refine wpList_load_by HLD2.out rfl rfl rfl ?_; simp only [Act.put, List.setIfInBounds_toArray, List.set_cons_succ, List.set_cons_zero]) | fail)
        refine HV.out.mono ?_
        rintro e w9 ⟨rfl, hb9⟩
        have HB9 := Lib.hid (below_call HB8.out hb9 HB8.out.size)
        clear hb9
        go_wp2_with fail
        go_roundw
        case rel => exact ⟨k + 1, hlt, by go_num, HEE, HB9⟩
        case measure => simp [intOf]; omega
    · have HKN : Hid (k = n) := Lib.hid (by omega)
      have HOK : Hid (∀ j c, l[j]? = some c → cdOk c = true) := Lib.hid (fun j c hj => HE.out j c (by rw [HKN.out, ← HN.out]; exact (List.getElem?_eq_some_iff.1 hj).1) hj)
      obtain ⟨w2, hw2⟩ : ∃ x, (wr.alloc (.map #[] 0)).alloc (.cells #[.slice none 0 0, .map (some wr.heap.size)] 78) = x := ⟨_, rfl⟩
      have hM2 : MapT w2 wr.heap.size 0 (fun _ => false) := by rw [← hw2]; exact (MapT.make wr).below ((Below.refl _ _).alloc (Nat.le_refl _) _)
      have hS2 : PnS w l (wr.heap.size + 1) wr.heap.size 0 0 none 0 [] w2 := ⟨by rw [← hw2]; exact Blk.mk_ _ _ _ _ (by simp), ⟨rfl, XOwns.nil_ _ _ _ _, fun i c m h => by simp at h⟩, by (have he : inN (names (l.take 0)) = (fun _ => false) := rfl; rw [he]; exact hM2), Nat.le_refl _, by simp [names], by rw [← hw2]; exact (HB.out.alloc HB.out.size _).alloc (by have := HB.out.size; simp; omega) _, by have := HB.out.size; omega, HB.out.size⟩
      have HS2 := Lib.hid hS2
      obtain ⟨g, hg⟩ : ∃ g, wr.heap.size = g := ⟨_, rfl⟩
      rw [hg] at hw2 HS2
      have HLS := Lib.hid hg
      clear hM2 hS2
      go_wp2_with fail
      rw [run_makeMap]
      go_wp2_with fail
      clear hw2 hg
      go_loopw [29] (fun i W => ∃ (k n' cap : Nat) (A : Option Addr) (ms' : List CdM), k ≤ n ∧ i = .int .i64 k ∧ Hid (PnS w l (g + 1) g n' k A cap ms' W)) (fun i _ => n - (intOf i).toNat)
      case atStart => exact ⟨0, 0, 0, none, [], Nat.zero_le _, rfl, HS2⟩
      case round =>
        clear HS2 hk hlt HE HB HKN HLS
        obtain ⟨k, n', cap, A, ms', hk, rfl, HS⟩ := hrel
        by_cases hlt : k < n
        · have hlt' : (k : Int) < n := by omega
          obtain ⟨c, hc⟩ := get_of (l := l) (k := k) (by rw [HN.out]; exact hlt)
          obtain ⟨m, hm⟩ := get_of (l := ms) (k := k) (by rw [HX.out.len, HN.out]; exact hlt)
          obtain ⟨ad, rfl, hld⟩ := (HX.out.below HS.out.B).load hc hm
          have HC := Lib.hid hc
          have HMM := Lib.hid hm
          have HLD := Lib.hid hld
          obtain ⟨W8, hst, hB8, hg8⟩ := (Blk.mk_ wr 74 zcd _ rfl).storeAll (ty := 74) (c.cells m) rfl (by rw [size_card]; rfl) (one_cd _ _)
          have hb8 : Below wr.heap.size wr W8 := ((Below.refl _ _).alloc (Nat.le_refl _) _).grown hg8 (by simp) (fun q hq => by injection hq with hq; omega)
          have HS8 := Lib.hid (HS.out.below hb8)
          have HC8 := Lib.hid hB8
          have HST := Lib.hid hst
          have HGC : Hid (w.heap.size ≤ wr.heap.size) := Lib.hid HS.out.B.size
          have HNM : Hid (c.nm.size ≤ maxLen) := Lib.hid ((HX.out.cd k c m hc hm).nm)
          unfold zcd at HST
          obtain ⟨cs, hcs⟩ : ∃ cs, (c.cells m).toArray = cs := ⟨_, rfl⟩
          rw [hcs] at HLD HST
          clear hc hm hld hst hB8 hg8 hb8 hcs
          go_wp2_with (first | (refine wpList_load_by HLD.out rfl rfl rfl ?_; simp only [Act.put, List.setIfInBounds_toArray, List.set_cons_succ, List.set_cons_zero]) | (refine wpList_store_by HST.out rfl rfl rfl rfl ?_; simp only [Act.put, List.setIfInBounds_toArray, List.set_cons_succ, List.set_cons_zero]) | fail)
          refine pn_look w W8 HS8.out.B (g + 1) wr.heap.size g n' k cap A c m _ HS8.out.P HC8.out HS8.out.M HNM.out _ _ _ _ _ _ _ _ _ _ _ _ _ _ _ _ _ _ _ _ _ _ _ _ _ _ _ _ _ _ _ _ _ _ _ _ _ _ _ _ _ _ _ _ _ _ _ _ _ _ _ _ _ _ _ _ _ _ _ _ _ _ _ _ ?_ ?_
          · exact fun d _ _ _ _ h => by cases d <;> exact h
          intro v13_9 v13_34 v13_35 v13_36 v13_37 v13_38 v13_39 v13_40 v13_41 v13_42 v13_43 W9 hb9
          have HS9 := Lib.hid (HS8.out.below hb9)
          have HC9 := Lib.hid (HC8.out.call hb9)
          obtain ⟨d, hd⟩ : ∃ d, inN (names (l.take k)) c.nm = d := ⟨_, rfl⟩
          have HD := Lib.hid hd
          rw [hd]
          clear hb9 hd
          cases d with
          | true =>
            have HEND : Hid (allOk l = true ∧ ¬ (names l).Nodup) := Lib.hid ⟨by
              unfold allOk
              rw [List.all_eq_true]
              intro x hx
              obtain ⟨q, hq, he⟩ := List.getElem_of_mem hx
              exact HOK.out q x (by rw [List.getElem?_eq_getElem hq, he]), dup_of HC.out (inN_t.1 HD.out)⟩
            go_wp2_with fail
            (first | go_ret | go_ret2)
            exact .inr (.inl ⟨HEND.out.1, HEND.out.2, rfl, HS9.out.B⟩)
          | false =>
            go_wp2_with fail
            refine pn_put w W9 HS9.out.B (g + 1) wr.heap.size g n' k cap k A c m _ HS9.out.P HC9.out HS9.out.M HNM.out (by have := H4.out; rw [HN.out] at this; omega) (by have := H4.out; rw [HN.out] at this; have := HS9.out.n; omega) _ _ _ _ _ _ _ _ _ _ _ _ _ _ _ _ _ _ _ _ _ _ _ _ _ _ _ _ _ _ _ _ _ _ _ _ _ _ _ _ _ _ _ _ _ _ _ _ _ _ _ _ _ _ _ _ _ _ _ _ _ _ _ ?_ ?_
            · exact fun d _ _ _ _ h => by cases d <;> exact h
            intro v16_45 v16_46 v16_47 v16_48 v16_49 v16_50 v16_51 n2 W10 ⟨hn2, hM10, hg10⟩
            have hP10 := HS9.out.P.farM HS9.out.M hg10
            have hC10 := HC9.out.farM HS9.out.M hg10
            have hO10 := HS9.out.O.far hg10 HS9.out.M.noCells
            have hB10 := HS9.out.B.grown hg10 HS9.out.B.size (fun q hq => by injection hq with hq; have := HS9.out.gb; omega)
            have hR10 := (HX.out.below hB10).cd k c m HC.out HMM.out
            go_wp2_with fail
            refine pn_add w W10 hB10 (g + 1) wr.heap.size g n2 k cap A c m (l.take k) ms' _ hP10 hC10 hM10 hR10 (cdOk_B (HOK.out k c HC.out)) hO10 (by rw [List.length_take, HN.out]; omega) (by have := H4.out; rw [HN.out] at this; omega) HS9.out.pb HS9.out.gb HGC.out _ _ _ _ _ _ _ _ _ _ _ _ _ _ _ _ _ _ _ _ _ _ _ _ _ _ _ _ _ _ _ _ _ _ _ _ _ _ _ _ _ _ _ _ _ _ _ _ _ _ _ _ _ _ _ _ _ _ _ _ _ _ _ _ ?_ ?_
            · exact fun d _ _ _ _ h => by cases d <;> exact h
            intro v17_52 v17_53 v17_54 v17_55 v17_56 v17_57 v17_58 v17_59 v17_60 v17_61 v17_62 g8 c8 ms2 W11 ⟨hO11, hP11, hM11, hB11⟩
            have HS11 : Hid (PnS w l (g + 1) g n2 (k + 1) (some ⟨g8, 0, none⟩) c8 ms2 W11) := Lib.hid ⟨by simpa using hP11, by rw [take_snoc HC.out]; exact hO11, by
              have he : inN (names (l.take (k + 1))) = (fun y => decide (y = c.nm) || inN (names (l.take k)) y) := by
                funext y
                rw [names_snoc HC.out, Bool.eq_iff_iff, inN_t]
                simp [inN_t]
                exact Or.comm
              rw [he]
              exact hM11, by have := HS9.out.n; omega, by rw [names_snoc HC.out]; exact nodup_snoc HS9.out.nd (fun h => by rw [inN_t.2 h] at HD; exact absurd HD.out (by decide)), hB11, HS9.out.pb, HS9.out.gb⟩
            clear hO11 hP11 hM11 hB11 hP10 hC10 hO10 hB10 hR10 hM10 hg10 hn2
            go_wp2_with fail
            go_roundw
            case rel => exact ⟨k + 1, n2, c8, _, ms2, hlt, by go_num, HS11⟩
            case measure => simp [intOf]; omega
        · have HKN : Hid (k = n) := Lib.hid (by omega)
          have HEND : Hid (allOk l = true ∧ (names l).Nodup ∧ PoolR wr w.heap.size (g + 1) l) := Lib.hid (by
            have h := HS.out
            have hlk : l.take k = l := List.take_of_length_le (by rw [HN.out, HKN.out]; exact Nat.le_refl _)
            refine ⟨?_, by have := h.nd; rwa [hlk] at this, ⟨⟨A, cap⟩, ms', g, by have := h.P; rw [HKN.out, ← HN.out] at this; exact this, by have := h.O; rwa [hlk] at this⟩, h.pb⟩
            unfold allOk
            rw [List.all_eq_true]
            intro x hx
            obtain ⟨q, hq, he⟩ := List.getElem_of_mem hx
            exact HOK.out q x (by rw [List.getElem?_eq_getElem hq, he]))
          clear hk
          go_wp2_with fail
          (first | go_ret | go_ret2)
          exact .inr (.inr ⟨HEND.out.1, HEND.out.2.1, g + 1, rfl, HEND.out.2.2, HS.out.B⟩)
end Go.Proofs.YtpbbemmjodegkaaDoor
