/-
  Texts: Rob.
-/
import Derived.Test.YtagpphelgghbpaaGreatAk25
set_option linter.unusedSimpArgs false
set_option linter.unusedVariables false
namespace Go.Proofs.YtagpphelgghbpaaGreat
open Go.RowKit

theorem own_lit (w : World) {B : Nat} (l : List Int) (hB : B ≤ w.heap.size) (hl : l.length ≤ 1000000) : XOwns (w.alloc (.cells (ics l).toArray 3)) B 3 1 (some ⟨w.heap.size, 0, none⟩) l.length l.length (ics l) :=
  ⟨World.ownsRow_lit (base := B) (e := 3) (size := 1) w (ics l).toArray l.length hB (by unfold maxLen; omega) (by simp [ics]), fun h => by cases h⟩
theorem ablk (a : Addr) (n : Nat) : (a.add n).block = a.block := by unfold Addr.add; split <;> rfl
theorem ics_app (l l' : List Int) : ics l ++ ics l' = ics (l ++ l') := by simp [ics]
theorem append_i_op {w : World} {o : Oper} {a : Act} {K : Act → World → Prop} {Q : Exit → Act → World → Prop} (s x : Operand)
    (ho : o.op = .call { callee := .builtin .append, args := #[s, x], argTypes := #[25, 25] })
    (B : Nat) (A : Option Addr) (n c : Nat) (l : List Int) (hs : a.eval s = .slice A n c) (hown : XOwns w B 3 1 A n c (ics l))
    (A' : Option Addr) (m c' : Nat) (l' : List Int) (hx : a.eval x = .slice A' m c') (hr : Reads w 1 A' m (ics l')) (hm : 0 < m)
    (hbd : n + m ≤ 1000000) (hB : B ≤ w.heap.size)
    (h : ∀ g c2 w', XOwns w' B 3 1 (some ⟨g, 0, none⟩) (n + m) c2 (ics (l ++ l')) → w.grownBy w' (blkOf A) → Below B w w' → K (a.put o.dst (.slice (some ⟨g, 0, none⟩) (n + m) c2)) w') : o.wp Tryz.prog a w K Q := by
  refine append_x_op s x 25 ho B 3 _ 1 8 tinfo_ints Tryz.underlying25 rfl (by decide) A n c (ics l) hs hown A' m c' (ics l') hx hr (ics_one _) hm (by omega) (by omega) hB _ rfl ?_
  intro g c2 w' h1 h2 _ _
  rw [ics_app] at h1
  exact h g c2 w' h1 h2 (grown_below h2 hB (fun g hg => (hown.lt g hg).1))
theorem append_i {w : World} {ops : Array Oper} {rest : List Oper} {o : Oper} {a : Act} {Q : Exit → Act → World → Prop} (hgd : o.guard = none) (s x : Operand)
    (ho : o.op = .call { callee := .builtin .append, args := #[s, x], argTypes := #[25, 25] })
    (B : Nat) (A : Option Addr) (n c : Nat) (l : List Int) (hs : a.eval s = .slice A n c) (hown : XOwns w B 3 1 A n c (ics l))
    (A' : Option Addr) (m c' : Nat) (l' : List Int) (hx : a.eval x = .slice A' m c') (hr : Reads w 1 A' m (ics l')) (hm : 0 < m)
    (hbd : n + m ≤ 1000000) (hB : B ≤ w.heap.size)
    (h : ∀ g c2 w', XOwns w' B 3 1 (some ⟨g, 0, none⟩) (n + m) c2 (ics (l ++ l')) → w.grownBy w' (blkOf A) → Below B w w' → wpList Tryz.prog ops Q rest (a.put o.dst (.slice (some ⟨g, 0, none⟩) (n + m) c2)) w') : wpList Tryz.prog ops Q (o :: rest) a w :=
  wpList_plain hgd fun _ hK => append_i_op s x ho B A n c l hs hown A' m c' l' hx hr hm hbd hB fun g c2 w' h1 h2 h3 => hK _ _ (h g c2 w' h1 h2 h3)
theorem XOwns.over {w w' : World} {B e size n c : Nat} {A O : Option Addr} {xs : List Value} (h : XOwns w B e size A n c xs) (hg : w.grownBy w' (blkOf O)) (hlt : ∀ i, blkOf O = some i → i < B) : XOwns w' B e size A n c xs :=
  h.grown hg (by
    cases hA : blkOf A with
    | none => exact .inl rfl
    | some i =>
      right
      intro he
      have h1 := (h.lt i hA).1
      have h2 := hlt i he.symm
      omega)
theorem Blk.over {w w' : World} {g t B n c : Nat} {A : Option Addr} {l : List Int} {cs : Array Value} (h : Blk w g t cs) (hx : XOwns w B 3 1 A n c (ics l)) (hg : w.grownBy w' (blkOf A)) (ht : t ≠ 3) : Blk w' g t cs :=
  h.grown hg (fun e => hx.apart_blk h (fun e => ht e.symm) e.symm)
theorem rflag_any (x : Bool) (w : World) : Calls Tryz.prog 107 #[.bool x] w fun e w' => e = .returned (.int .i64 (tf x)) ∧ w = w' := by
  cases x
  all_goals
    go_enter Tryz.func107, Tryz.ntmps107
    go_wp2
    go_ret
    exact ⟨rfl, rfl⟩
def NumEnd (l : List Int) (w : World) (e : Ending) (w' : World) : Prop := ∃ g c, e = .returned (.slice (some ⟨g, 0, none⟩) l.length c) ∧ XOwns w' w.heap.size 3 1 (some ⟨g, 0, none⟩) l.length c (ics l) ∧ Below w.heap.size w w'
def intsN (l : List Int) : List Int := (l.length : Int) :: l
set_option maxHeartbeats 1600000 in
theorem rfints_any (A : Option Addr) (n c : Nat) (l : List Int) (w : World) (hx : Reads w 1 A n (ics l)) (hA : A = none → c = 0) (hn : n ≤ 900000) :
    Calls Tryz.prog 109 #[.slice A n c] w (NumEnd (intsN l) w) := by
  have hl := ilen hx
  obtain ⟨w1, hw1⟩ : ∃ z, w.alloc (.cells #[.int .i64 n] 3) = z := ⟨_, rfl⟩
  have HB1 : Hid (Below w.heap.size w w1) := Lib.hid (by rw [← hw1]; exact (Below.refl _ _).alloc (Nat.le_refl _) _)
  have HO1 : Hid (XOwns w1 w.heap.size 3 1 (some ⟨w.heap.size, 0, none⟩) 1 1 (ics [(n : Int)])) := Lib.hid (by rw [← hw1]; exact own_lit w [(n : Int)] (Nat.le_refl _) (by simp))
  have HX := Lib.hid (hx.below HB1.out)
  have HL := Lib.hid hl
  have HA := Lib.hid hA
  clear hx hl hA
  go_enter Tryz.func109, Tryz.ntmps109
  go_wp2_with (at_builtin; refine append_xr (w := w1) rfl (.tmp 5) (.tmp 6) 25 rfl w.heap.size 3 _ 1 8 tinfo_ints Tryz.underlying25 rfl (by decide) (some ⟨w.heap.size, 0, none⟩) 1 1 (ics [(n : Int)]) rfl HO1.out A n c (ics l) rfl HA.out HX.out (ics_one _) (by omega) (by omega) HB1.out.size ?_; intro A8 c8 w8 ho8 hb8)
  obtain ⟨g8, e8, -, -, -, -⟩ := ho8.cell (j := 0) (u := .int .i64 n) rfl
  subst e8
  have HE : Hid (XOwns w8 w.heap.size 3 1 (some ⟨g8, 0, none⟩) (1 + n) c8 (ics (intsN l)) ∧ Below w.heap.size w w8 ∧ (intsN l).length = 1 + n) := Lib.hid (by
    refine ⟨?_, HB1.out.trans hb8, ?_⟩
    · have h := ho8
      rw [ics_app] at h
      rw [show intsN l = [(n : Int)] ++ l by rw [intsN, HL.out]; rfl]
      exact h
    · rw [intsN, List.length_cons, HL.out, Nat.add_comm])
  clear ho8 hb8 hw1
  go_wp2_with fail
  go_ret
  unfold NumEnd
  rw [HE.out.2.2]
  exact ⟨g8, c8, rfl, HE.out.1, HE.out.2.1⟩
set_option maxRecDepth 100000 in
set_option maxHeartbeats 3200000 in
theorem rfo_r6 (W : World) (g5 : Nat) (o : Ob) (B g n c : Nat) (l : List Int) (h5 : Blk W g5 46 #[.int .i64 o.id, .int .i64 o.card, .int .i64 o.own, .int .i64 o.pow, .int .i64 o.tou, .int .i64 o.dam, .int .i64 o.cnt, .int .i64 o.pp, .int .i64 o.pt, .bool o.tap, .bool o.sick, .bool o.doom]) (hX : XOwns W B 3 1 (some ⟨g, 0, none⟩) n c (ics l)) (hB : B ≤ W.heap.size) (hn : n ≤ 900000) (Q : Exit → Act → World → Prop) (t0 t1 t2 t4 t6 t7 t8 t9 t10 t11 t12 t13 t14 t15 t16 t17 t18 t19 t20 t21 t22 t23 t24 t25 t26 t27 t28 t29 t30 t31 t32 t33 t34 t35 t36 t37 t38 t39 t40 t41 t42 t43 t44 t45 t46 t47 t48 t49 : Value)
    (hQ : ∀ d v c a w, Q (.panic c) (Act.put a d v) w → Q (.panic c) a w)
    (hK : ∀ (u19 u20 u21 u22 u23 u24 u25 u26 u27 u28 u29 u30 u31 u32 u33 u34 u35 u36 u37 u38 u39 u40 u41 u42 u43 u44 u45 u46 u47 u48 : Value) (g9 c9 : Nat) (W9 : World), XOwns W9 B 3 1 (some ⟨g9, 0, none⟩) (n + 12) c9 (ics (l ++ obN o)) ∧ Below B W W9 → Q .normal ⟨#[t0, t1, t2, .slice (some ⟨g9, 0, none⟩) (n + 12) c9, t4, .pointer (some ⟨g5, 0, none⟩), t6, t7, t8, t9, t10, t11, t12, t13, t14, t15, t16, t17, t18, u19, u20, u21, u22, u23, u24, u25, u26, u27, u28, u29, u30, u31, u32, u33, u34, u35, u36, u37, u38, u39, u40, u41, u42, u43, u44, u45, u46, u47, u48, t49], []⟩ W9) :
    Code.wp Tryz.prog (regOf Tryz.f106 6) Q ⟨#[t0, t1, t2, .slice (some ⟨g, 0, none⟩) n c, t4, .pointer (some ⟨g5, 0, none⟩), t6, t7, t8, t9, t10, t11, t12, t13, t14, t15, t16, t17, t18, t19, t20, t21, t22, t23, t24, t25, t26, t27, t28, t29, t30, t31, t32, t33, t34, t35, t36, t37, t38, t39, t40, t41, t42, t43, t44, t45, t46, t47, t48, t49], []⟩ W := by
  have HKK := Lib.hid hK
  clear hK
  conv => arg 2; whnf
  have HP := Lib.hid h5
  have HQ := Lib.hid hQ
  have HXO := Lib.hid hX
  have HBW := Lib.hid hB
  have hne_ : Nonempty (In (fun W' => Blk W' g5 46 #[.int .i64 o.id, .int .i64 o.card, .int .i64 o.own, .int .i64 o.pow, .int .i64 o.tou, .int .i64 o.dam, .int .i64 o.cnt, .int .i64 o.pp, .int .i64 o.pt, .bool o.tap, .bool o.sick, .bool o.doom])) := ⟨⟨W, h5⟩⟩
  have x0 : ∀ s : In (fun W' => Blk W' g5 46 #[.int .i64 o.id, .int .i64 o.card, .int .i64 o.own, .int .i64 o.pow, .int .i64 o.tou, .int .i64 o.dam, .int .i64 o.cnt, .int .i64 o.pp, .int .i64 o.pt, .bool o.tap, .bool o.sick, .bool o.doom]), s.W.cell? ⟨g5, 0, none⟩ = some (.int .i64 o.id) := fun s => (s.h.at_ 0).trans rfl
  have x1 : ∀ s : In (fun W' => Blk W' g5 46 #[.int .i64 o.id, .int .i64 o.card, .int .i64 o.own, .int .i64 o.pow, .int .i64 o.tou, .int .i64 o.dam, .int .i64 o.cnt, .int .i64 o.pp, .int .i64 o.pt, .bool o.tap, .bool o.sick, .bool o.doom]), s.W.cell? ⟨g5, 1, none⟩ = some (.int .i64 o.card) := fun s => (s.h.at_ 1).trans rfl
  have x2 : ∀ s : In (fun W' => Blk W' g5 46 #[.int .i64 o.id, .int .i64 o.card, .int .i64 o.own, .int .i64 o.pow, .int .i64 o.tou, .int .i64 o.dam, .int .i64 o.cnt, .int .i64 o.pp, .int .i64 o.pt, .bool o.tap, .bool o.sick, .bool o.doom]), s.W.cell? ⟨g5, 2, none⟩ = some (.int .i64 o.own) := fun s => (s.h.at_ 2).trans rfl
  have x3 : ∀ s : In (fun W' => Blk W' g5 46 #[.int .i64 o.id, .int .i64 o.card, .int .i64 o.own, .int .i64 o.pow, .int .i64 o.tou, .int .i64 o.dam, .int .i64 o.cnt, .int .i64 o.pp, .int .i64 o.pt, .bool o.tap, .bool o.sick, .bool o.doom]), s.W.cell? ⟨g5, 3, none⟩ = some (.int .i64 o.pow) := fun s => (s.h.at_ 3).trans rfl
  have x4 : ∀ s : In (fun W' => Blk W' g5 46 #[.int .i64 o.id, .int .i64 o.card, .int .i64 o.own, .int .i64 o.pow, .int .i64 o.tou, .int .i64 o.dam, .int .i64 o.cnt, .int .i64 o.pp, .int .i64 o.pt, .bool o.tap, .bool o.sick, .bool o.doom]), s.W.cell? ⟨g5, 4, none⟩ = some (.int .i64 o.tou) := fun s => (s.h.at_ 4).trans rfl
  have x5 : ∀ s : In (fun W' => Blk W' g5 46 #[.int .i64 o.id, .int .i64 o.card, .int .i64 o.own, .int .i64 o.pow, .int .i64 o.tou, .int .i64 o.dam, .int .i64 o.cnt, .int .i64 o.pp, .int .i64 o.pt, .bool o.tap, .bool o.sick, .bool o.doom]), s.W.cell? ⟨g5, 5, none⟩ = some (.int .i64 o.dam) := fun s => (s.h.at_ 5).trans rfl
  have x6 : ∀ s : In (fun W' => Blk W' g5 46 #[.int .i64 o.id, .int .i64 o.card, .int .i64 o.own, .int .i64 o.pow, .int .i64 o.tou, .int .i64 o.dam, .int .i64 o.cnt, .int .i64 o.pp, .int .i64 o.pt, .bool o.tap, .bool o.sick, .bool o.doom]), s.W.cell? ⟨g5, 6, none⟩ = some (.int .i64 o.cnt) := fun s => (s.h.at_ 6).trans rfl
  have x7 : ∀ s : In (fun W' => Blk W' g5 46 #[.int .i64 o.id, .int .i64 o.card, .int .i64 o.own, .int .i64 o.pow, .int .i64 o.tou, .int .i64 o.dam, .int .i64 o.cnt, .int .i64 o.pp, .int .i64 o.pt, .bool o.tap, .bool o.sick, .bool o.doom]), s.W.cell? ⟨g5, 7, none⟩ = some (.int .i64 o.pp) := fun s => (s.h.at_ 7).trans rfl
  have x8 : ∀ s : In (fun W' => Blk W' g5 46 #[.int .i64 o.id, .int .i64 o.card, .int .i64 o.own, .int .i64 o.pow, .int .i64 o.tou, .int .i64 o.dam, .int .i64 o.cnt, .int .i64 o.pp, .int .i64 o.pt, .bool o.tap, .bool o.sick, .bool o.doom]), s.W.cell? ⟨g5, 8, none⟩ = some (.int .i64 o.pt) := fun s => (s.h.at_ 8).trans rfl
  have x9 : ∀ s : In (fun W' => Blk W' g5 46 #[.int .i64 o.id, .int .i64 o.card, .int .i64 o.own, .int .i64 o.pow, .int .i64 o.tou, .int .i64 o.dam, .int .i64 o.cnt, .int .i64 o.pp, .int .i64 o.pt, .bool o.tap, .bool o.sick, .bool o.doom]), s.W.cell? ⟨g5, 9, none⟩ = some (.bool o.tap) := fun s => (s.h.at_ 9).trans rfl
  have x10 : ∀ s : In (fun W' => Blk W' g5 46 #[.int .i64 o.id, .int .i64 o.card, .int .i64 o.own, .int .i64 o.pow, .int .i64 o.tou, .int .i64 o.dam, .int .i64 o.cnt, .int .i64 o.pp, .int .i64 o.pt, .bool o.tap, .bool o.sick, .bool o.doom]), s.W.cell? ⟨g5, 10, none⟩ = some (.bool o.sick) := fun s => (s.h.at_ 10).trans rfl
  have x11 : ∀ s : In (fun W' => Blk W' g5 46 #[.int .i64 o.id, .int .i64 o.card, .int .i64 o.own, .int .i64 o.pow, .int .i64 o.tou, .int .i64 o.dam, .int .i64 o.cnt, .int .i64 o.pp, .int .i64 o.pt, .bool o.tap, .bool o.sick, .bool o.doom]), s.W.cell? ⟨g5, 11, none⟩ = some (.bool o.doom) := fun s => (s.h.at_ 11).trans rfl
  clear h5 hX hB hQ
  refine wp_region_sched (fun w' => ∃ s : In (fun W' => Blk W' g5 46 #[.int .i64 o.id, .int .i64 o.card, .int .i64 o.own, .int .i64 o.pow, .int .i64 o.tou, .int .i64 o.dam, .int .i64 o.cnt, .int .i64 o.pp, .int .i64 o.pt, .bool o.tap, .bool o.sick, .bool o.doom]), w' = s.W) [0,1,2,3,4,5,6,7,8,9,10,11,12,13,14,15,16,17,18,19,20,22,23,25,26] (.one 21 [] (.one 24 [] (.one 27 [] (.one 28 [] (.one 29 [30] .done))))) (by kernel_rfl) (by kernel_rfl) HQ.out ⟨⟨_, HP.out.drew⟩, rfl⟩ ?_
  refine quiet_as (C' := (fun w' => ∃ s : In (fun W' => Blk W' g5 46 #[.int .i64 o.id, .int .i64 o.card, .int .i64 o.own, .int .i64 o.pow, .int .i64 o.tou, .int .i64 o.dam, .int .i64 o.cnt, .int .i64 o.pp, .int .i64 o.pt, .bool o.tap, .bool o.sick, .bool o.doom]), w' = s.W)) rfl ?_
  simp only [opsAt, List.getElem?_toArray, List.getElem?_cons_succ, List.getElem?_cons_zero]
  repeat (go_big_quiet_step (fail))
  refine wpQuiet_nil ?_
  obtain ⟨W_d, hwd⟩ : ∃ v, W.drew = v := ⟨_, rfl⟩
  have HBW_1 : Hid (Below W.heap.size W W_d) := Lib.hid (by rw [← hwd]; exact (Below.refl _ _).drew)
  have HBR_1 : Hid (Below W.heap.size W W_d) := Lib.hid (by rw [← hwd]; exact (Below.refl _ _).drew)
  have P5_1 := Lib.hid ((HP.out).call (show Below W.heap.size W W_d by rw [← hwd]; exact (Below.refl _ _).drew))
  have OUT_1 := Lib.hid ((HXO.out).below (show Below W.heap.size W W_d by rw [← hwd]; exact (Below.refl _ _).drew))
  have FB_1 := Lib.hid (((Below.refl B W)).trans ((show Below W.heap.size W W_d by rw [← hwd]; exact (Below.refl _ _).drew).mono (Nat.le_trans HBW.out ((Below.refl B W)).size)))
  rw [hwd]
  clear hwd
  refine eff_as (C' := (fun w' => ∃ s : In (fun W' => Blk W' g5 46 #[.int .i64 o.id, .int .i64 o.card, .int .i64 o.own, .int .i64 o.pow, .int .i64 o.tou, .int .i64 o.dam, .int .i64 o.cnt, .int .i64 o.pp, .int .i64 o.pt, .bool o.tap, .bool o.sick, .bool o.doom]), w' = s.W)) rfl ?_
  (refine eff_lit rfl rfl (fun K hK => ?_))
  go_big_op
  refine (rflag_any o.tap W_d).mono ?_
  rintro e w_ ⟨rfl, rfl⟩
  refine hK _ _ ⟨⟨_, P5_1.out⟩, rfl⟩ ?_
  clear hK K
  try simp only [opsAt, List.getElem?_toArray, List.getElem?_cons_succ, List.getElem?_cons_zero]
  refine wpQuiet_nil ?_
  refine eff_as (C' := (fun w' => ∃ s : In (fun W' => Blk W' g5 46 #[.int .i64 o.id, .int .i64 o.card, .int .i64 o.own, .int .i64 o.pow, .int .i64 o.tou, .int .i64 o.dam, .int .i64 o.cnt, .int .i64 o.pp, .int .i64 o.pt, .bool o.tap, .bool o.sick, .bool o.doom]), w' = s.W)) rfl ?_
  (refine eff_lit rfl rfl (fun K hK => ?_))
  go_big_op
  refine (rflag_any o.sick W_d).mono ?_
  rintro e w_ ⟨rfl, rfl⟩
  refine hK _ _ ⟨⟨_, P5_1.out⟩, rfl⟩ ?_
  clear hK K
  try simp only [opsAt, List.getElem?_toArray, List.getElem?_cons_succ, List.getElem?_cons_zero]
  refine wpQuiet_nil ?_
  refine eff_as (C' := (fun w' => ∃ s : In (fun W' => Blk W' g5 46 #[.int .i64 o.id, .int .i64 o.card, .int .i64 o.own, .int .i64 o.pow, .int .i64 o.tou, .int .i64 o.dam, .int .i64 o.cnt, .int .i64 o.pp, .int .i64 o.pt, .bool o.tap, .bool o.sick, .bool o.doom]), w' = s.W)) rfl ?_
  (refine eff_lit rfl rfl (fun K hK => ?_))
  go_big_op
  refine (rflag_any o.doom W_d).mono ?_
  rintro e w_ ⟨rfl, rfl⟩
  refine hK _ _ ⟨⟨_, P5_1.out⟩, rfl⟩ ?_
  clear hK K
  try simp only [opsAt, List.getElem?_toArray, List.getElem?_cons_succ, List.getElem?_cons_zero]
  refine wpQuiet_nil ?_
  refine eff_as (C' := (fun w' => ∃ s : In (fun W' => Blk W' g5 46 #[.int .i64 o.id, .int .i64 o.card, .int .i64 o.own, .int .i64 o.pow, .int .i64 o.tou, .int .i64 o.dam, .int .i64 o.cnt, .int .i64 o.pp, .int .i64 o.pt, .bool o.tap, .bool o.sick, .bool o.doom]), w' = s.W)) rfl ?_
  (refine eff_lit rfl rfl (fun K hK => ?_))
  go_big_op
  obtain ⟨W_2, hvW_2⟩ : ∃ v, (W_d.alloc (.cells #[.int .i64 o.id, .int .i64 o.card, .int .i64 o.own, .int .i64 o.pow, .int .i64 o.tou, .int .i64 o.dam, .int .i64 o.cnt, .int .i64 o.pp, .int .i64 o.pt, .int .i64 (tf o.tap), .int .i64 (tf o.sick), .int .i64 (tf o.doom)] 3)) = v := ⟨_, rfl⟩
  have hbW_2 : Below W_d.heap.size W_d W_2 := by rw [← hvW_2]; exact (Below.refl _ _).alloc (Nat.le_refl _) _
  obtain ⟨gL, hggL⟩ : ∃ v, W_d.heap.size = v := ⟨_, rfl⟩
  have hkW_2 : Blk W_2 gL 3 #[.int .i64 o.id, .int .i64 o.card, .int .i64 o.own, .int .i64 o.pow, .int .i64 o.tou, .int .i64 o.dam, .int .i64 o.cnt, .int .i64 o.pp, .int .i64 o.pt, .int .i64 (tf o.tap), .int .i64 (tf o.sick), .int .i64 (tf o.doom)] := by rw [← hvW_2]; exact Blk.mk_ _ _ _ _ hggL
  have HNgL : Hid (W.heap.size ≤ gL ∧ W.heap.size ≤ gL) := Lib.hid ⟨by rw [← hggL]; exact HBR_1.out.size, by rw [← hggL]; exact HBW_1.out.size⟩
  rw [hvW_2, hggL]
  have LI_3 := Lib.hid (hkW_2)
  have HBW_3 := Lib.hid (below_call HBW_1.out hbW_2 HBW_1.out.size)
  clear HBW_1
  have HBR_3 := Lib.hid (below_call HBR_1.out hbW_2 HBR_1.out.size)
  clear HBR_1
  have P5_3 := Lib.hid (P5_1.out.call hbW_2)
  clear P5_1
  have OUT_3 := Lib.hid (OUT_1.out.below hbW_2)
  clear OUT_1
  have FB_3 := Lib.hid (FB_1.out.trans (hbW_2.mono (Nat.le_trans HBW.out FB_1.out.size)))
  clear FB_1
  clear hkW_2 hvW_2 hggL hbW_2
  refine hK _ _ ⟨⟨_, P5_3.out⟩, rfl⟩ ?_
  clear hK K
  try simp only [opsAt, List.getElem?_toArray, List.getElem?_cons_succ, List.getElem?_cons_zero]
  refine wpQuiet_nil ?_
  refine eff_as (C' := (fun w' => ∃ s : In (fun W' => Blk W' g5 46 #[.int .i64 o.id, .int .i64 o.card, .int .i64 o.own, .int .i64 o.pow, .int .i64 o.tou, .int .i64 o.dam, .int .i64 o.cnt, .int .i64 o.pp, .int .i64 o.pt, .bool o.tap, .bool o.sick, .bool o.doom]), w' = s.W)) rfl ?_
  (refine eff_lit rfl rfl (fun K hK => ?_))
  refine append_i_op (w := W_2) (.tmp 19) (.tmp 47) rfl B (some ⟨g, 0, none⟩) (n) c l rfl OUT_3.out (some ⟨gL, 0, none⟩) (12) 12 (obN o) rfl (reads_block LI_3.out 1 12 rfl) (by decide) (by omega) (Nat.le_trans HBW.out FB_3.out.size) ?_
  intro gqW_4 cqW_4 W_4 hoqW_4 hgqW_4 hbqW_4
  simp only [Act.put, List.setIfInBounds_toArray, List.set_cons_succ, List.set_cons_zero]
  have OUT_5 := Lib.hid (hoqW_4)
  have P5_5 := Lib.hid (P5_3.out.over OUT_3.out hgqW_4 (by decide))
  clear P5_3
  have FB_5 := Lib.hid (FB_3.out.trans hbqW_4)
  clear FB_3
  clear hoqW_4 hgqW_4 hbqW_4
  refine hK _ _ ⟨⟨_, P5_5.out⟩, rfl⟩ ?_
  clear hK K
  try simp only [opsAt, List.getElem?_toArray, List.getElem?_cons_succ, List.getElem?_cons_zero]
  repeat (go_big_quiet_step (fail))
  refine wpQuiet_nil ?_
  refine effs_done ?_
  exact HKK.out _ _ _ _ _ _ _ _ _ _ _ _ _ _ _ _ _ _ _ _ _ _ _ _ _ _ _ _ _ _ gqW_4 cqW_4 _ ⟨OUT_5.out, FB_5.out⟩

theorem flatMap_snoc {α : Type} [Inhabited α] {f : α → List Int} {l : List α} {k : Nat} {x : α} (h : l[k]? = some x) : (l.take (k + 1)).flatMap f = (l.take k).flatMap f ++ f x := by rw [take_snoc h]; simp
set_option maxRecDepth 100000 in
set_option maxHeartbeats 3200000 in
theorem rfobjs_any (w : World) (l : List Ob) (n c : Nat) (A : Option Addr) (hL : Reads w 12 A n (ocs l)) (hl : l.length = n) (hn : n ≤ 500) :
    Calls Tryz.prog 106 #[.slice A n c] w (NumEnd (obsN l) w) := by
  obtain ⟨w1, hw1⟩ : ∃ z, w.alloc (.cells #[.int .i64 n] 3) = z := ⟨_, rfl⟩
  have HB1 : Hid (Below w.heap.size w w1) := Lib.hid (by rw [← hw1]; exact (Below.refl _ _).alloc (Nat.le_refl _) _)
  have HO1 : Hid (XOwns w1 w.heap.size 3 1 (some ⟨w.heap.size, 0, none⟩) 1 1 (ics ((n : Int) :: (l.take 0).flatMap obN))) := Lib.hid (by rw [← hw1]; exact own_lit w [(n : Int)] (Nat.le_refl _) (by simp))
  have HL := Lib.hid hL
  have HLL := Lib.hid hl
  clear hL hl
  go_enter Tryz.func106, Tryz.ntmps106
  go_wp2_with fail
  obtain ⟨g1, hg1⟩ : ∃ z, w.heap.size = z := ⟨_, rfl⟩
  clear hw1
  go_loopw [3, 4] (fun a i W => ∃ (k q g c : Nat), k ≤ n ∧ q ≤ 1 + 12 * k ∧ i = .int .i64 k ∧ a = .slice (some ⟨g, 0, none⟩) q c ∧ Hid (XOwns W w.heap.size 3 1 (some ⟨g, 0, none⟩) q c (ics ((n : Int) :: (l.take k).flatMap obN)) ∧ Below w.heap.size w W)) (fun _ i _ => n - (intOf i).toNat)
  case atStart => exact ⟨0, 1, _, 1, Nat.zero_le _, by omega, rfl, rfl, Lib.hid ⟨HO1.out, HB1.out⟩⟩
  case round =>
    obtain ⟨k, q, g, c, hk, hq, rfl, rfl, HI⟩ := hrel
    clear HO1 HB1 hg1
    by_cases hkn : k < n
    · have hkn' : (k : Int) < n := by omega
      have HKN := Lib.hid hkn
      have HQ1 := Lib.hid hq
      have HN5 := Lib.hid hn
      obtain ⟨o, ho⟩ := get_of (l := l) (k := k) (by rw [HLL.out]; exact hkn)
      have hrow := HL.out.below HI.out.2
      obtain ⟨ad, rfl, hadl, c0, c1, c2, c3, c4, c5, c6, c7, c8, c9, c10, c11⟩ := obj_at hrow ho hkn
      have HSP := Lib.hid (show ((n : Int) :: (l.take (k + 1)).flatMap obN) = ((n : Int) :: (l.take k).flatMap obN) ++ obN o by rw [flatMap_snoc ho]; rfl)
      obtain ⟨w5, hw5⟩ : ∃ z, wr.alloc (.cells #[.int .i64 o.id, .int .i64 o.card, .int .i64 o.own, .int .i64 o.pow, .int .i64 o.tou, .int .i64 o.dam, .int .i64 o.cnt, .int .i64 o.pp, .int .i64 o.pt, .bool o.tap, .bool o.sick, .bool o.doom] 46) = z := ⟨_, rfl⟩
      have hb5 : Below wr.heap.size wr w5 := by rw [← hw5]; exact (Below.refl _ _).alloc (Nat.le_refl _) _
      have HK5 : Hid (Blk w5 wr.heap.size 46 #[.int .i64 o.id, .int .i64 o.card, .int .i64 o.own, .int .i64 o.pow, .int .i64 o.tou, .int .i64 o.dam, .int .i64 o.cnt, .int .i64 o.pp, .int .i64 o.pt, .bool o.tap, .bool o.sick, .bool o.doom]) := Lib.hid (by rw [← hw5]; exact Blk.mk_ _ _ _ _ rfl)
      have HX5 := Lib.hid (HI.out.1.below hb5)
      have HB5 := Lib.hid (below_call HI.out.2 hb5 HI.out.2.size)
      clear hrow ho hadl hb5 HI hkn hk hq
      go_wp2_with fail
      refine rfo_r6 w5 wr.heap.size o w.heap.size g q c _ HK5.out HX5.out HB5.out.size (by have := HQ1.out; have := HN5.out; have := HKN.out; omega) _ _ _ _ _ _ _ _ _ _ _ _ _ _ _ _ _ _ _ _ _ _ _ _ _ _ _ _ _ _ _ _ _ _ _ _ _ _ _ _ _ _ _ _ _ _ _ _ _ ?_ ?_
      · exact fun d _ _ _ _ h => by cases d <;> exact h
      intro v19 v20 v21 v22 v23 v24 v25 v26 v27 v28 v29 v30 v31 v32 v33 v34 v35 v36 v37 v38 v39 v40 v41 v42 v43 v44 v45 v46 v47 v48 g9 c9 w9 h9
      have HI9 := Lib.hid (show XOwns w9 w.heap.size 3 1 (some ⟨g9, 0, none⟩) (q + 12) c9 (ics ((n : Int) :: (l.take (k + 1)).flatMap obN)) ∧ Below w.heap.size w w9 from ⟨by rw [HSP.out]; exact h9.1, HB5.out.trans h9.2⟩)
      clear h9 hw5
      go_wp2_with fail
      go_roundw
      case rel => exact ⟨k + 1, q + 12, g9, c9, HKN.out, by have := HQ1.out; omega, by go_num, rfl, HI9⟩
      case measure => simp [intOf]; have := HKN.out; omega
    · have HKE : Hid (k = n) := Lib.hid (by omega)
      have HN : Hid ((obsN l).length = q) := Lib.hid (by
        have h := HI.out.1.len
        rw [List.take_of_length_le (by rw [HLL.out, HKE.out]; exact Nat.le_refl _)] at h
        rw [obsN, HLL.out]
        simpa [ics] using h)
      clear hk
      go_wp2_with fail
      go_ret
      unfold NumEnd
      rw [HN.out]
      refine ⟨g, c, rfl, ?_, HI.out.2⟩
      have h := HI.out.1
      rw [List.take_of_length_le (by rw [HLL.out, HKE.out]; exact Nat.le_refl _)] at h
      rw [obsN, HLL.out]
      exact h
end Go.Proofs.YtagpphelgghbpaaGreat
